/- Ev19, Ev20, Ev21, Ev22, Ev23, Ev24, Gn10, Gn11, Gn12, Ev25, Ev26, Gn13, Gn14, Ev27, Ev28, Ev29, Ev30, Ev31, Ev32, Ev33, Gn28, Gn29, put together. -/
import Derived.Test.YtanbipbiblikbaaDoorPc4
namespace Xe
open Go
theorem qo {a b : Int} (ha : 0<=a) (hb : 0<=b) (h : a ≠ b) : idK a ≠ idK b:=fun e=>by
 unfold idK at e
 simp only [IdT.mk.injEq] at e
 have h1 : a.tdiv 32 = a / 32:=Int.tdiv_eq_ediv_of_nonneg ha
 have h2 : b.tdiv 32 = b / 32:=Int.tdiv_eq_ediv_of_nonneg hb
 have h3 : a.tmod 32 = a % 32:=Int.tmod_eq_emod_of_nonneg ha
 have h4 : b.tmod 32 = b % 32:=Int.tmod_eq_emod_of_nonneg hb
 omega
def dK (ps : List PlanT) : Nat:=(ps.map fun p=>p.types.length).sum
theorem mQ (p : PlanT) (ps : List PlanT) : dK (p::ps) = p.types.length+dK ps:=by simp [dK]
theorem qV (a b : List PlanT) : dK (a++b) = dK a+dK b:=by simp [dK]
theorem ku : ∀ (a b : List PlanT) (i next : Int),aS (a++b) i next = aS a i next++aS b (i+a.length) (next+dK a)
 | [],b,i,next=>by simp [aS,dK]
 | p::a,b,i,next=>by
  rw [List.cons_append,aS,aS,ku a b,List.cons_append,mQ,List.length_cons]
  rw [show i+1+(a.length : Int) = i+((a.length+1 : Nat) : Int) by omega,show next+(p.types.length : Int)+(dK a : Int) = next+((p.types.length+dK a : Nat) : Int) by omega]
theorem dg (ps : List PlanT) (i next : Int) {j : Nat} (hj : j < ps.length) (hj' : j < (aS ps i next).length) : (aS ps i next)[j] = ig ps[j] (i+j) (next+dK (ps.take j)):=by
 have e : ps = ps.take j++ps[j]::ps.drop (j+1):=by rw [<-List.drop_eq_getElem_cons hj,List.take_append_drop]
 have hl : (aS (ps.take j) i next).length = j:=by rw [cC,List.length_take];omega
 have h1 : aS ps i next = aS (ps.take j) i next++aS (ps[j]::ps.drop (j+1)) (i+j) (next+dK (ps.take j)):=by
  conv=>lhs;rw [e]
  rw [ku,List.length_take,Nat.min_eq_left Q0]
 have : (aS ps i next)[j]? = some (ig ps[j] (i+j) (next+dK (ps.take j))):=by
  rw [h1,List.getElem?_append_right Q0,hl,Nat.sub_self,aS]
  rfl
 rw [List.getElem?_eq_getElem hj'] at this
 exact Option.some.inj this
theorem Dq (p : PlanT) (next : Int) : (dG p next).map SlotT.ty = p.types:=by
 unfold dG
 rw [List.map_map]
 apply List.ext_getElem
 ·simp
 ·intro i h1 h2
  simp [List.getD_eq_getElem?_getD,List.getElem?_eq_getElem h2]
theorem bY (p : PlanT) (next : Int) : (dG p next).length = p.types.length:=by simp [dG]
theorem eM {p : PlanT} {next : Int} {s : SlotT} (h : s∈dG p next) : s.ty∈p.types:=by
 rw [<-Dq p next]
 exact List.mem_map_of_mem h
def DefT.setBody (d : DefT) (e : Ex) : DefT:=⟨d.id,d.kind,d.mod,d.name,d.slots,d.result,e,d.place,d.layout⟩
def DefT.sh (d : DefT) : DefT:=d.setBody ex0
theorem cT {a b : DefT} (h : a.sh = b.sh) : a.id = b.id/\a.kind = b.kind/\a.mod = b.mod/\a.name = b.name/\a.slots = b.slots/\a.result = b.result/\a.place = b.place/\a.layout = b.layout:=by
 unfold DefT.sh DefT.setBody at h
 simp only [DefT.mk.injEq] at h
 exact ⟨h.1,h.2.1,h.2.2.1,h.2.2.2.1,h.2.2.2.2.1,h.2.2.2.2.2.1,h.2.2.2.2.2.2.2.1,h.2.2.2.2.2.2.2.2⟩
def dN (a b : List DefT) : Prop:=a.map DefT.sh = b.map DefT.sh
theorem dN.refl (a : List DefT) : dN a a:=rfl
theorem dN.len {a b : List DefT} (h : dN a b) : a.length = b.length:=by have:=congrArg List.length h;simpa using this
theorem dN.get {a b : List DefT} (h : dN a b) {k : Nat} (ha : k < a.length) (hb : k < b.length) : a[k].sh = b[k].sh:=by
 have : (a.map DefT.sh)[k]? = (b.map DefT.sh)[k]?:=by rw [h]
 simpa [List.getElem?_eq_getElem ha,List.getElem?_eq_getElem hb] using this
theorem dN.set {a b : List DefT} (h : dN a b) {k : Nat} (ha : k < a.length) (e : Ex) : dN (a.set k (a[k].setBody e)) b:=by
 unfold dN at *
 rw [<-h]
 apply List.ext_getElem
 ·simp
 ·intro i h1 h2
  simp only [List.getElem_map,List.getElem_set]
  split
  ·rename_i he;subst he;rfl
  ·rfl
theorem dN.the {ms ns : List ModT} {a b : List DefT} (h : dN a b) (i : IdT) : (aj ⟨ms,a⟩ i).sh = (aj ⟨ns,b⟩ i).sh:=by
 unfold aj
 dsimp only
 induction a generalizing b with
 | nil =>
  cases b with
  | nil=>rfl
  | cons y b=>have:=h.len;simp at this
 | cons x a ih =>
  cases b with
  | nil=>have:=h.len;simp at this
  | cons y b =>
   unfold dN at h
   simp only [List.map_cons,List.cons.injEq] at h
   have hid:=(cT h.1).1
   rw [List.find?_cons,List.find?_cons,hid]
   cases decide (y.id = i) with
   | true=>exact h.1
   | false=>exact ih h.2
theorem dN.mem {a b : List DefT} (h : dN a b) {d : DefT} (hd : d∈a) : ∃ e∈b,d.sh = e.sh:=by
 obtain ⟨k,hk,rfl⟩:=List.mem_iff_getElem.1 hd
 have hk' : k < b.length:=by rw [<-h.len];exact hk
 exact ⟨_,List.getElem_mem hk',h.get hk hk'⟩
theorem dN.wf {ms ns : List ModT} {a b : List DefT} (h : dN a b) : ∀ (n : Nat) (t : Ty),wfT ⟨ns,b⟩ n t->wfT ⟨ms,a⟩ n t
 | 0,_,w=>w
 | n+1,t,w=>by
  have hp:=cT (h.the (ms:=ms) (ns:=ns) t.df)
  rw [wfT] at w ⊢
  rcases w with w | w | w | w
  ·exact .inl w
  ·exact .inr (.inl w)
  ·exact .inr (.inr (.inl ⟨w.1,w.2.1,h.wf n _ w.2.2⟩))
  ·refine .inr (.inr (.inr ⟨w.1,w.2.1,w.2.2.1,?_,?_,?_⟩))
   ·rw [hp.2.2.2.2.1];exact w.2.2.2.1
   ·rw [hp.2.2.2.2.1,hp.2.1];exact w.2.2.2.2.1
   ·rw [hp.2.2.2.2.1];exact fun s hs=>h.wf n _ (w.2.2.2.2.2 s hs)
structure Base (p : ProgT) (R : Nat) : Prop where
 gen : GenOk p R
 resA : ∀ d∈p.defs,wfT p R d.result
 sty : ∀ d∈p.defs,∀ x∈d.slots,x.ty.size<=1000
 rty : ∀ d∈p.defs,d.result.size<=1000
 e0 : ∀ d∈p.defs,0 < d.slots.length
 d0 : 0 < p.defs.length
 d1 : p.defs.length<=100
theorem Base.like {ms : List ModT} {a b : List DefT} {R : Nat} (hb : Base ⟨ms,b⟩ R) (h : dN a b) : Base ⟨ms,a⟩ R:=by
 have get : ∀ d∈a,∃ e∈b,d.id = e.id/\d.kind = e.kind/\d.slots = e.slots/\d.result = e.result:=fun d hd=>by
  obtain ⟨e,he,hs⟩:=h.mem hd
  have:=cT hs
  exact ⟨e,he,this.1,this.2.1,this.2.2.2.2.1,this.2.2.2.2.2.1⟩
 refine ⟨⟨fun d hd=>?_,fun d hd hk=>?_,fun d hd s hs=>?_,fun d hd hk=>?_,fun d hd hk=>?_,hb.gen.R2⟩,fun d hd=>?_,fun d hd x hx=>?_,fun d hd=>?_,fun d hd=>?_,by rw [h.len];exact hb.d0,by rw [h.len];exact hb.d1⟩
 all_goals obtain ⟨e,he,h1,h2,h3,h4⟩:=get d hd
 ·rw [h3];exact hb.gen.short e he
 ·rw [h3];exact hb.gen.kase e he (by rw [<-h2];exact hk)
 ·rw [h3] at hs;exact h.wf _ _ (hb.gen.slot e he s hs)
 ·rw [h4];exact h.wf _ _ (hb.gen.res e he (by rw [<-h2];exact hk))
 ·rw [h1];exact h.wf _ _ (hb.gen.own e he (by rw [<-h2];exact hk))
 ·rw [h4];exact h.wf _ _ (hb.resA e he)
 ·rw [h3] at hx;exact hb.sty e he x hx
 ·rw [h4];exact hb.rty e he
 ·rw [h3];exact hb.e0 e he
def qY : ByteArray:=⟨#[99,111,114,101]⟩
def Ca : ByteArray:=⟨#[109,105,108,108]⟩
def bL (m : Int) : List PlanT->Int->List IdT
 | [],_=>[]
 | p::ps,i=>(if p.mod = m then [idK i] else [])++bL m ps (i+1)
theorem nw (m : Int) : ∀ (a b : List PlanT) (i : Int),bL m (a++b) i = bL m a i++bL m b (i+a.length)
 | [],b,i=>by simp [bL]
 | p::a,b,i=>by rw [List.cons_append,bL,bL,nw m a b,List.length_cons,List.append_assoc,show i+1+(a.length : Int) = i+((a.length+1 : Nat) : Int) by omega]
def dO (l : List Int) : List ModT :=
 if ax l = 1 then [⟨idK 0,qY,[],bL 0 (bp l 1) 1⟩] else [⟨idK 0,qY,[],bL 0 (bp l 2) 2⟩,⟨idK 1,Ca,[idK 0],bL 1 (bp l 2) 2⟩]
def gL (l : List Int) : List PlanT:=bp l (ax l)
def aX (l : List Int) : List DefT:=aS (gL l) (ax l) (ax l+(gL l).length)
def iU (l : List Int) : Int:=ax l+(gL l).length+dK (gL l)
theorem jM (l : List Int) : ax l = 1\/ax l = 2:=by
 have:=cA l 0 2 Q0
 unfold ax
 omega
section
variable {l : List Int} {n : Int}
theorem Di {j : Nat} (hj : j < (bp l n).length) (h : (bp l n)[j].kind = 0\/(bp l n)[j].kind = 1) : j < 2\/(eA l = true/\j < 4):=by
 have e : (bp l n)[j]? = some (bp l n)[j]:=List.getElem?_eq_getElem hj
 generalize (bp l n)[j] = p at h e
 unfold bp eJ eK kq at e
 by_cases hf : eA l = true
 ·rw [if_pos hf,if_pos hf] at e
  rcases j with _ | _ | _ | _ | j
  ·exact .inl Q0
  ·exact .inl Q0
  ·exact .inr ⟨hf,Q0⟩
  ·exact .inr ⟨hf,Q0⟩
  ·exfalso
   simp only [List.cons_append,List.nil_append,List.getElem?_cons_succ] at e
   rcases j with _ | _ | _ | j
   ·simp only [List.getElem?_cons_zero,Option.some.injEq] at e;subst e;simp [pF] at h
   ·simp only [List.getElem?_cons_succ,List.getElem?_cons_zero,Option.some.injEq] at e;subst e;simp [lR] at h
   ·simp only [List.getElem?_cons_succ,List.getElem?_cons_zero,Option.some.injEq] at e;subst e;simp [pT] at h
   ·simp only [List.getElem?_cons_succ] at e
    split at e
    ·rcases j with _ | j
     ·simp only [List.getElem?_cons_zero,Option.some.injEq] at e;subst e;simp [pC] at h
     ·simp at e
    ·simp at e
 ·rw [if_neg hf,if_neg hf] at e
  rcases j with _ | _ | j
  ·exact .inl Q0
  ·exact .inl Q0
  ·exfalso
   simp only [List.cons_append,List.nil_append,List.append_nil,List.getElem?_cons_succ] at e
   rcases j with _ | _ | _ | j
   ·simp only [List.getElem?_cons_zero,Option.some.injEq] at e;subst e;simp [pF] at h
   ·simp only [List.getElem?_cons_succ,List.getElem?_cons_zero,Option.some.injEq] at e;subst e;simp [pG] at h
   ·simp only [List.getElem?_cons_succ,List.getElem?_cons_zero,Option.some.injEq] at e;subst e;simp [pT] at h
   ·simp only [List.getElem?_cons_succ] at e
    split at e
    ·rcases j with _ | j
     ·simp only [List.getElem?_cons_zero,Option.some.injEq] at e;subst e;simp [pC] at h
     ·simp at e
    ·simp at e
theorem oL {ms : List ModT} (hn : 0<=n) {ps : List PlanT} {next : Int} {j : Nat} (hj : j < ps.length) : dc ⟨ms,aS ps n next⟩ (idK (n+j))/\aj ⟨ms,aS ps n next⟩ (idK (n+j)) = ig ps[j] (n+j) (next+dK (ps.take j)):=by
 have hl:=cC ps n next
 have h:=gm (p:=⟨ms,aS ps n next⟩) (id:=idK (n+j)) (k:=j) (by rw [hl];exact hj) (fun i hi hlt=>by
  rw [dg ps n next (by rw [hl] at hi;exact hi) hi]
  exact qo Q0 Q0 Q0) (by rw [dg ps n next hj (by rw [hl];exact hj)];rfl)
 rwa [dg ps n next hj (by rw [hl];exact hj)] at h
theorem Bx {p : ProgT} {k : Nat} {i : IdT} {d : DefT} (h : aj p i = d) (h3 : d.slots.length<=3) (h1 : 0 < d.slots.length) (hs : ∀ s∈d.slots,wfT p k s.ty) : wfT p (k+1) (ofT i):=by
 rw [wfT]
 refine .inr (.inr (.inr ⟨show (3 : Int) ≠ 0 by decide,show (3 : Int) ≠ 1 by decide,show (3 : Int) ≠ 2 by decide,?_⟩))
 rw [show (ofT i).df = i from rfl,h]
 exact ⟨h3,fun _=>h1,hs⟩
theorem wf_s {p : ProgT} {k : Nat} {t : Ty} (h : t = ty0\/t = tyL\/t = bE ty0) : wfT p (k+2) t:=by
 rcases h with rfl | rfl | rfl
 ·rw [wfT];exact .inl rfl
 ·rw [wfT];exact .inr (.inl rfl)
 ·exact lD Q0
end
theorem nh.size {l : List Int} {n : Int} {t : Ty} (h : nh l n t) : t.size<=1000:=by
 rcases h with rfl | rfl | rfl | rfl | rfl | ⟨_,rfl | rfl⟩ <;> first | decide | simp [ofT,Ty.size,Ty.sizes]
theorem G4 (l : List Int) : Base ⟨dO l,aX l⟩ 5/\∀ d∈aX l,∀ s∈d.slots,wfT ⟨dO l,aX l⟩ 4 s.ty:=by
 have hn : 1<=ax l:=by rcases jM l with h | h <;> omega
 unfold aX
 generalize hps : gL l = ps
 have hok : ∀ p∈ps,PlanOk l (ax l) p:=by rw [<-hps];exact lO hn
 have hlen:=gq l (ax l)
 unfold gL at hps
 rw [hps] at hlen
 generalize hnx : ax l+(ps.length : Int) = next
 generalize dO l = ms
 have hdl:=cC ps (ax l) next
 -- the types of definitions
 have point : wfT ⟨ms,aS ps (ax l) next⟩ 3 (tyD (ax l)):=by
  have h0 : 0 < ps.length:=Q0
  have e:=(oL (ms:=ms) (n:=ax l) Q0 (next:=next) h0).2
  have ep : ps[0] = kr l (ax l):=by subst hps;rfl
  rw [ep,show ax l+((0 : Nat) : Int) = ax l by omega] at e
  have ok:=vP (l:=l) (n:=ax l) hn
  refine Bx e (by rw [ig,bY];exact ok.t3) (by rw [ig,bY];exact ok.t1) fun s hs=>?_
  obtain ⟨i,_,hi⟩:=List.mem_map.1 (show s.ty∈gf l 3 3 (tyD (ax l)) _ from eM hs)
  rw [<-hi]
  exact wf_s (C4 (cA l _ 3 Q0) _ _)
 have mid : ∀ t,(t = ty0\/t = tyL\/t = bE ty0\/t = tyD (ax l))->wfT ⟨ms,aS ps (ax l) next⟩ 3 t:=fun t h=>by
  rcases h with h | h | h | h
  ·exact wf_s (.inl h)
  ·exact wf_s (.inr (.inl h))
  ·exact wf_s (.inr (.inr h))
  ·rw [h];exact point
 have mids : ∀ q m k,∀ t∈ty0::gf l q m (tyD (ax l)) k,wfT ⟨ms,aS ps (ax l) next⟩ 3 t:=fun q m k t ht=>by
  rcases List.mem_cons.1 ht with rfl | ht
  ·exact mid _ (.inl rfl)
  ·obtain ⟨i,_,hi⟩:=List.mem_map.1 ht
   rw [<-hi]
   refine mid _ ?_
   rcases vA (atL l (q+(i : Int)) m) (tyD (ax l)) (tyD (ax l)) with h | h | h | h | h
   ·exact .inl h
   ·exact .inr (.inl h)
   ·exact .inr (.inr (.inl h))
   ·exact .inr (.inr (.inr h))
   ·exact .inr (.inr (.inr h))
 have event : wfT ⟨ms,aS ps (ax l) next⟩ 4 (tyD (ax l+1)):=by
  have h0 : 1 < ps.length:=Q0
  have e:=(oL (ms:=ms) (n:=ax l) Q0 (next:=next) h0).2
  have ep : ps[1] = lS l (ax l):=by subst hps;rfl
  rw [ep,show ax l+((1 : Nat) : Int) = ax l+1 by omega] at e
  have ok:=vQ (l:=l) (n:=ax l) hn
  exact Bx e (by rw [ig,bY];exact ok.t3) (by rw [ig,bY];exact ok.t1) fun s hs=>mids _ _ _ _ (eM hs)
 have five : eA l = true->wfT ⟨ms,aS ps (ax l) next⟩ 4 (tyD (ax l+2))/\wfT ⟨ms,aS ps (ax l) next⟩ 5 (tyD (ax l+3)):=fun hf=>by
  have h2 : 2 < ps.length:=Q0
  have h3 : 3 < ps.length:=Q0
  have e2:=(oL (ms:=ms) (n:=ax l) Q0 (next:=next) h2).2
  have e3:=(oL (ms:=ms) (n:=ax l) Q0 (next:=next) h3).2
  have ep2 : ps[2] = iS l (ax l):=by
   have : ps[2]? = some (iS l (ax l)):=by rw [<-hps];unfold bp eJ eK;rw [if_pos hf];rfl
   rw [List.getElem?_eq_getElem h2] at this
   exact Option.some.inj this
  have ep3 : ps[3] = od (ax l):=by
   have : ps[3]? = some (od (ax l)):=by rw [<-hps];unfold bp eJ eK;rw [if_pos hf];rfl
   rw [List.getElem?_eq_getElem h3] at this
   exact Option.some.inj this
  rw [ep2,show ax l+((2 : Nat) : Int) = ax l+2 by omega] at e2
  rw [ep3,show ax l+((3 : Nat) : Int) = ax l+3 by omega] at e3
  have ok2:=vO (l:=l) (n:=ax l) hn
  have ok3:=B4 (l:=l) (n:=ax l) hn hf
  have state:=Bx e2 (by rw [ig,bY];exact ok2.t3) (by rw [ig,bY];exact ok2.t1) fun s hs=>mids _ _ _ _ (eM hs)
  refine ⟨state,Bx e3 (by rw [ig,bY];exact ok3.t3) (by rw [ig,bY];exact ok3.t1) fun s hs=>?_⟩
  have:=eM hs
  simp only [od,List.mem_cons,List.not_mem_nil,or_false] at this
  rcases this with h | h | h <;> rw [h]
  ·exact state
  ·exact bI Q0 (mid _ (.inr (.inr (.inl rfl))))
  ·exact bI Q0 (mid _ (.inl rfl))
 have all : ∀ t,nh l (ax l) t->wfT ⟨ms,aS ps (ax l) next⟩ 5 t:=fun t h=>by
  rcases h with h | h | h | h | h | ⟨hf,h | h⟩
  ·exact bI Q0 (mid _ (.inl h))
  ·exact bI Q0 (mid _ (.inr (.inl h)))
  ·exact bI Q0 (mid _ (.inr (.inr (.inl h))))
  ·rw [h];exact bI Q0 point
  ·rw [h];exact bI Q0 event
  ·rw [h];exact bI Q0 (five hf).1
  ·rw [h];exact (five hf).2
 have four : ∀ t,TyS l (ax l) t->wfT ⟨ms,aS ps (ax l) next⟩ 4 t:=fun t h=>by
  rcases h with h | h | h | h | h | ⟨hf,h⟩
  ·exact bI Q0 (mid _ (.inl h))
  ·exact bI Q0 (mid _ (.inr (.inl h)))
  ·exact bI Q0 (mid _ (.inr (.inr (.inl h))))
  ·rw [h];exact bI Q0 point
  ·rw [h];exact event
  ·rw [h];exact (five hf).1
 have get : ∀ d∈aS ps (ax l) next,∃ j,∃ hj : j < ps.length,d = ig ps[j] (ax l+j) (next+dK (ps.take j)):=fun d hd=>by
  obtain ⟨j,hj,rfl⟩:=List.mem_iff_getElem.1 hd
  exact ⟨j,by rw [hdl] at hj;exact hj,dg ps _ _ _ _⟩
 refine ⟨⟨⟨fun d hd=>?_,fun d hd hk=>?_,fun d hd s hs=>?_,fun d hd hk=>?_,fun d hd hk=>?_,Q0⟩,fun d hd=>?_,fun d hd x hx=>?_,fun d hd=>?_,fun d hd=>?_,by show 0 < (aS ps (ax l) next).length;omega,by show (aS ps (ax l) next).length<=100;omega⟩,fun d hd s hs=>?_⟩
 all_goals obtain ⟨j,hj,rfl⟩:=get d hd
 all_goals have ok:=hok _ (List.getElem_mem hj)
 ·rw [ig,bY];exact ok.t3
 ·rw [ig,bY];exact ok.t1
 ·exact all _ (ok.tys _ (eM hs)).up
 ·exact all _ ok.res
 ·refine all _ ?_
  have hk' : ps[j].kind = 0\/ps[j].kind = 1:=hk
  subst hps
  rcases Di hj hk' with h | ⟨hf,h⟩
  ·rcases j with _ | _ | j
   ·show nh l (ax l) (tyD (ax l+((0 : Nat) : Int)));rw [show ax l+((0 : Nat) : Int) = ax l by omega];exact nh.p
   ·exact nh.e
   ·omega
  ·rcases j with _ | _ | _ | _ | j
   ·show nh l (ax l) (tyD (ax l+((0 : Nat) : Int)));rw [show ax l+((0 : Nat) : Int) = ax l by omega];exact nh.p
   ·exact nh.e
   ·exact .inr (.inr (.inr (.inr (.inr ⟨hf,.inl rfl⟩))))
   ·exact .inr (.inr (.inr (.inr (.inr ⟨hf,.inr rfl⟩))))
   ·omega
 ·exact all _ ok.res
 ·exact (ok.tys _ (eM hx)).up.size
 ·exact ok.res.size
 ·rw [ig,bY];exact ok.t1
 ·exact four _ (ok.tys _ (eM hs))
theorem G5 (l : List Int) : Base ⟨dO l,aX l⟩ 5:=(G4 l).1
def cU (k n : Int) (kids : List Ex) (T : Int) : Ex:=.mk ⟨0,0,T⟩ k n id0 ty0 kids []
def Fq (n : Int) (u t : Ty) : Prop:=(0<=n/\n<=4/\u = ty0/\t = ty0)\/(n = 5/\u = ty0/\t = tyL)\/(n = 6/\t = tyL)\/((n = 7\/n = 8)/\u = tyL/\t = tyL)\/(n = 10/\u = bE ty0/\t = bE ty0)
inductive Mk (c : MkC) : Ty->List Bnd->Int->Ex->Int->Prop
 | int {env : List Bnd} {T n : Int} : -1099511627776<=n/\n<=1099511627776->Mk c ty0 env T (cU 0 n [] T) (T+1)
 | bool {env : List Bnd} {T n : Int} : 0<=n/\n<=1->Mk c tyL env T (cU 1 n [] T) (T+1)
 | var {env : List Bnd} {T : Int} {b : Bnd} : b∈env->Mk c b.ty env T ((cU 2 b.n [] T).setRef b.id) (T+1)
 | list {env : List Bnd} {T : Int} {kids : List Ex} (Ts : Nat->Int) (hl : kids.length<=2) : Ts 0 = T->(∀ i (h : i < kids.length),Mk c ty0 env (Ts i) kids[i] (Ts (i+1)))->Mk c (bE ty0) env T ((cU 11 0 kids (Ts kids.length)).EZ ty0) (Ts kids.length+1)
 | kase {env : List Bnd} {T T1 : Int} {d : DefT} {k : Nat} {e : Ex} (hd : d∈c.p.defs) (hk : d.kind = 1) (h : k < d.slots.length) : Mk c d.slots[k].ty env T e T1->Mk c (ofT d.id) env T ((cU 9 k [e] T1).setRef d.id) (T1+1)
 | recd {env : List Bnd} {T : Int} {d : DefT} {kids : List Ex} (hd : d∈c.p.defs) (hk : d.kind = 0) (Ts : Nat->Int) (hl : kids.length = d.slots.length) : Ts 0 = T->(∀ i (h : i < kids.length),Mk c (d.slots[i]'Q0).ty env (Ts i) kids[i] (Ts (i+1)))->Mk c (ofT d.id) env T ((cU 7 0 kids (Ts kids.length)).setRef d.id) (Ts kids.length+1)
 | len {env : List Bnd} {T T1 : Int} {a : Ex} : Mk c (bE ty0) env T a T1->Mk c ty0 env T (cU 4 11 [a] T1) (T1+1)
 | not {env : List Bnd} {T T1 : Int} {a : Ex} : Mk c tyL env T a T1->Mk c tyL env T (cU 4 9 [a] T1) (T1+1)
 | both {t u : Ty} {env : List Bnd} {T T1 T2 n : Int} {a b : Ex} : Fq n u t->Mk c u env T a T1->Mk c u env T1 b T2->Mk c t env T (cU 4 n [a,b] T2) (T2+1)
 | ife {t : Ty} {env : List Bnd} {T T1 T2 T3 : Int} {a b e : Ex} : Mk c tyL env T a T1->Mk c t env T1 b T2->Mk c t env T2 e T3->Mk c t env T (cU 5 0 [a,b,e] T3) (T3+1)
 | lete {t u : Ty} {env : List Bnd} {T T1 T2 : Int} {a b : Ex} {m : ByteArray} : Mk c u env T a T1->Mk c t (env++[⟨⟨0,0,T1⟩,0,u⟩]) (T1+1) b T2->Mk c t env T ((cU 6 0 [] T1).cX [a,b] [m]) T2
 | fold {t : Ty} {env : List Bnd} {T T1 T2 T3 : Int} {a b e : Ex} {m m2 : ByteArray} : Mk c (bE ty0) env T a T1->Mk c t env T1 b T2->Mk c t (env++[⟨⟨0,0,T2⟩,0,ty0⟩]++[⟨⟨0,0,T2⟩,1,t⟩]) (T2+1) e T3->Mk c t env T ((cU 12 0 [] T2).cX [a,b,e] [m,m2]) T3
 | mat {t : Ty} {env : List Bnd} {T T1 : Int} {d : DefT} {a : Ex} {kids : List Ex} {ms : List ByteArray} (hd : d∈c.p.defs) (hk : d.kind = 1) (Ts : Nat->Int) (hl : kids.length = d.slots.length) (hm : ms.length = d.slots.length) : Mk c (ofT d.id) env T a T1->Ts 0 = T1+1 ->
   (∀ i (h : i < kids.length),Mk c t (env++[⟨⟨0,0,T1⟩,i,(d.slots[i]'Q0).ty⟩]) (Ts i) kids[i] (Ts (i+1)))->Mk c t env T (((cU 10 0 [] T1).setRef d.id).cX (a::kids) ms) (Ts kids.length)
 | field {env : List Bnd} {T T1 : Int} {d : DefT} {j : Nat} {a : Ex} (hd : d∈c.p.defs) (hk : d.kind = 0) (h : j < d.slots.length) : Mk c (ofT d.id) env T a T1->Mk c d.slots[j].ty env T ((cU 8 j [a] T1).setRef d.id) (T1+1)
 | call {env : List Bnd} {T : Int} {k : Nat} {kids : List Ex} (hd : k < c.p.defs.length) (hk : c.p.defs[k].kind = 2) (hv : jg c k) (Ts : Nat->Int) (hl : kids.length = c.p.defs[k].slots.length) : Ts 0 = T->(∀ i (h : i < kids.length),Mk c (c.p.defs[k].slots[i]'Q0).ty env (Ts i) kids[i] (Ts (i+1))) ->
   Mk c c.p.defs[k].result env T ((cU 3 0 kids (Ts kids.length)).setRef c.p.defs[k].id) (Ts kids.length+1)
def gTy (p : ProgT) (t : Ty) : Prop:=t = ty0\/t = tyL\/t = bE ty0\/∃ d∈p.defs,(d.kind = 0\/d.kind = 1)/\t = ofT d.id
structure GCtx (c : MkC) (R : Nat) : Prop where
 gen : GenOk c.p R
 d0 : 0 < c.p.defs.length
 the : ∀ d∈c.p.defs,aj c.p d.id = d
 gs : ∀ d∈c.p.defs,∀ s∈d.slots,gTy c.p s.ty
 gr : ∀ d∈c.p.defs,gTy c.p d.result
def GMk (c : MkC) (R n : Nat) (g : GX) : Prop:=∀ (t : Ty) (env : List Bnd) (depth : Int) (s : MkS),0 < env.length->(∀ b∈env,wfT c.p R b.ty/\gTy c.p b.ty)->okT c.p R n t depth->gTy c.p t->Mk c t env s.temp (g t env depth s).1 (g t env depth s).2.temp
theorem gTy0 {p : ProgT} {t : Ty} (h : gTy p t) (hk : t.kind = 0) : t = ty0:=by
 rcases h with h | h | h | ⟨d,_,_,h⟩ <;> rw [h] at hk ⊢
 all_goals exact absurd hk (show ¬ (_ : Int) = 0 by first | exact (show ¬ (1 : Int) = 0 by decide) | exact (show ¬ (2 : Int) = 0 by decide) | exact (show ¬ (3 : Int) = 0 by decide))
theorem gTy1 {p : ProgT} {t : Ty} (h : gTy p t) (hk : t.kind = 1) : t = tyL:=by
 rcases h with h | h | h | ⟨d,_,_,h⟩ <;> rw [h] at hk ⊢
 ·exact absurd hk (show ¬ (0 : Int) = 1 by decide)
 ·exact absurd hk (show ¬ (2 : Int) = 1 by decide)
 ·exact absurd hk (show ¬ (3 : Int) = 1 by decide)
theorem gTy2 {p : ProgT} {t : Ty} (h : gTy p t) (hk : t.kind = 2) : t = bE ty0:=by
 rcases h with h | h | h | ⟨d,_,_,h⟩ <;> rw [h] at hk ⊢
 ·exact absurd hk (show ¬ (0 : Int) = 2 by decide)
 ·exact absurd hk (show ¬ (1 : Int) = 2 by decide)
 ·exact absurd hk (show ¬ (3 : Int) = 2 by decide)
theorem gTy3 {p : ProgT} {t : Ty} (h : gTy p t) (h0 : ¬ t.kind = 0) (h1 : ¬ t.kind = 1) (h2 : ¬ t.kind = 2) : ∃ d∈p.defs,(d.kind = 0\/d.kind = 1)/\t = ofT d.id:=by
 rcases h with h | h | h | h
 ·rw [h] at h0;exact absurd rfl h0
 ·rw [h] at h1;exact absurd rfl h1
 ·rw [h] at h2;exact absurd rfl h2
 ·exact h
section
variable {c : MkC} {R n : Nat} {g : GX}
theorem zh (hg : GMk c R n g) {t : Ty} {env : List Bnd} {d : Int} (h0 : 0 < env.length) (he : ∀ b∈env,wfT c.p R b.ty/\gTy c.p b.ty) (hk : okT c.p R n t d) (ht : gTy c.p t) : ∀ (m : Nat) (s : MkS),(ej g t env d m s).1.length<=m/\∃ Ts : Nat->Int,Ts 0 = s.temp/\Ts (ej g t env d m s).1.length = (ej g t env d m s).2.temp/\∀ i (h : i < (ej g t env d m s).1.length),Mk c t env (Ts i) (ej g t env d m s).1[i] (Ts (i+1))
 | 0,s=>⟨Nat.le_refl _,fun _=>s.temp,rfl,rfl,fun i h=>absurd h (Nat.not_lt_zero _)⟩
 | m+1,s=>by
  by_cases hl : 0 < s.left
  ·obtain ⟨h0',Ts,h1,h2,h3⟩:=zh hg h0 he hk ht m (g t env d s).2
   have e : ej g t env d (m+1) s = ((g t env d s).1::(ej g t env d m (g t env d s).2).1,(ej g t env d m (g t env d s).2).2):=by rw [ej,if_pos hl]
   rw [e]
   refine ⟨Nat.succ_le_succ h0',fun i=>match i with | 0=>s.temp | i+1=>Ts i,rfl,h2,fun i h=>?_⟩
   cases i with
   | zero=>show Mk c t env s.temp _ (Ts 0);rw [h1];exact hg t env d s h0 he hk ht
   | succ i=>exact h3 i (by simpa using h)
  ·have e : ej g t env d (m+1) s = ([],s):=by rw [ej,if_neg hl]
   rw [e]
   exact ⟨Nat.zero_le _,fun _=>s.temp,rfl,rfl,fun i h=>absurd h (Nat.not_lt_zero _)⟩
theorem tL (hg : GMk c R n g) {env : List Bnd} {d : Int} (h0 : 0 < env.length) (he : ∀ b∈env,wfT c.p R b.ty/\gTy c.p b.ty) : ∀ (ts : List Ty) (s : MkS),(∀ t∈ts,okT c.p R n t d/\gTy c.p t)->∃ Ts : Nat->Int,∃ hl : (eO g env d ts s).1.length = ts.length,Ts 0 = s.temp/\Ts (eO g env d ts s).1.length = (eO g env d ts s).2.temp/\∀ i (h : i < (eO g env d ts s).1.length),Mk c (ts[i]'Q0) env (Ts i) (eO g env d ts s).1[i] (Ts (i+1))
 | [],s,_=>⟨fun _=>s.temp,rfl,rfl,rfl,fun i h=>absurd h (Nat.not_lt_zero _)⟩
 | t::ts,s,hk=>by
  obtain ⟨Ts,hl,h1,h2,h3⟩:=tL hg h0 he ts (g t env d s).2 fun u hu=>hk u (List.mem_cons_of_mem _ hu)
  refine ⟨fun i=>match i with | 0=>s.temp | i+1=>Ts i,by rw [eO];simp [hl],rfl,h2,fun i h=>?_⟩
  cases i with
  | zero=>show Mk c t env s.temp _ (Ts 0);rw [h1];have:=hk t (List.mem_cons_self ..);exact hg t env d s h0 he this.1 this.2
  | succ i=>exact h3 i (by rw [eO] at h;simpa using h)
end
section
variable {c : MkC} {R n : Nat} {t : Ty} {env : List Bnd} {x depth : Int} {s : MkS}
theorem CF {α : Type} {l : List α} {b : α} : 0 < (l++[b]).length:=Q2
theorem Mk.cast {t' : Ty} {T T' : Int} {e e' : Ex} (h : Mk c t env T e T') (ht : t = t') (he : e = e') {S : Int} (hS : T' = S) : Mk c t' env T e' S:=ht ▸ he ▸ hS ▸ h
theorem Cd (hc : GCtx c R) (hg : GMk c R n (au c n)) (h0 : 0 < env.length) (he : ∀ b∈env,wfT c.p R b.ty/\gTy c.p b.ty) (hk : okT c.p R (n+1) t depth) (ht : gTy c.p t) (hx : 0<=x) : Mk c t env s.temp (lq c (au c n) t env x depth s).1 (lq c (au c n) t env x depth s).2.temp:=by
 unfold lq
 have e29 : x.tmod 29 = x % 29:=Int.tmod_eq_emod_of_nonneg hx
 have e9 : x.tmod 9 = x % 9:=Int.tmod_eq_emod_of_nonneg hx
 have e2 : x.tmod 2 = x % 2:=Int.tmod_eq_emod_of_nonneg hx
 split
 ·rename_i k0
  rw [gTy0 ht k0]
  exact Mk.int (by unfold F3;split <;> omega)
 rename_i k0
 split
 ·rename_i k1
  rw [gTy1 ht k1]
  exact Mk.bool Q0
 rename_i k1
 split
 ·rename_i k2
  obtain rfl:=gTy2 ht k2
  dsimp only
  obtain ⟨hkl,Ts,h1,h2,h3⟩:=zh hg h0 he (t:=ty0) (d:=depth - 1) (hk.part fun m hm=>(eZ hm k2).2) (.inl rfl) (if 0<=depth then (x.tmod 3).toNat else 0) s
  refine (Mk.list Ts (Nat.le_trans hkl (by have:=Int.tmod_lt_of_pos x (show (0 : Int) < 3 by omega);split <;> omega)) h1 h3).cast rfl ?_ ?_
  ·rw [h2];rfl
  ·rw [h2];rfl
 rename_i k2
 obtain ⟨d,hd,hdk,rfl⟩:=gTy3 ht k0 k1 k2
 have e : aj c.p (ofT d.id).df = d:=hc.the d hd
 have hw:=eR hk.wf k0 k1 k2
 rw [e] at hw ⊢
 split
 ·rename_i k3
  dsimp only
  have hs0:=hc.gen.kase d hd k3
  obtain ⟨k,hk1,hk2⟩ : ∃ k : Nat,hH d x depth = k/\k < d.slots.length:=by
   have e : x.tmod (d.slots.length : Int) = x % (d.slots.length : Int):=Int.tmod_eq_emod_of_nonneg hx
   have h1:=Int.emod_nonneg x (show (d.slots.length : Int) ≠ 0 by omega)
   have h2:=Int.emod_lt_of_pos x (show (0 : Int) < d.slots.length by omega)
   unfold hH
   split
   ·exact ⟨0,rfl,hs0⟩
   ·exact ⟨(x % (d.slots.length : Int)).toNat,Q0,Q0⟩
  rw [hk1,Int.toNat_natCast,show (d.slots.map SlotT.ty).getD k ty0 = d.slots[k].ty by simp [List.getD_eq_getElem?_getD,List.getElem?_eq_getElem hk2]]
  have hm:=List.getElem_mem hk2
  exact Mk.kase hd k3 hk2 (hg _ env (depth - 1) s h0 he (hk.part fun m hm'=>by have:=(eR hm' k0 k1 k2).2.2;rw [e] at this;exact this _ hm) (hc.gs d hd _ hm))
 ·rename_i k3
  dsimp only
  obtain ⟨Ts,hl,h1,h2,h3⟩:=tL hg h0 he (d:=depth - 1) (d.slots.map SlotT.ty) s fun u hu=>by
   obtain ⟨y,hy,rfl⟩:=List.mem_map.1 hu
   exact ⟨hk.part fun m hm'=>by have:=(eR hm' k0 k1 k2).2.2;rw [e] at this;exact this _ hy,hc.gs d hd _ hy⟩
  rw [List.length_map] at hl
  refine (Mk.recd hd (hdk.resolve_right k3) Ts hl h1 fun i h=>?_).cast rfl ?_ ?_
  ·have:=h3 i h
   rwa [List.getElem_map] at this
  ·rw [h2];rfl
  ·rw [h2];rfl
theorem uI (hg : GMk c R n (au c n)) (h0 : 0 < env.length) (he : ∀ b∈env,wfT c.p R b.ty/\gTy c.p b.ty) {u : Ty} {d k : Int} (hk : okT c.p R n u d) (hu : gTy c.p u) (ho : Fq k u t) : Mk c t env s.temp (mz (au c n) k u env d s).1 (mz (au c n) k u env d s).2.temp :=
 Mk.both ho (hg u env d s h0 he hk hu) (hg u env d _ h0 he hk hu)
theorem opG_mk (hc : GCtx c R) (hg : GMk c R n (au c n)) (h0 : 0 < env.length) (he : ∀ b∈env,wfT c.p R b.ty/\gTy c.p b.ty) (hk : okT c.p R (n+1) t depth) (hd0 : 0 < depth) (ht : gTy c.p t) (hx : 0<=x) : Mk c t env s.temp (opG c (au c n) t env x depth s).1 (opG c (au c n) t env x depth s).2.temp:=by
 unfold opG
 have hR2:=hc.gen.R2
 have e6 : x.tmod 6 = x % 6:=Int.tmod_eq_emod_of_nonneg hx
 have e5 : x.tmod 5 = x % 5:=Int.tmod_eq_emod_of_nonneg hx
 have d2 : x.tdiv 2 = x / 2:=Int.tdiv_eq_ediv_of_nonneg hx
 have d6 : x.tdiv 6 = x / 6:=Int.tdiv_eq_ediv_of_nonneg hx
 have wt : wfT c.p R t:=by
  rcases hk with h | h
  ·omega
  ·exact h.2.1
 have w0 : wfT c.p R ty0:=bI hR2 (wX c.p 1)
 split
 ·rename_i k0
  obtain rfl:=gTy0 ht k0
  split
  ·exact Mk.len (hg _ env (depth - 1) s h0 he (hk.any hd0 (lD hR2) Q0) (.inr (.inr (.inl rfl))))
  ·exact uI hg h0 he (hk.any hd0 wt Q0) ht (.inl ⟨Q0,Q0,rfl,rfl⟩)
 rename_i k0
 split
 ·rename_i k1
  obtain rfl:=gTy1 ht k1
  split
  ·exact Mk.not (hg _ env (depth - 1) s h0 he (hk.any hd0 wt Q0) ht)
  ·rename_i h6
   have hu : wfT c.p R (gU tyL env x)/\gTy c.p (gU tyL env x):=by
    unfold gU
    split
    ·exact ⟨wt,ht⟩
    split
    ·have e : (x.tdiv 6).tmod (env.length : Int) = x.tdiv 6 % (env.length : Int):=Int.tmod_eq_emod_of_nonneg Q0
     have h1:=Int.emod_nonneg (x.tdiv 6) (show (env.length : Int) ≠ 0 by omega)
     have h2:=Int.emod_lt_of_pos (x.tdiv 6) (show (0 : Int) < env.length by omega)
     unfold jQ
     rw [e,List.getD_eq_getElem?_getD,List.getElem?_eq_getElem (show (x.tdiv 6 % (env.length : Int)).toNat < env.length by omega)]
     exact he _ (List.getElem_mem _)
    ·exact ⟨w0,.inl rfl⟩
   refine uI hg h0 he (hk.any hd0 hu.1 Q0) hu.2 ?_
   unfold uK gU
   split
   ·exact .inr (.inr (.inr (.inl ⟨Q0,rfl,rfl⟩)))
   split
   ·exact .inr (.inr (.inl ⟨rfl,rfl⟩))
   split
   ·exact .inr (.inr (.inl ⟨rfl,rfl⟩))
   ·exact .inr (.inl ⟨rfl,rfl,rfl⟩)
 rename_i k1
 split
 ·rename_i h2
  obtain rfl:=gTy2 ht h2.1
  exact uI hg h0 he (hk.any hd0 wt Q0) ht (.inr (.inr (.inr (.inr ⟨rfl,rfl,rfl⟩))))
 ·exact Cd hc hg h0 he hk ht Q0
theorem rq (hg : GMk c R n (au c n)) {d : Int} {id : IdT} (ht : okT c.p R n t d) (hgt : gTy c.p t) (he : ∀ b∈env,wfT c.p R b.ty/\gTy c.p b.ty) : ∀ (sl : List SlotT) (j : Nat) (s : MkS),(∀ x∈sl,wfT c.p R x.ty/\gTy c.p x.ty)->∃ Ts : Nat->Int,∃ hl : (aW (au c n) t env d id sl j s).1.1.length = sl.length,(aW (au c n) t env d id sl j s).1.2.length = sl.length/\Ts 0 = s.temp/\Ts sl.length = (aW (au c n) t env d id sl j s).2.temp /\
  ∀ i (h : i < (aW (au c n) t env d id sl j s).1.1.length),Mk c t (env++[⟨id,(j+i : Nat),(sl[i]'Q0).ty⟩]) (Ts i) (aW (au c n) t env d id sl j s).1.1[i] (Ts (i+1))
 | [],j,s,_=>⟨fun _=>s.temp,rfl,rfl,rfl,rfl,fun i h=>absurd h (Nat.not_lt_zero _)⟩
 | x::xs,j,s,hs=>by
  obtain ⟨Ts,hl,hl2,h1,h2,h3⟩:=rq hg (id:=id) ht hgt he xs (j+1) (dP (au c n t (env++[⟨id,j,x.ty⟩]) d s).2).2 fun u hu=>hs u (List.mem_cons_of_mem _ hu)
  have e : aW (au c n) t env d id (x::xs) j s = (((au c n t (env++[⟨id,j,x.ty⟩]) d s).1::(aW (au c n) t env d id xs (j+1) (dP (au c n t (env++[⟨id,j,x.ty⟩]) d s).2).2).1.1,(dP (au c n t (env++[⟨id,j,x.ty⟩]) d s).2).1::(aW (au c n) t env d id xs (j+1) (dP (au c n t (env++[⟨id,j,x.ty⟩]) d s).2).2).1.2),(aW (au c n) t env d id xs (j+1) (dP (au c n t (env++[⟨id,j,x.ty⟩]) d s).2).2).2):=by rw [aW]
  refine ⟨fun i=>match i with | 0=>s.temp | i+1=>Ts i,by rw [e];simp [hl],by rw [e];simp [hl2],rfl,h2,fun i h=>?_⟩
  cases i with
  | zero =>
   show Mk c t (env++[⟨id,j,x.ty⟩]) s.temp _ (Ts 0)
   rw [h1]
   refine hg t _ d s Q2 (fun b hb=>?_) ht hgt
   rcases List.mem_append.1 hb with hb | hb
   ·exact he b hb
   ·rw [List.mem_singleton.1 hb];exact hs x (List.mem_cons_self ..)
  | succ i =>
   have:=h3 i (by rw [e] at h;simpa using h)
   rw [show j+1+i = j+(i+1) by omega] at this
   exact this
theorem pQ : ∀ (m i : Nat) {k : Nat},fj c t i m = some k->i<=k/\k < i+m/\(bK c k).kind = 2/\jg c k/\(bK c k).result = t
 | 0,i,k,h=>by simp [fj] at h
 | m+1,i,k,h=>by
  rw [fj] at h
  split at h
  ·rename_i h1
   obtain rfl : i = k:=by simpa using h
   exact ⟨Q0,Q0,h1.1.1,h1.1.2,h1.2⟩
  ·have:=pQ m (i+1) h
   exact ⟨Q0,Q0,this.2.2⟩
theorem jB {xn : Nat} (hd : 0 < c.p.defs.length) : ∀ (m i : Nat) {k j : Nat},eu c t xn i m = some (k,j)->k < c.p.defs.length/\(bK c k).kind = 0/\jg c k/\∃ h : j < (bK c k).slots.length,(bK c k).slots[j].ty = t
 | 0,i,k,j,h=>by simp [eu] at h
 | m+1,i,k,j,h=>by
  rw [eu] at h
  by_cases hc : (bK c ((xn+i) % c.p.defs.length)).kind = 0/\jg c ((xn+i) % c.p.defs.length)
  ·rw [if_pos hc] at h
   cases hs : j9 (bK c ((xn+i) % c.p.defs.length)).slots t with
   | none=>rw [hs] at h;exact jB hd m (i+1) h
   | some q =>
    rw [hs] at h
    simp only [Option.some.injEq,Prod.mk.injEq] at h
    obtain ⟨rfl,rfl⟩:=h
    unfold j9 at hs
    obtain ⟨h1,h2,_⟩:=List.findIdx?_eq_some_iff_getElem.1 hs
    exact ⟨Nat.mod_lt _ hd,hc.1,hc.2,h1,by simpa using h2⟩
  ·rw [if_neg hc] at h
   exact jB hd m (i+1) h
theorem tu {kind : Int} {frm : Nat} (hd : 0 < c.p.defs.length) : ∀ m i,¬ fA c kind frm i m < 0->∃ k : Nat,fA c kind frm i m = k/\k < c.p.defs.length/\(bK c k).kind = kind/\jg c k
 | 0,i,h=>absurd (show fA c kind frm i 0 < 0 by rw [fA];omega) h
 | m+1,i,h=>by
  rw [fA] at h ⊢
  split
  ·rename_i h1
   exact ⟨_,rfl,Nat.mod_lt _ hd,h1⟩
  ·rename_i h1
   rw [if_neg h1] at h
   exact tu hd m (i+1) h
theorem rest_mk (hc : GCtx c R) (hg : GMk c R n (au c n)) (h0 : 0 < env.length) (he : ∀ b∈env,wfT c.p R b.ty/\gTy c.p b.ty) (hk : okT c.p R (n+1) t depth) (hd0 : 0 < depth) (ht : gTy c.p t) {k : Int} (hx : 0<=x) : Mk c t env s.temp (qU c (au c n) t env k x depth s).1 (qU c (au c n) t env k x depth s).2.temp:=by
 have hR2:=hc.gen.R2
 have wt : wfT c.p R t:=by
  rcases hk with h | h
  ·omega
  ·exact h.2.1
 have wb : wfT c.p R tyL:=by
  refine bI hR2 ?_
  rw [wfT];exact .inr (.inl rfl)
 have w0 : wfT c.p R ty0:=bI hR2 (wX c.p 1)
 have any : ∀ {u : Ty} {j : Int},wfT c.p R u->1<=j->okT c.p R n u (depth - j):=fun hu hj=>hk.any hd0 hu hj
 have op:=opG_mk (s:=s) hc hg h0 he hk hd0 ht hx
 unfold qU
 split
 ·exact Mk.ife (hg tyL env (depth - 1) s h0 he (any wb Q0) (.inr (.inl rfl))) (hg t env (depth - 1) _ h0 he (any wt Q0) ht) (hg t env (depth - 1) _ h0 he (any wt Q0) ht)
 split
 ·have e : x.tmod (env.length : Int) = x % (env.length : Int):=Int.tmod_eq_emod_of_nonneg Q0
  have h1:=Int.emod_nonneg x (show (env.length : Int) ≠ 0 by omega)
  have h2:=Int.emod_lt_of_pos x (show (0 : Int) < env.length by omega)
  have hu : wfT c.p R (jQ env x).ty/\gTy c.p (jQ env x).ty:=by
   unfold jQ
   rw [e,List.getD_eq_getElem?_getD,List.getElem?_eq_getElem (show (x % (env.length : Int)).toNat < env.length by omega)]
   exact he _ (List.getElem_mem _)
  have hb:=hg t (env++[⟨(aU 6 0 [] (au c n (jQ env x).ty env (depth - 1) s).2).1.id,0,(jQ env x).ty⟩]) (depth - 1) (dP (aU 6 0 [] (au c n (jQ env x).ty env (depth - 1) s).2).2).2 CF
  refine Mk.lete (u:=(jQ env x).ty) (hg _ env (depth - 1) s h0 he (any hu.1 Q0) hu.2) (hb (fun b hb=>?_) (any wt Q0) ht)
  rcases List.mem_append.1 hb with hb | hb
  ·exact he b hb
  ·rw [List.mem_singleton.1 hb];exact hu
 split
 ·unfold kE
  split
  ·exact op
  ·rename_i hm
   obtain ⟨q,hq,hlt,hkind,hvis⟩:=tu (kind:=1) (frm:=x.toNat) hc.d0 c.p.defs.length 0 hm
   rw [show ofG c 1 x.toNat = q from hq,Int.toNat_natCast]
   have hmem : bK c q∈c.p.defs:=by rw [gD hlt];exact List.getElem_mem hlt
   dsimp only
   generalize bK c q = d at hkind hmem ⊢
   have ha:=hg (ofT d.id) env (depth - 2) s h0 he (any (hc.gen.own d hmem (.inr hkind)) Q0) (.inr (.inr (.inr ⟨d,hmem,.inr hkind,rfl⟩)))
   obtain ⟨Ts,hl,hl2,h1,h2,h3⟩:=rq hg (id:=(aU 10 0 [] (au c n (ofT d.id) env (depth - 2) s).2).1.id) (any wt (show (1 : Int)<=1 by omega)) ht he d.slots 0 (aU 10 0 [] (au c n (ofT d.id) env (depth - 2) s).2).2 fun u hu=>⟨hc.gen.slot d hmem u hu,hc.gs d hmem u hu⟩
   refine (Mk.mat hmem hkind Ts hl hl2 ha h1 fun i h=>?_).cast rfl rfl (by rw [hl];exact h2)
   have:=h3 i h
   rw [Nat.zero_add] at this
   exact this
 split
 ·unfold kO
  split
  ·rename_i q j hf
   obtain ⟨hlt,hkind,hvis,hj,hty⟩:=jB hc.d0 _ _ hf
   have hmem : bK c q∈c.p.defs:=by rw [gD hlt];exact List.getElem_mem hlt
   dsimp only
   rw [<-hty]
   exact Mk.field hmem hkind hj (hg _ env (depth - 1) s h0 he (any (hc.gen.own _ hmem (.inl hkind)) Q0) (.inr (.inr (.inr ⟨_,hmem,.inl hkind,rfl⟩))))
  ·exact op
 split
 ·unfold pP
  split
  ·rename_i q hf
   obtain ⟨_,hlt,hkind,hvis,hty⟩:=pQ _ _ hf
   rw [Nat.zero_add] at hlt
   have ed:=gD hlt
   have hmem : c.p.defs[q]∈c.p.defs:=List.getElem_mem hlt
   dsimp only
   rw [ed] at hkind hty ⊢
   obtain ⟨Ts,hl,h1,h2,h3⟩:=tL hg h0 he (d:=depth - 1) (c.p.defs[q].slots.map SlotT.ty) s fun u hu=>by
    obtain ⟨y,hy,rfl⟩:=List.mem_map.1 hu
    exact ⟨any (hc.gen.slot _ hmem _ hy) Q0,hc.gs _ hmem _ hy⟩
   rw [List.length_map] at hl
   refine (Mk.call hlt hkind hvis Ts hl h1 fun i h=>?_).cast hty ?_ ?_
   ·have:=h3 i h
    rwa [List.getElem_map] at this
   ·rw [h2];rfl
   ·rw [h2];rfl
  ·exact op
 split
 ·have hb:=hg t (env++[⟨(aU 12 0 [] (au c n t env (depth - 1) (au c n (bE ty0) env (depth - 1) s).2).2).1.id,0,ty0⟩]++[⟨(aU 12 0 [] (au c n t env (depth - 1) (au c n (bE ty0) env (depth - 1) s).2).2).1.id,1,t⟩]) (depth - 1) (dP (dP (aU 12 0 [] (au c n t env (depth - 1) (au c n (bE ty0) env (depth - 1) s).2).2).2).2).2 CF
  refine Mk.fold (hg _ env (depth - 1) s h0 he (any (lD hR2) Q0) (.inr (.inr (.inl rfl)))) (hg t env (depth - 1) _ h0 he (any wt Q0) ht) (hb (fun b hb=>?_) (any wt Q0) ht)
  rcases List.mem_append.1 hb with hb | hb
  ·rcases List.mem_append.1 hb with hb | hb
   ·exact he b hb
   ·rw [List.mem_singleton.1 hb];exact ⟨w0,.inl rfl⟩
  ·rw [List.mem_singleton.1 hb];exact ⟨wt,ht⟩
 ·exact op
theorem pK (hc : GCtx c R) : ∀ n,GMk c R n (au c n)
 | 0=>fun t env depth s h0 he hk ht=>absurd hk.pos (Nat.lt_irrefl _)
 | n+1=>fun t env depth s h0 he hk ht=>by
  have hg:=pK hc n
  rw [uj]
  have hx : 0<=(fT c 65536 s).1/\(fT c 65536 s).1 < 65536:=cA c.l s.pos 65536 Q0
  have hd:=GJ (s1:=(fT c 65536 s).2) hk
  show Mk c t env (fT c 65536 s).2.temp _ _
  generalize fT c 65536 s = y at hx hd ⊢
  obtain ⟨x,s1⟩:=y
  dsimp only at hx hd ⊢
  have d3 : x.tdiv 3 = x / 3:=Int.tdiv_eq_ediv_of_nonneg hx.1
  have d36 : x.tdiv 36 = x / 36:=Int.tdiv_eq_ediv_of_nonneg hx.1
  split
  ·rename_i hv
   have e : (x.tdiv 3).tmod ((dS env t).length : Int) = x.tdiv 3 % ((dS env t).length : Int):=Int.tmod_eq_emod_of_nonneg Q0
   have h1:=Int.emod_nonneg (x.tdiv 3) (show ((dS env t).length : Int) ≠ 0 by omega)
   have h2:=Int.emod_lt_of_pos (x.tdiv 3) (show (0 : Int) < (dS env t).length by omega)
   have hlt : (x.tdiv 3 % ((dS env t).length : Int)).toNat < (dS env t).length:=Q0
   rw [e,List.getD_eq_getElem?_getD,List.getElem?_eq_getElem hlt]
   have hm:=List.getElem_mem hlt
   have hty : (dS env t)[(x.tdiv 3 % ((dS env t).length : Int)).toNat].ty = t:=by have:=(List.mem_filter.1 hm).2;simpa using this
   exact (Mk.var (fit_mem hm)).cast hty rfl rfl
  split
  ·exact Cd hc hg h0 he hd ht Q0
  ·rename_i hd0
   exact rest_mk hc hg h0 he hd Q0 ht Q0
end
theorem bP {m m' : Int} (h : m<=m') : ∀ {e : Ex},inB m e->inB m' e
 | .mk i k n r t l s,hb=>by
  rw [inB] at hb ⊢
  refine ⟨Q0,fun hk=>by have:=hb.2.1 hk;omega,?_⟩
  exact go l hb.2.2
 where go : ∀ l : List Ex,o8 m l->o8 m' l
 | [],_=>by rw [o8];trivial
 | e::es,hb=>by
  rw [o8] at hb ⊢
  exact ⟨bP h hb.1,go es hb.2⟩
theorem Cm {m : Int} : ∀ {l : List Ex},(∀ e∈l,inB m e)->o8 m l
 | [],_=>by rw [o8];trivial
 | e::es,h=>by
  rw [o8]
  exact ⟨h e (List.mem_cons_self ..),Cm fun x hx=>h x (List.mem_cons_of_mem _ hx)⟩
theorem dj {Ts : Nat->Int} : ∀ (n : Nat),(∀ i,i < n->Ts i < Ts (i+1))->∀ i,i<=n->Ts 0<=Ts i/\Ts i<=Ts n
 | 0,_,i,hi=>by
  obtain rfl : i = 0:=Q0
  exact ⟨Int.le_refl _,Int.le_refl _⟩
 | n+1,h,i,hi=>by
  have h1:=h n Q0
  by_cases e : i = n+1
  ·subst e
   have:=dj n (fun j hj=>h j Q0) n Q0
   exact ⟨Q0,Int.le_refl _⟩
  ·have:=dj n (fun j hj=>h j Q0) i Q0
   exact ⟨this.1,Q0⟩
section
variable {c : MkC} {t : Ty} {env : List Bnd} {T T' : Int} {e : Ex}
theorem Mk.lt (h : Mk c t env T e T') : T < T':=by
 induction h with
 | int _=>omega
 | bool _=>omega
 | var _=>omega
 | list Ts _ h0 _ ih=>have:=(dj (Ts:=Ts) _ (fun i hi=>ih i hi) _ (Nat.le_refl _)).1;omega
 | kase _ _ _ _ ih=>omega
 | recd _ _ Ts _ h0 _ ih=>have:=(dj (Ts:=Ts) _ (fun i hi=>ih i hi) _ (Nat.le_refl _)).1;omega
 | len _ ih=>omega
 | not _ ih=>omega
 | both _ _ _ ih1 ih2=>omega
 | ife _ _ _ ih1 ih2 ih3=>omega
 | lete _ _ ih1 ih2=>omega
 | fold _ _ _ ih1 ih2 ih3=>omega
 | mat _ _ Ts _ _ _ h0 _ ih1 ih=>have:=(dj (Ts:=Ts) _ (fun i hi=>ih i hi) _ (Nat.le_refl _)).1;omega
 | field _ _ _ _ ih=>omega
 | call _ _ _ Ts _ h0 _ ih=>have:=(dj (Ts:=Ts) _ (fun i hi=>ih i hi) _ (Nat.le_refl _)).1;omega
def Low (env : List Bnd) (T : Int) : Prop:=∀ b∈env,b.id.seq = 0->0<=b.id.index/\b.id.index < T
theorem Low.mono {T1 : Int} (h : Low env T) (hT : T<=T1) : Low env T1:=fun b hb hs=>by have:=h b hb hs;omega
theorem Low.add {T1 : Int} (h : Low env T) (hT : T<=T1) (h0 : 0<=T1) {k : Int} {u : Ty} {S : Int} (hS : T1+1<=S) : Low (env++[⟨⟨0,0,T1⟩,k,u⟩]) S:=fun b hb hs=>by
 rcases List.mem_append.1 hb with hb | hb
 ·have:=h b hb hs;omega
 ·rw [List.mem_singleton.1 hb];exact ⟨h0,by show T1 < S;omega⟩
theorem cV {m k n : Int} {l : List Ex} {T : Int} {r : IdT} {u : Ty} {ns : List ByteArray} (hT : 0<=T/\T < m) (hr : k = 2->r.seq = 0->0<=r.index/\r.index < m) (hl : ∀ e∈l,inB m e) : inB m (.mk ⟨0,0,T⟩ k n r u l ns):=by
 rw [inB]
 exact ⟨hT,fun h=>hr h.1 h.2,Cm hl⟩
theorem Mk.inB (h : Mk c t env T e T') : 0<=T->Low env T->inB T' e:=by
 induction h with
 | int _=>exact fun h0 _=>cV (k:=0) (l:=[]) ⟨h0,Q0⟩ (fun h=>absurd h Q1) (fun _ h=>by cases h)
 | bool _=>exact fun h0 _=>cV (k:=1) (l:=[]) ⟨h0,Q0⟩ (fun h=>absurd h Q1) (fun _ h=>by cases h)
 | var hb=>exact fun h0 hl=>cV (k:=2) (l:=[]) ⟨h0,Q0⟩ (fun _ hs=>by have:=hl _ hb hs;omega) (fun _ h=>by cases h)
 | @list env T kids Ts _ h0 hm ih =>
  intro h1 hl
  have st:=dj (Ts:=Ts) _ (fun i hi=>(hm i hi).lt)
  have:=(st _ (Nat.le_refl _)).1
  refine cV (k:=11) (l:=kids) ⟨Q0,Q0⟩ (fun h=>absurd h Q1) fun x hx=>?_
  obtain ⟨i,hi,rfl⟩:=List.mem_iff_getElem.1 hx
  have h2:=st i Q0
  have h3:=st (i+1) Q0
  exact bP Q0 (ih i hi Q0 (hl.mono Q0))
 | @kase env T T1 d k e _ _ _ hm ih =>
  intro h1 hl
  have:=hm.lt
  refine cV (k:=9) (l:=[e]) ⟨Q0,Q0⟩ (fun h=>absurd h Q1) fun x hx=>?_
  rw [List.mem_singleton.1 hx]
  exact bP Q0 (ih h1 hl)
 | @recd env T d kids _ _ Ts _ h0 hm ih =>
  intro h1 hl
  have st:=dj (Ts:=Ts) _ (fun i hi=>(hm i hi).lt)
  have:=(st _ (Nat.le_refl _)).1
  refine cV (k:=7) (l:=kids) ⟨Q0,Q0⟩ (fun h=>absurd h Q1) fun x hx=>?_
  obtain ⟨i,hi,rfl⟩:=List.mem_iff_getElem.1 hx
  have h2:=st i Q0
  have h3:=st (i+1) Q0
  exact bP Q0 (ih i hi Q0 (hl.mono Q0))
 | @len env T T1 a hm ih =>
  intro h1 hl
  have:=hm.lt
  refine cV (k:=4) (l:=[a]) ⟨Q0,Q0⟩ (fun h=>absurd h Q1) fun x hx=>?_
  rw [List.mem_singleton.1 hx]
  exact bP Q0 (ih h1 hl)
 | @not env T T1 a hm ih =>
  intro h1 hl
  have:=hm.lt
  refine cV (k:=4) (l:=[a]) ⟨Q0,Q0⟩ (fun h=>absurd h Q1) fun x hx=>?_
  rw [List.mem_singleton.1 hx]
  exact bP Q0 (ih h1 hl)
 | @both t u env T T1 T2 n a b _ ha hb ih1 ih2 =>
  intro h1 hl
  have:=ha.lt
  have:=hb.lt
  refine cV (k:=4) (l:=[a,b]) ⟨Q0,Q0⟩ (fun h=>absurd h Q1) fun x hx=>?_
  simp only [List.mem_cons,List.not_mem_nil,or_false] at hx
  rcases hx with rfl | rfl
  ·exact bP Q0 (ih1 h1 hl)
  ·exact bP Q0 (ih2 Q0 (hl.mono Q0))
 | @ife t env T T1 T2 T3 a b e ha hb he ih1 ih2 ih3 =>
  intro h1 hl
  have:=ha.lt
  have:=hb.lt
  have:=he.lt
  refine cV (k:=5) (l:=[a,b,e]) ⟨Q0,Q0⟩ (fun h=>absurd h Q1) fun x hx=>?_
  simp only [List.mem_cons,List.not_mem_nil,or_false] at hx
  rcases hx with rfl | rfl | rfl
  ·exact bP Q0 (ih1 h1 hl)
  ·exact bP Q0 (ih2 Q0 (hl.mono Q0))
  ·exact bP Q0 (ih3 Q0 (hl.mono Q0))
 | @lete t u env T T1 T2 a b m ha hb ih1 ih2 =>
  intro h1 hl
  have:=ha.lt
  have:=hb.lt
  refine cV (k:=6) (l:=[a,b]) ⟨Q0,Q0⟩ (fun h=>absurd h Q1) fun x hx=>?_
  simp only [List.mem_cons,List.not_mem_nil,or_false] at hx
  rcases hx with rfl | rfl
  ·exact bP Q0 (ih1 h1 hl)
  ·exact bP Q0 (ih2 Q0 (hl.add Q0 Q0 Q0))
 | @fold t env T T1 T2 T3 a b e m m2 ha hb he ih1 ih2 ih3 =>
  intro h1 hl
  have:=ha.lt
  have:=hb.lt
  have:=he.lt
  refine cV (k:=12) (l:=[a,b,e]) ⟨Q0,Q0⟩ (fun h=>absurd h Q1) fun x hx=>?_
  simp only [List.mem_cons,List.not_mem_nil,or_false] at hx
  rcases hx with rfl | rfl | rfl
  ·exact bP Q0 (ih1 h1 hl)
  ·exact bP Q0 (ih2 Q0 (hl.mono Q0))
  ·refine bP Q0 (ih3 Q0 ?_)
   refine fun b hb hs=>?_
   rcases List.mem_append.1 hb with hb | hb
   ·exact (hl.add Q0 Q0 (Int.le_refl _)) b hb hs
   ·rw [List.mem_singleton.1 hb];exact ⟨show 0<=T2 by omega,show T2 < T2+1 by omega⟩
 | @mat t env T T1 d a kids ms _ _ Ts _ _ ha h0 hm ih1 ih =>
  intro h1 hl
  have:=ha.lt
  have st:=dj (Ts:=Ts) _ (fun i hi=>(hm i hi).lt)
  have:=(st _ (Nat.le_refl _)).1
  refine cV (k:=10) (l:=a::kids) ⟨Q0,Q0⟩ (fun h=>absurd h Q1) fun x hx=>?_
  rcases List.mem_cons.1 hx with rfl | hx
  ·exact bP Q0 (ih1 h1 hl)
  ·obtain ⟨i,hi,rfl⟩:=List.mem_iff_getElem.1 hx
   have h2:=st i Q0
   have h3:=st (i+1) Q0
   exact bP Q0 (ih i hi Q0 (hl.add Q0 Q0 Q0))
 | @field env T T1 d j a _ _ _ hm ih =>
  intro h1 hl
  have:=hm.lt
  refine cV (k:=8) (l:=[a]) ⟨Q0,Q0⟩ (fun h=>absurd h Q1) fun x hx=>?_
  rw [List.mem_singleton.1 hx]
  exact bP Q0 (ih h1 hl)
 | @call env T k kids _ _ _ Ts _ h0 hm ih =>
  intro h1 hl
  have st:=dj (Ts:=Ts) _ (fun i hi=>(hm i hi).lt)
  have:=(st _ (Nat.le_refl _)).1
  refine cV (k:=3) (l:=kids) ⟨Q0,Q0⟩ (fun h=>absurd h Q1) fun x hx=>?_
  obtain ⟨i,hi,rfl⟩:=List.mem_iff_getElem.1 hx
  have h2:=st i Q0
  have h3:=st (i+1) Q0
  exact bP Q0 (ih i hi Q0 (hl.mono Q0))
end
theorem zl {m : Int} : ∀ {e : Ex},inB m e->∀ x∈e.post,0<=x/\x < m
 | .mk i k n r t l s,h,x,hx=>by
  rw [inB] at h
  rw [Ex.post] at hx
  rcases List.mem_append.1 hx with hx | hx
  ·exact go l h.2.2 x hx
  ·rw [List.mem_singleton.1 hx];exact h.1
 where go : ∀ l : List Ex,o8 m l->∀ x∈Ex.cZ l,0<=x/\x < m
 | [],_,x,hx=>by rw [Ex.cZ] at hx;cases hx
 | e::es,h,x,hx=>by
  rw [o8] at h
  rw [Ex.cZ] at hx
  rcases List.mem_append.1 hx with hx | hx
  ·exact zl h.1 x hx
  ·exact go es h.2 x hx
def bS (d : DefT) : List Bnd:=d.slots.map fun x=>⟨x.id,0,x.ty⟩
def MkC.with (c : MkC) (d : DefT) (e : Ex) : MkC:=⟨⟨c.p.mods,c.p.defs.set c.own.toNat (d.setBody e)⟩,c.l,c.own,c.home⟩
def jc (c : MkC) (d : DefT) (s : MkS) : Ex×MkS :=
 if 30 < (au c 9 d.result (bS d) 4 s).1.size then au (c.with d (au c 9 d.result (bS d) 4 s).1) 9 d.result (bS d) 0 ⟨(au c 9 d.result (bS d) 4 s).2.pos,(au c 9 d.result (bS d) 4 s).2.temp,0,(au c 9 d.result (bS d) 4 s).2.name⟩ else au c 9 d.result (bS d) 4 s
def bare (d : DefT) : Prop:=d.kind = 0\/d.kind = 1
instance (d : DefT) : Decidable (bare d):=by unfold bare;exact inferInstance
def bQ (ms : List ModT) (l : List Int) : Nat->Nat->List DefT->MkS->List DefT×MkS
 | 0,_,ds,s=>(ds,s)
 | m+1,i,ds,s=>if bare (ds.getD i kR) then bQ ms l m (i+1) ds s
  else bQ ms l m (i+1) (ds.set i ((ds.getD i kR).setBody (jc ⟨⟨ms,ds⟩,l,i,(ds.getD i kR).mod⟩ (ds.getD i kR) ⟨s.pos,s.temp,14,0⟩).1)) (jc ⟨⟨ms,ds⟩,l,i,(ds.getD i kR).mod⟩ (ds.getD i kR) ⟨s.pos,s.temp,14,0⟩).2
def bA : List IdT->List Int->Int->List IdT
 | ids,[],_=>ids
 | ids,k::ks,nx=>bA (ids.set k.toNat (idK nx)) ks (nx+1)
theorem iR : ∀ (ids : List IdT) (ks : List Int) (nx : Int),(bA ids ks nx).length = ids.length
 | ids,[],_=>rfl
 | ids,k::ks,nx=>by rw [bA,iR,List.length_set]
theorem nu : ∀ (ids : List IdT) (a b : List Int) (nx : Int),bA ids (a++b) nx = bA (bA ids a nx) b (nx+a.length)
 | ids,[],b,nx=>by simp [bA]
 | ids,k::a,b,nx=>by rw [List.cons_append,bA,bA,nu,List.length_cons,show nx+1+(a.length : Int) = nx+((a.length+1 : Nat) : Int) by omega]
def gJ : Nat->Nat->List DefT->List IdT->Int->List DefT
 | 0,_,ds,_,_=>ds
 | m+1,i,ds,ids,nx=>if bare (ds.getD i kR) then gJ m (i+1) ds ids nx
  else gJ m (i+1) (ds.set i ((ds.getD i kR).setBody (eS (bA ids (ds.getD i kR).body.post nx) (ds.getD i kR).body))) (bA ids (ds.getD i kR).body.post nx) (nx+(ds.getD i kR).body.post.length)
def kZ (l : List Int) : List DefT×MkS:=bQ (dO l) l (aX l).length 0 (aX l) ⟨24,0,0,0⟩
def aJ (l : List Int) : ProgT:=⟨dO l,gJ (aX l).length 0 (kZ l).1 (List.replicate (kZ l).2.temp.toNat id0) (iU l)⟩
structure Names (p : ProgT) : Prop where
 inj : ∀ i j (hi : i < p.defs.length) (hj : j < p.defs.length),p.defs[i].id = p.defs[j].id->i = j
 gs : ∀ d∈p.defs,∀ s∈d.slots,gTy p s.ty
 gr : ∀ d∈p.defs,gTy p d.result
 kd : ∀ d∈p.defs,0<=d.kind/\d.kind<=5
theorem Names.the {p : ProgT} (h : Names p) {d : DefT} (hd : d∈p.defs) : aj p d.id = d:=by
 obtain ⟨k,hk,rfl⟩:=List.mem_iff_getElem.1 hd
 exact (gm hk (fun j hj hlt e=>by have:=h.inj j k hj hk e;omega) rfl).2
theorem Names.has {p : ProgT} {d : DefT} (hd : d∈p.defs) : dc p d.id:=⟨d,hd,rfl⟩
theorem pq {ms ns : List ModT} {a b : List DefT} (h : dN a b) {t : Ty} (ht : gTy ⟨ns,b⟩ t) : gTy ⟨ms,a⟩ t:=by
 rcases ht with ht | ht | ht | ⟨d,hd,hk,ht⟩
 ·exact .inl ht
 ·exact .inr (.inl ht)
 ·exact .inr (.inr (.inl ht))
 ·have h' : dN b a:=h.symm
  obtain ⟨e,he,hs⟩:=h'.mem hd
  have:=cT hs
  exact .inr (.inr (.inr ⟨e,he,by rw [<-this.2.1];exact hk,by rw [<-this.1];exact ht⟩))
theorem Names.like {ms ns : List ModT} {a b : List DefT} (hb : Names ⟨ns,b⟩) (h : dN a b) : Names ⟨ms,a⟩:=by
 have get : ∀ d∈a,∃ e∈b,d.id = e.id/\d.kind = e.kind/\d.slots = e.slots/\d.result = e.result:=fun d hd=>by
  obtain ⟨e,he,hs⟩:=h.mem hd
  have:=cT hs
  exact ⟨e,he,this.1,this.2.1,this.2.2.2.2.1,this.2.2.2.2.2.1⟩
 have hl:=h.len
 refine ⟨fun i j hi hj e=>?_,fun d hd s hs=>?_,fun d hd=>?_,fun d hd=>?_⟩
 ·have hi' : i < b.length:=by rw [<-hl];exact hi
  have hj' : j < b.length:=by rw [<-hl];exact hj
  have e1:=(cT (h.get hi hi')).1
  have e2:=(cT (h.get hj hj')).1
  exact hb.inj i j hi' hj' (by rw [<-e1,<-e2];exact e)
 all_goals obtain ⟨e,he,h1,h2,h3,h4⟩:=get d hd
 ·rw [h3] at hs;exact pq h (hb.gs e he s hs)
 ·rw [h4];exact pq h (hb.gr e he)
 ·rw [h2];exact hb.kd e he
theorem Base.gctx {c : MkC} {R : Nat} (hb : Base c.p R) (hn : Names c.p) : GCtx c R :=
 ⟨hb.gen,hb.d0,fun _ hd=>hn.the hd,hn.gs,hn.gr⟩
theorem tD (l : List Int) : Names ⟨dO l,aX l⟩:=by
 have hn : 1<=ax l:=by rcases jM l with h | h <;> omega
 unfold aX
 generalize hps : gL l = ps
 have hok : ∀ p∈ps,PlanOk l (ax l) p:=by rw [<-hps];exact lO hn
 have hlen:=gq l (ax l)
 unfold gL at hps
 rw [hps] at hlen
 generalize ax l+(ps.length : Int) = next
 generalize dO l = ms
 have hdl:=cC ps (ax l) next
 have own : ∀ {k : Int} {j : Nat},k = ax l+j->∀ hj : j < ps.length,(ps[j].kind = 0\/ps[j].kind = 1)->gTy ⟨ms,aS ps (ax l) next⟩ (tyD k):=fun {k j} hkj hj hk=>by
  refine .inr (.inr (.inr ⟨(aS ps (ax l) next)[j]'Q0,List.getElem_mem _,?_,?_⟩))
  ·rw [dg ps _ _ hj];exact hk
  ·rw [dg ps _ _ hj,hkj];rfl
 have g0 : gTy ⟨ms,aS ps (ax l) next⟩ (tyD (ax l)):=own (j:=0) Q0 Q0 (by subst hps;exact .inl rfl)
 have g1 : gTy ⟨ms,aS ps (ax l) next⟩ (tyD (ax l+1)):=own (j:=1) Q0 Q0 (by subst hps;exact .inr rfl)
 have g23 : eA l = true->gTy ⟨ms,aS ps (ax l) next⟩ (tyD (ax l+2))/\gTy ⟨ms,aS ps (ax l) next⟩ (tyD (ax l+3)):=fun hf=>by
  have h2 : 2 < ps.length:=Q0
  have h3 : 3 < ps.length:=Q0
  have ep2 : ps[2] = iS l (ax l):=by
   have : ps[2]? = some (iS l (ax l)):=by rw [<-hps];unfold bp eJ eK;rw [if_pos hf];rfl
   rw [List.getElem?_eq_getElem h2] at this
   exact Option.some.inj this
  have ep3 : ps[3] = od (ax l):=by
   have : ps[3]? = some (od (ax l)):=by rw [<-hps];unfold bp eJ eK;rw [if_pos hf];rfl
   rw [List.getElem?_eq_getElem h3] at this
   exact Option.some.inj this
  exact ⟨own (j:=2) Q0 h2 (by rw [ep2];exact .inl rfl),own (j:=3) Q0 h3 (by rw [ep3];exact .inl rfl)⟩
 have all : ∀ t,nh l (ax l) t->gTy ⟨ms,aS ps (ax l) next⟩ t:=fun t h=>by
  rcases h with h | h | h | h | h | ⟨hf,h | h⟩
  ·exact .inl h
  ·exact .inr (.inl h)
  ·exact .inr (.inr (.inl h))
  ·rw [h];exact g0
  ·rw [h];exact g1
  ·rw [h];exact (g23 hf).1
  ·rw [h];exact (g23 hf).2
 have get : ∀ d∈aS ps (ax l) next,∃ j,∃ hj : j < ps.length,d = ig ps[j] (ax l+j) (next+dK (ps.take j)):=fun d hd=>by
  obtain ⟨j,hj,rfl⟩:=List.mem_iff_getElem.1 hd
  exact ⟨j,by rw [hdl] at hj;exact hj,dg ps _ _ _ _⟩
 refine ⟨fun i j hi hj e=>?_,fun d hd s hs=>?_,fun d hd=>?_,fun d hd=>?_⟩
 ·have hi' : i < ps.length:=by have : i < (aS ps (ax l) next).length:=hi;omega
  have hj' : j < ps.length:=by have : j < (aS ps (ax l) next).length:=hj;omega
  have e' : idK (ax l+i) = idK (ax l+j):=by
   have h1:=dg ps (ax l) next hi' hi
   have h2:=dg ps (ax l) next hj' hj
   dsimp only at e
   rw [h1,h2] at e
   exact e
  rcases Nat.lt_trichotomy i j with h | h | h
  ·exact absurd e' (qo Q0 Q0 Q0)
  ·exact h
  ·exact absurd e' (qo Q0 Q0 Q0)
 all_goals obtain ⟨j,hj,rfl⟩:=get d hd
 all_goals have ok:=hok _ (List.getElem_mem hj)
 ·exact all _ (ok.tys _ (eM hs)).up
 ·exact all _ ok.res
 ·exact ok.kind
theorem nR (l : List Int) : ∀ d∈aX l,∀ s∈d.slots,s.id.seq ≠ 0:=by
 intro d hd s hs
 have hn : 1<=ax l:=by rcases jM l with h | h <;> omega
 obtain ⟨j,hj,rfl⟩:=List.mem_iff_getElem.1 hd
 unfold aX at hs hj
 rw [dg _ _ _ (by rw [cC] at hj;exact hj)] at hs
 unfold ig dG at hs
 dsimp only at hs
 obtain ⟨k,hk,rfl⟩:=List.mem_map.1 hs
 unfold idK
 dsimp only
 rw [Int.tdiv_eq_ediv_of_nonneg Q0]
 omega
theorem Ao {a b : List DefT} (h : dN a b) (hb : ∀ d∈b,∀ s∈d.slots,s.id.seq ≠ 0) : ∀ d∈a,∀ s∈d.slots,s.id.seq ≠ 0:=fun d hd s hs=>by
 obtain ⟨e,he,hse⟩:=h.mem hd
 rw [(cT hse).2.2.2.2.1] at hs
 exact hb e he s hs
theorem qS {Ts : Nat->Int} : ∀ (l : List Ex) (k : Nat),(∀ i (h : i < l.length),(l[i].size : Int)+Ts (k+i)<=Ts (k+i+1))->(Ex.sizes l : Int)+Ts k<=Ts (k+l.length)
 | [],k,_=>by simp [Ex.sizes]
 | e::l,k,h=>by
  have h0:=h 0 Q2
  have h1:=qS l (k+1) fun i hi=>by
   have:=h (i+1) (by simpa using hi)
   rw [show k+1+i = k+(i+1) by omega]
   exact this
  simp only [Ex.sizes,List.length_cons]
  rw [show k+(l.length+1) = k+1+l.length by omega]
  simp only [List.getElem_cons_zero,Nat.add_zero] at h0
  omega
theorem Mk.size {c : MkC} {t : Ty} {env : List Bnd} {T T' : Int} {e : Ex} (h : Mk c t env T e T') : (e.size : Int)+T<=T':=by
 have row : ∀ {l : List Ex} {Ts : Nat->Int},(∀ i (h : i < l.length),(l[i].size : Int)+Ts i<=Ts (i+1))->(Ex.sizes l : Int)+Ts 0<=Ts l.length:=fun {l Ts} h=>by
  have:=qS (Ts:=Ts) l 0 fun i hi=>by rw [Nat.zero_add];exact h i hi
  rwa [Nat.zero_add] at this
 induction h with
 | int _=>rw [Ex.size_eq];show ((1+0 : Nat) : Int)+_<=_;omega
 | bool _=>rw [Ex.size_eq];show ((1+0 : Nat) : Int)+_<=_;omega
 | var _=>rw [Ex.size_eq];show ((1+0 : Nat) : Int)+_<=_;omega
 | @list env T kids Ts _ h0 _ ih=>rw [Ex.size_eq];have:=row ih;show ((1+Ex.sizes kids : Nat) : Int)+_<=_;omega
 | @kase env T T1 d k e _ _ _ hm ih=>rw [Ex.size_eq];show ((1+(e.size+0) : Nat) : Int)+_<=_;omega
 | @recd env T d kids _ _ Ts _ h0 hm ih=>rw [Ex.size_eq];have:=row ih;show ((1+Ex.sizes kids : Nat) : Int)+_<=_;omega
 | @len env T T1 a hm ih=>rw [Ex.size_eq];show ((1+(a.size+0) : Nat) : Int)+_<=_;omega
 | @not env T T1 a hm ih=>rw [Ex.size_eq];show ((1+(a.size+0) : Nat) : Int)+_<=_;omega
 | @both t u env T T1 T2 n a b _ ha hb ih1 ih2=>rw [Ex.size_eq];show ((1+(a.size+(b.size+0)) : Nat) : Int)+_<=_;omega
 | @ife t env T T1 T2 T3 a b e ha hb he ih1 ih2 ih3=>rw [Ex.size_eq];show ((1+(a.size+(b.size+(e.size+0))) : Nat) : Int)+_<=_;omega
 | @lete t u env T T1 T2 a b m ha hb ih1 ih2=>rw [Ex.size_eq];show ((1+(a.size+(b.size+0)) : Nat) : Int)+_<=_;omega
 | @fold t env T T1 T2 T3 a b e m m2 ha hb he ih1 ih2 ih3=>rw [Ex.size_eq];show ((1+(a.size+(b.size+(e.size+0))) : Nat) : Int)+_<=_;omega
 | @mat t env T T1 d a kids ms _ _ Ts _ _ ha h0 hm ih1 ih=>rw [Ex.size_eq];have:=row ih;show ((1+(a.size+Ex.sizes kids) : Nat) : Int)+_<=_;omega
 | @field env T T1 d j a _ _ _ hm ih=>rw [Ex.size_eq];show ((1+(a.size+0) : Nat) : Int)+_<=_;omega
 | @call env T k kids _ _ _ Ts _ h0 hm ih=>rw [Ex.size_eq];have:=row ih;show ((1+Ex.sizes kids : Nat) : Int)+_<=_;omega
def Us (P : Int) (s : MkS) : Prop:=0<=s.pos/\s.pos<=P/\0<=s.temp/\s.temp<=P/\-P<=s.left/\s.left<=1099511627776/\0<=s.name/\s.name<=P
theorem Us.bd {P B : Int} {s : MkS} (h : Us P s) (hP : P+B<=1099511627776) : Bd B s:=by unfold Us at h;unfold Bd;omega
theorem Ag {g : GX} {q P : Int} (hg : GBd q g) (hq : 0<=q) {t : Ty} {env : List Bnd} {d : Int} {s : MkS} (h : Us P s) (hP : P+q<=1099511627776) : Us (P+q) (g t env d s).2:=by
 have:=hg t env d s (1099511627776 - P - q) Q0 (h.bd Q0)
 unfold Us at *
 unfold Bd at this
 omega
theorem qA (d : DefT) : (bS d).length = d.slots.length:=by simp [bS]
theorem iE {d : DefT} {b : Bnd} (h : b∈bS d) : ∃ s∈d.slots,b = ⟨s.id,0,s.ty⟩:=by
 obtain ⟨s,hs,rfl⟩:=List.mem_map.1 h
 exact ⟨s,hs,rfl⟩
theorem FA {p : ProgT} {t : Ty} (h : wfT p 5 t) : okT p 5 9 t 4:=.inr ⟨Q0,h,Q0⟩
theorem FB {p : ProgT} {t : Ty} (h : wfT p 5 t) : okT p 5 9 t 0:=.inl ⟨Q0,bI Q0 h⟩
theorem Mk.like {c c' : MkC} (hl : dN c.p.defs c'.p.defs) (hm : c.p.mods = c'.p.mods) (ho : c.own = c'.own) (hh : c.home = c'.home) {t : Ty} {env : List Bnd} {T T' : Int} {e : Ex} (h : Mk c t env T e T') : Mk c' t env T e T':=by
 have get : ∀ d∈c.p.defs,∃ d'∈c'.p.defs,d'.id = d.id/\d'.kind = d.kind/\d'.slots = d.slots:=fun d hd=>by
  obtain ⟨d',hd',hs⟩:=hl.mem hd
  have:=cT hs
  exact ⟨d',hd',this.1.symm,this.2.1.symm,this.2.2.2.2.1.symm⟩
 induction h with
 | int h=>exact Mk.int h
 | bool h=>exact Mk.bool h
 | var h=>exact Mk.var h
 | list Ts hl h0 _ ih=>exact Mk.list Ts hl h0 ih
 | kase hd hk h _ ih =>
  obtain ⟨d',hd',e1,e2,e3⟩:=get _ hd
  have:=Mk.kase hd' (by rw [e2];exact hk) (by rw [e3];exact h) (by rw [List.getElem_of_eq e3];exact ih)
  rwa [e1] at this
 | recd hd hk Ts hn h0 _ ih =>
  obtain ⟨d',hd',e1,e2,e3⟩:=get _ hd
  have:=Mk.recd hd' (by rw [e2];exact hk) Ts (by rw [e3];exact hn) h0 fun i hi=>by rw [List.getElem_of_eq e3];exact ih i hi
  rwa [e1] at this
 | len _ ih=>exact Mk.len ih
 | not _ ih=>exact Mk.not ih
 | both h _ _ ih1 ih2=>exact Mk.both h ih1 ih2
 | ife _ _ _ ih1 ih2 ih3=>exact Mk.ife ih1 ih2 ih3
 | lete _ _ ih1 ih2=>exact Mk.lete ih1 ih2
 | fold _ _ _ ih1 ih2 ih3=>exact Mk.fold ih1 ih2 ih3
 | mat hd hk Ts hn hms _ h0 _ ih1 ih =>
  obtain ⟨d',hd',e1,e2,e3⟩:=get _ hd
  have:=Mk.mat hd' (by rw [e2];exact hk) Ts (by rw [e3];exact hn) (by rw [e3];exact hms) (by rw [e1];exact ih1) h0 fun i hi=>by rw [List.getElem_of_eq e3];exact ih i hi
  rwa [e1] at this
 | field hd hk h _ ih =>
  obtain ⟨d',hd',e1,e2,e3⟩:=get _ hd
  have:=Mk.field hd' (by rw [e2];exact hk) (by rw [e3];exact h) (by rw [e1];exact ih)
  rwa [e1,List.getElem_of_eq e3] at this
 | @call env T k kids hd hk hv Ts hn h0 _ ih =>
  have hd' : k < c'.p.defs.length:=by rw [<-hl.len];exact hd
  have e:=cT (hl.get hd hd')
  have hv' : jg c' k:=by
   unfold jg bK modA at hv ⊢
   rw [List.getD_eq_getElem?_getD,List.getElem?_eq_getElem hd] at hv
   rw [List.getD_eq_getElem?_getD,List.getElem?_eq_getElem hd']
   rw [<-ho,<-hh,<-hm]
   have e3:=e.2.2.1
   simp only [Option.getD_some] at hv ⊢
   rw [<-e3]
   exact hv
  have:=Mk.call (c:=c') (env:=env) (kids:=kids) hd' (by rw [<-e.2.1];exact hk) hv' Ts (by rw [<-e.2.2.2.2.1];exact hn) h0 fun i hi=>by rw [List.getElem_of_eq e.2.2.2.2.1.symm];exact ih i hi
  rwa [<-e.1,<-e.2.2.2.2.2.1] at this
theorem CC {c : MkC} {d : DefT} {s : MkS} (hb : Base c.p 5) (hn : Names c.p) {i : Nat} (hi : i < c.p.defs.length) (hd' : c.p.defs[i] = d) (ho : c.own = i) {P : Int} (hs : Us P s) (hP : P+2 * 9 ^ 9<=1000000000000) :
  Us (P+2 * 9 ^ 9) (jc c d s).2/\∃ T,s.temp<=T/\Mk c d.result (bS d) T (jc c d s).1 (jc c d s).2.temp:=by
 have hd : d∈c.p.defs:=by rw [<-hd'];exact List.getElem_mem hi
 have hg:=pK (hb.gctx hn) 9
 have bd:=cW hb.gen.short 9
 have h0 : 0 < (bS d).length:=by rw [qA];exact hb.e0 d hd
 have he : ∀ b∈bS d,wfT c.p 5 b.ty/\gTy c.p b.ty:=fun b hb'=>by
  obtain ⟨x,hx,rfl⟩:=iE hb'
  exact ⟨hb.gen.slot d hd x hx,hn.gs d hd x hx⟩
 have h9 : (9 : Int) ^ 9 = 387420489:=Q1
 have w:=hb.resA d hd
 have m1:=hg d.result (bS d) 4 s h0 he (FA w) (hn.gr d hd)
 have u1:=Ag bd Q0 (t:=d.result) (env:=bS d) (d:=4) hs Q0
 unfold jc
 generalize au c 9 d.result (bS d) 4 s = r at m1 u1 ⊢
 split
 ·have hlk : dN (c.with d r.1).p.defs c.p.defs:=by
   show dN (c.p.defs.set c.own.toNat (d.setBody r.1)) c.p.defs
   rw [ho,Int.toNat_natCast,<-hd']
   exact (dN.refl _).set hi r.1
  have hb2 : Base (c.with d r.1).p 5:=Base.like (ms:=c.p.mods) hb hlk
  have hn2 : Names (c.with d r.1).p:=Names.like (ms:=c.p.mods) (ns:=c.p.mods) hn hlk
  have u0 : Us (P+9 ^ 9) ⟨r.2.pos,r.2.temp,0,r.2.name⟩:=by unfold Us at u1 ⊢;dsimp only;omega
  have m2:=pK (hb2.gctx hn2) 9 d.result (bS d) 0 ⟨r.2.pos,r.2.temp,0,r.2.name⟩ h0 (fun b hb'=>⟨hlk.wf (ms:=c.p.mods) (ns:=c.p.mods) _ _ (he b hb').1,pq (ms:=c.p.mods) (ns:=c.p.mods) hlk (he b hb').2⟩) (FB (hlk.wf (ms:=c.p.mods) (ns:=c.p.mods) _ _ w)) (pq (ms:=c.p.mods) (ns:=c.p.mods) hlk (hn.gr d hd))
  have u2:=Ag (cW hb2.gen.short 9) Q0 (t:=d.result) (env:=bS d) (d:=0) u0 Q0
  exact ⟨by unfold Us at u2 ⊢;omega,r.2.temp,by have:=m1.lt;omega,m2.like hlk rfl rfl rfl⟩
 ·exact ⟨by unfold Us at u1 ⊢;omega,s.temp,Int.le_refl _,m1⟩
end Xe

namespace Go.Proofs.YtanbipbiblikbaaDoor
open Xe Pm
def lV (Is : Sig->St'->St'->Prop) (K : St'->Prop) : St'->Prop:=Lp (fun ir cI=>aa (cell (ent cI 0) 0) fun z234=>aa (cell (ent cI 1) 0) fun z235=>ah 31 (cell (ent cI 5) 0) fun n236 c237
 => ifK (decide (z235 < (n236 : Int))) (ckK (0<=z235/\z235 < (n236 : Int)) (aa (cell (el c237 31 (Int.toNat z235)) 3) fun z238=>ifK (decide
 (z238 = (0 : Int))) (ckK (okI (z235+1)) (ir [[vI z234],[vI (z235+1)],ent cI 2,[cell (ent cI 3) 0],cls (ent cI 4) 0 10 [],[.sl
 n236 31 c237]])) (aa (cell (el c237 31 (Int.toNat z235)) 3) fun z239=>ifK (decide (z239 = (1 : Int))) (ckK (okI (z235+1)) (ir [[vI z234],
 [vI (z235+1)],ent cI 2,[cell (ent cI 3) 0],cls (ent cI 4) 0 10 [],[.sl n236 31 c237]])) (Lp (fun xJ bV=>aa (cell (ent
 bV 0) 0) fun z242=>aa (cell (ent bV 1) 0) fun z243=>aa (cell (ent bV 2) 0) fun z244=>ah 9 (cell (ent bV 7) 0) fun n245 c246
 => ah 31 (cell (ent bV 8) 0) fun n247 c248=>ah 11 (cell (ent bV 6) 8) fun n249 c250=>ifK (decide (z244 < (n249 : Int))) (ah 11 (cell
 (ent bV 6) 8) fun n251 c252=>ckK (0<=z244/\z244 < (n251 : Int)) (ah 11 (cell (ent bV 6) 8) fun n253 c254=>ckK (0<=z244/\z244 < (n253
 : Int)) (ckK (room (n245+1) 89) (ckK (okI (z244+1)) (xJ [[vI z242],[vI z243],[vI (z244+1)],ent bV 3,[cell (ent bV 4) 0],cls
 (ent bV 5) 0 10 [],ent bV 6,[.sl (n245+1) 9 (c246++(cls (sub (el c252 11 (Int.toNat z244)) 0 3) 0 3 (vI 0::cls (sub (el c254 11
 (Int.toNat z244)) 4 5) 0 5 [])))],[.sl n247 31 c248]]))))) (caK Is s49 [sub (ent bV 6) 9 5,[.sl n245 9 c246],[vI 4],cls (ent bV 5) 0 4 (vI
 14::vI z243::cls (sub (ent bV 6) 4 3) 0 3 [vI 0]),[.sl n247 31 c248]] fun r255=>ah 1 (cell (ent r255 1) 0) fun n256 c257=>ah 31
 (cell (ent r255 3) 0) fun n258 c259=>ckK (0<=z243/\z243 < (n258 : Int)) (ckK (0<=z243/\z243 < (n258 : Int)) (caK Is s50 [sub (el (upd c259
 ((Int.toNat z243) * 31+14) (cls (ent r255 0) 0 14 [.sl n256 1 c257])) 31 (Int.toNat z243)) 14 15] fun r260=>aa (cell (ent r260 0) 0) fun z261
 => ifK (decide ((30 : Int) < z261)) (caK Is s49 [sub (ent bV 6) 9 5,[.sl n245 9 c246],[vI 0],cls (ent r255 2) 0 4 (vI 0::cls (ent r255 2) 5
 5 []),[.sl n258 31 (upd c259 ((Int.toNat z243) * 31+14) (cls (ent r255 0) 0 14 [.sl n256 1 c257]))]] fun r262=>ah 1 (cell (ent r262 1) 0) fun
 n263 c264=>ah 31 (cell (ent r262 3) 0) fun n265 c266=>ckK (0<=z243/\z243 < (n265 : Int)) (ckK (okI (z243+1)) (ir [[vI z242],[vI
 (z243+1)],ent bV 3,[cell (ent bV 4) 0],cls (ent r262 2) 0 10 [],[.sl n265 31 (upd c266 ((Int.toNat z243) * 31+14) (cls (ent r262 0) 0
 14 [.sl n263 1 c264]))]]))) (ckK (okI (z243+1)) (ir [[vI z242],[vI (z243+1)],ent bV 3,[cell (ent bV 4) 0],cls (ent r255 2) 0 10
 [],[.sl n258 31 (upd c259 ((Int.toNat z243) * 31+14) (cls (ent r255 0) 0 14 [.sl n256 1 c257]))]])))))) [[vI z234],[vI z235],[vI 0],ent cI
 2,[cell (ent cI 3) 0],cls (ent cI 4) 0 10 [],el c237 31 (Int.toNat z235),[.sl 0 9 []],[.sl n236 31 c237]])))) (aa (cell (ent cI 4)
 3) fun z267=>aa (cell (ent cI 4) 3) fun z268=>ckK (0<=z267/\z267 = z268/\room (Int.toNat z267) 25) (Lp (fun kB eI=>aa (cell
 (ent eI 0) 0) fun z271=>aa (cell (ent eI 1) 0) fun z272=>ah 3 (cell (ent eI 4) 0) fun n273 c274=>ah 31 (cell (ent eI 5) 0)
 fun n275 c276=>ifK (decide (z272 < (n275 : Int))) (ckK (0<=z272/\z272 < (n275 : Int)) (aa (cell (el c276 31 (Int.toNat z272)) 3) fun z277 =>
 ifK (decide (z277 = (0 : Int))) (ckK (okI (z272+1)) (kB [[vI z271],[vI (z272+1)],ent eI 2,[cell (ent eI 3) 0],[.sl n273 3 c274],
 [.sl n275 31 c276]])) (ckK (0<=z272/\z272 < (n275 : Int)) (aa (cell (el c276 31 (Int.toNat z272)) 3) fun z278=>ifK (decide (z278 = (1 : Int)))
 (ckK (okI (z272+1)) (kB [[vI z271],[vI (z272+1)],ent eI 2,[cell (ent eI 3) 0],[.sl n273 3 c274],[.sl n275 31 c276]])) (ckK (0 <=
 z272/\z272 < (n275 : Int)) (caK Is s51 [sub (el c276 31 (Int.toNat z272)) 14 15,[.sl 0 1 []]] fun r279=>ah 1 (cell (ent r279 0) 0) fun n280
 c281=>Lp (fun xI fc=>aa (cell (ent fc 0) 0) fun z284=>aa (cell (ent fc 1) 0) fun z285=>aa (cell (ent fc 2) 0) fun
 z286=>ah 3 (cell (ent fc 5) 0) fun n287 c288=>ah 1 (cell (ent fc 6) 0) fun n289 c290=>ah 31 (cell (ent fc 7) 0) fun n291 c292
 => ifK (decide (z286 < (n289 : Int))) (ckK (0<=z286/\z286 < (n289 : Int)) (caK Is s39 [[vI z284]] fun r293=>aa (cell (el c290 1 (Int.toNat
 z286)) 0) fun z294=>ckK (0<=z294/\z294 < (n287 : Int)) (ckK (okI (z284+1)) (ckK (okI (z286+1)) (xI [[vI (z284+1)],[vI z285],[vI
 (z286+1)],ent fc 3,[cell (ent fc 4) 0],[.sl n287 3 (upd c288 ((Int.toNat z294) * 3+0) (ent r293 0))],[.sl n289 1 c290],[.sl n291 31
 c292]]))))) (ckK (0<=z285/\z285 < (n291 : Int)) (caK Is s52 [sub (el c292 31 (Int.toNat z285)) 14 15,[.sl n287 3 c288]] fun r295=>ah 15 (cell
 (ent r295 1) 0) fun n296 c297=>ah 3 (cell (ent r295 2) 0) fun n298 c299=>ckK (0<=z285/\z285 < (n291 : Int)) (ckK (okI (z285+1)) (kB
 [[vI z284],[vI (z285+1)],ent fc 3,[cell (ent fc 4) 0],[.sl n298 3 c299],[.sl n291 31 (upd c292 ((Int.toNat z285) * 31+14) (cls (ent
 r295 0) 0 13 [.sl n296 15 c297,cell (ent r295 0) 13]))]]))))) [[vI z271],[vI z272],[vI 0],ent eI 2,[cell (ent eI 3) 0],[.sl n273 3
 c274],[.sl n280 1 c281],[.sl n275 31 c276]])))))) (K [[cell (ent eI 3) 0,.sl n275 31 c276]])) [[vI z234],[vI 0],ent cI 2,[cell (ent
 cI 3) 0],[.sl (Int.toNat z267) 3 (List.flatten (List.replicate (Int.toNat z267) [vI 0,vI 0,vI 0]))],[.sl n236 31 c237]])))
theorem tS {α : Type} {enc : α->List D} {sz : Nat} (he : ∀ x,(enc x).length = sz) (xs : List α) {k : Nat} (hk : k < xs.length) {o : Nat} {vs : List D} {x' : α} (hx : enc x' = (enc xs[k]).take o++vs++(enc xs[k]).drop (o+vs.length)) (ho : o+vs.length<=sz) : upd (xs.flatMap enc) (k * sz+o) vs = (xs.set k x').flatMap enc:=by
 have e : xs = xs.take k++xs[k]::xs.drop (k+1):=by rw [<-List.drop_eq_getElem_cons hk,List.take_append_drop]
 have hl : (xs.take k).length = k:=by rw [List.length_take];omega
 have hA : ((xs.take k).flatMap enc).length = k * sz:=by
  rw [List.length_flatMap,List.map_congr_left (g:=fun _=>sz) (fun x _=>he x),List.map_const',List.sum_replicate_nat,hl]
 have e2 : xs.set k x' = xs.take k++x'::xs.drop (k+1):=by rw [List.set_eq_take_append_cons_drop,if_pos hk]
 have e3 : xs.flatMap enc = (xs.take k).flatMap enc++(enc xs[k]++(xs.drop (k+1)).flatMap enc):=by
  conv=>lhs;rw [e]
  rw [List.flatMap_append,List.flatMap_cons]
 rw [e2,List.flatMap_append,List.flatMap_cons,e3,hx]
 generalize (xs.take k).flatMap enc = A at hA ⊢
 generalize (xs.drop (k+1)).flatMap enc = B
 have hk':=he xs[k]
 generalize enc xs[k] = X at hk' ⊢
 unfold upd
 rw [List.take_append,List.drop_append,hA,List.take_of_length_le (show A.length<=k * sz+o by omega),List.drop_eq_nil_of_le (show A.length<=k * sz+o+vs.length by omega),show k * sz+o - k * sz = o by omega,show k * sz+o+vs.length - k * sz = o+vs.length by omega,
  List.take_append_of_le_length Q0,List.drop_append_of_le_length Q0]
 simp
theorem sC (ds : List DefT) {k : Nat} (hk : k < ds.length) (e : Ex) : upd (ds.flatMap DefT.enc) (k * 31+14) e.enc = (ds.set k (ds[k].setBody e)).flatMap DefT.enc:=by
 refine tS DefT.aq ds hk ?_ (by rw [Ex.aq];decide)
 rw [Ex.ay]
 rfl
theorem upd_id (ids : List IdT) {k : Nat} (hk : k < ids.length) (i : IdT) : upd (ids.flatMap IdT.enc) (k * 3+0) i.enc = (ids.set k i).flatMap IdT.enc :=
 tS (enc:=IdT.enc) (fun _=>rfl) ids hk rfl (show 0+3<=3 by decide)
theorem Gf (n : Nat) : List.flatten (List.replicate n [vI 0,vI 0,vI 0]) = (List.replicate n id0).flatMap IdT.enc:=by
 rw [List.flatMap_def,List.map_replicate]
 rfl
theorem pn {α : Type} {l : List α} {k : Nat} {d : α} (h : k < l.length) : l.getD k d = l[k]:=by rw [List.getD_eq_getElem?_getD,List.getElem?_eq_getElem h];rfl
section
variable {l : List Int} {K : St'->Prop}
structure BI (l : List Int) (ms : List ModT) (ds0 : List DefT) (z : List DefT×MkS) (i : Nat) (ds : List DefT) (s : MkS) : Prop where
 le : i<=ds0.length
 lk : dN ds ds0
 go : bQ ms l (ds0.length - i) i ds s = z
 us : 0<=s.pos/\s.pos+(ds0.length - i : Nat) * (2 * 9 ^ 9)<=100000000000/\0<=s.temp/\s.temp+(ds0.length - i : Nat) * (2 * 9 ^ 9)<=100000000000
 nm : ∀ k (hk : k < ds.length),k < i->¬ bare ds[k]->inB s.temp ds[k].body/\ds[k].body.size<=100000000000
theorem D9 (hl : ∀ x∈l,InI x) {ms : List ModT} {ds0 : List DefT} {z : List DefT×MkS} (hm : 0 < ms.length) (hb : Base ⟨ms,ds0⟩ 5) (hn : Names ⟨ms,ds0⟩) (hd8 : ds0.length<=8) {nx : Int} {zp : List D} (hsl : ∀ d∈ds0,∀ x∈d.slots,x.id.seq ≠ 0)
  (hgo : bQ ms l ds0.length 0 ds0 ⟨24,0,0,0⟩ = z) {B : (St'->Prop)->St'->Prop} {s0 : St'} (e0 : s0 = [[vI nx],[vI 0],zp,[.sl ms.length 6 (ms.flatMap ModT.enc)],mkL ⟨⟨ms,ds0⟩,l,0,id0⟩ ⟨24,0,0,0⟩,[.sl ds0.length 31 (ds0.flatMap DefT.enc)]])
  (h : ∀ (i : Nat) (ds : List DefT) (s : MkS) (own : Int) (home : IdT) (next : St'->Prop),BI l ms ds0 z i ds s ->
   (∀ ds' s' own' home',BI l ms ds0 z (i+1) ds' s'->next [[vI nx],[vI (i+1 : Nat)],zp,[.sl ms.length 6 (ms.flatMap ModT.enc)],mkL ⟨⟨ms,ds'⟩,l,own',home'⟩ s',[.sl ds'.length 31 (ds'.flatMap DefT.enc)]]) ->
   B next [[vI nx],[vI (i : Nat)],zp,[.sl ms.length 6 (ms.flatMap ModT.enc)],mkL ⟨⟨ms,ds⟩,l,own,home⟩ s,[.sl ds.length 31 (ds.flatMap DefT.enc)]]) : Lp B s0:=by
 refine jf (σ:=Nat×List DefT×MkS×Int×IdT) (fun y=>[[vI nx],[vI (y.1 : Nat)],zp,[.sl ms.length 6 (ms.flatMap ModT.enc)],mkL ⟨⟨ms,y.2.1⟩,l,y.2.2.2.1,y.2.2.2.2⟩ y.2.2.1,[.sl y.2.1.length 31 (y.2.1.flatMap DefT.enc)]]) (fun y=>ds0.length - y.1) (fun y=>BI l ms ds0 z y.1 y.2.1 y.2.2.1)
  (0,ds0,⟨24,0,0,0⟩,0,id0) ⟨Nat.zero_le _,dN.refl _,hgo,⟨by show (0 : Int)<=24;decide,by show (24 : Int)+_<=_;rw [show (9 : Int) ^ 9 = 387420489 by decide];omega,by show (0 : Int)<=0;decide,by show (0 : Int)+_<=_;rw [show (9 : Int) ^ 9 = 387420489 by decide];omega⟩,fun k _ hk=>absurd hk (Nat.not_lt_zero _)⟩ e0 ?_
 rintro ⟨i,ds,s,own,home⟩ next hI hnx
 dsimp only at hI hnx ⊢
 refine h i ds s own home next hI fun ds' s' own' home' hI'=>?_
 have:=hI'.le
 exact hnx (i+1,ds',s',own',home') (by dsimp only;omega) hI'
theorem BI.skip {ms : List ModT} {ds0 ds : List DefT} {z : List DefT×MkS} {i : Nat} {s : MkS} (h : BI l ms ds0 z i ds s) (hi : i < ds.length) (hb : bare ds[i]) : BI l ms ds0 z (i+1) ds s:=by
 have hlen:=h.lk.len
 have hle:=h.le
 obtain ⟨m,hm⟩ : ∃ m,ds0.length - i = m+1:=⟨ds0.length - i - 1,Q0⟩
 have hgo:=h.go
 have hus:=h.us
 rw [hm] at hgo hus
 rw [bQ,pn hi,if_pos hb] at hgo
 have e1 : ((m+1 : Nat) : Int) * (2 * 9 ^ 9) = m * (2 * 9 ^ 9)+2 * 9 ^ 9:=by rw [Int.natCast_add,Int.add_mul];simp
 have h9 : (9 : Int) ^ 9 = 387420489:=Q1
 refine ⟨Q0,h.lk,by rw [show ds0.length - (i+1) = m by omega];exact hgo,by rw [show ds0.length - (i+1) = m by omega];omega,fun k hk hlt hnb=>?_⟩
 by_cases e : k = i
 ·subst e;exact absurd hb hnb
 ·exact h.nm k hk Q0 hnb
theorem BI.step {ms : List ModT} {ds0 ds : List DefT} {z : List DefT×MkS} {i : Nat} {s : MkS} (h : BI l ms ds0 z i ds s) (hd8 : ds0.length<=8) (hi : i < ds.length) (hnb : ¬ bare ds[i]) (hb : Base ⟨ms,ds⟩ 5) (hn : Names ⟨ms,ds⟩) (hsl : ∀ d∈ds,∀ x∈d.slots,x.id.seq ≠ 0) :
  BI l ms ds0 z (i+1) (ds.set i (ds[i].setBody (jc ⟨⟨ms,ds⟩,l,i,ds[i].mod⟩ ds[i] ⟨s.pos,s.temp,14,0⟩).1)) (jc ⟨⟨ms,ds⟩,l,i,ds[i].mod⟩ ds[i] ⟨s.pos,s.temp,14,0⟩).2:=by
 have hlen:=h.lk.len
 have hle:=h.le
 obtain ⟨m,hm⟩ : ∃ m,ds0.length - i = m+1:=⟨ds0.length - i - 1,Q0⟩
 have hgo:=h.go
 have hus:=h.us
 rw [hm] at hgo hus
 rw [bQ,pn hi,if_neg hnb] at hgo
 have e1 : ((m+1 : Nat) : Int) * (2 * 9 ^ 9) = m * (2 * 9 ^ 9)+2 * 9 ^ 9:=by rw [Int.natCast_add,Int.add_mul];simp
 have h9 : (9 : Int) ^ 9 = 387420489:=Q1
 have hmn : (0 : Int)<=m * (2 * 9 ^ 9):=Int.mul_nonneg Q0 Q0
 have hu : Us (100000000000 - (m * (2 * 9 ^ 9)+2 * 9 ^ 9)) ⟨s.pos,s.temp,14,0⟩:=by
  have : (m : Int) * (2 * 9 ^ 9)<=8 * (2 * 9 ^ 9):=Int.mul_le_mul_of_nonneg_right Q0 Q0
  unfold Us;dsimp only;omega
 obtain ⟨hu2,T,hT,hmk⟩:=CC (c:=⟨⟨ms,ds⟩,l,i,ds[i].mod⟩) hb hn hi rfl rfl hu Q0
 generalize jc ⟨⟨ms,ds⟩,l,i,ds[i].mod⟩ ds[i] ⟨s.pos,s.temp,14,0⟩ = r at hgo hu2 hmk ⊢
 dsimp only at hT
 have hin : inB r.2.temp r.1:=hmk.inB Q0 fun b hb' hs=>by
  obtain ⟨x,hx,rfl⟩:=iE hb'
  exact absurd hs (hsl _ (List.getElem_mem hi) x hx)
 have hlt:=hmk.lt
 have hsz:=hmk.size
 unfold Us at hu2
 refine ⟨Q0,h.lk.set hi _,by rw [show ds0.length - (i+1) = m by omega];exact hgo,by rw [show ds0.length - (i+1) = m by omega];omega,fun k hk hlt2 hnb'=>?_⟩
 by_cases e : k = i
 ·subst e
  simp only [List.getElem_set_self]
  refine ⟨hin,?_⟩
  show r.1.size<=100000000000
  omega
 ·have hk' : k < ds.length:=by simpa using hk
  have eg : (ds.set i (ds[i].setBody r.1))[k] = ds[k]:=by rw [List.getElem_set_ne Q0]
  rw [eg] at hnb' ⊢
  have:=h.nm k hk' Q0 hnb'
  exact ⟨bP Q0 this.1,this.2⟩
end
set_option maxHeartbeats 1000000
section
variable {l : List Int} {K : St'->Prop}
structure RI (ds0 : List DefT) (N : Nat) (out : List DefT) (i : Nat) (ds : List DefT) (ids : List IdT) (nx : Int) : Prop where
 le : i<=ds0.length
 lk : dN ds ds0
 go : gJ (ds0.length - i) i ds ids nx = out
 len : ids.length = N
 nx0 : 0<=nx
 nx1 : nx+(ds0.length - i : Nat) * 1000000000000<=100000000000000
 nm : ∀ k (hk : k < ds.length),i<=k->¬ bare ds[k]->inB N ds[k].body/\ds[k].body.size<=100000000000
theorem RI.skip {ds0 ds out : List DefT} {N i : Nat} {ids : List IdT} {nx : Int} (h : RI ds0 N out i ds ids nx) (hi : i < ds.length) (hb : bare ds[i]) : RI ds0 N out (i+1) ds ids nx:=by
 have hlen:=h.lk.len
 have hle:=h.le
 obtain ⟨m,hm⟩ : ∃ m,ds0.length - i = m+1:=⟨ds0.length - i - 1,Q0⟩
 have hgo:=h.go
 have hnx:=h.nx1
 rw [hm] at hgo hnx
 rw [gJ,pn hi,if_pos hb] at hgo
 exact ⟨Q0,h.lk,by rw [show ds0.length - (i+1) = m by omega];exact hgo,h.len,h.nx0,by rw [show ds0.length - (i+1) = m by omega];omega,fun k hk hlt=>h.nm k hk Q0⟩
theorem RI.step {ds0 ds out : List DefT} {N i : Nat} {ids : List IdT} {nx : Int} (h : RI ds0 N out i ds ids nx) (hi : i < ds.length) (hnb : ¬ bare ds[i]) :
  RI ds0 N out (i+1) (ds.set i (ds[i].setBody (eS (bA ids ds[i].body.post nx) ds[i].body))) (bA ids ds[i].body.post nx) (nx+ds[i].body.post.length):=by
 have hlen:=h.lk.len
 have hle:=h.le
 obtain ⟨m,hm⟩ : ∃ m,ds0.length - i = m+1:=⟨ds0.length - i - 1,Q0⟩
 have hgo:=h.go
 have hnx:=h.nx1
 have hn0:=h.nx0
 have hsz:=(h.nm i hi (Nat.le_refl _) hnb).2
 have hpl:=Ex.oU ds[i].body
 rw [hm] at hgo hnx
 rw [gJ,pn hi,if_neg hnb] at hgo
 refine ⟨Q0,h.lk.set hi _,by rw [show ds0.length - (i+1) = m by omega];exact hgo,by rw [iR];exact h.len,Q0,by rw [show ds0.length - (i+1) = m by omega];omega,fun k hk hlt hnb'=>?_⟩
 have hk' : k < ds.length:=by simpa using hk
 have eg : (ds.set i (ds[i].setBody (eS (bA ids ds[i].body.post nx) ds[i].body)))[k] = ds[k]:=by rw [List.getElem_set_ne Q0]
 rw [eg] at hnb' ⊢
 exact h.nm k hk' Q0 hnb'
theorem FJ {ds0 ds out : List DefT} {ids : List IdT} {nx : Int} {N : Nat} (hI0 : RI ds0 N out 0 ds ids nx) {zp md : List D} {B : (St'->Prop)->St'->Prop} {s0 : St'} (e0 : s0 = [[vI nx],[vI 0],zp,md,[.sl N 3 (ids.flatMap IdT.enc)],[.sl ds.length 31 (ds.flatMap DefT.enc)]])
  (h : ∀ (i : Nat) (ds : List DefT) (ids : List IdT) (nx : Int) (next : St'->Prop),RI ds0 N out i ds ids nx ->
   (∀ ds' ids' nx',RI ds0 N out (i+1) ds' ids' nx'->next [[vI nx'],[vI (i+1 : Nat)],zp,md,[.sl N 3 (ids'.flatMap IdT.enc)],[.sl ds'.length 31 (ds'.flatMap DefT.enc)]]) ->
   B next [[vI nx],[vI (i : Nat)],zp,md,[.sl N 3 (ids.flatMap IdT.enc)],[.sl ds.length 31 (ds.flatMap DefT.enc)]]) : Lp B s0:=by
 refine jf (σ:=Nat×List DefT×List IdT×Int) (fun y=>[[vI y.2.2.2],[vI (y.1 : Nat)],zp,md,[.sl N 3 (y.2.2.1.flatMap IdT.enc)],[.sl y.2.1.length 31 (y.2.1.flatMap DefT.enc)]]) (fun y=>ds0.length - y.1) (fun y=>RI ds0 N out y.1 y.2.1 y.2.2.1 y.2.2.2) (0,ds,ids,nx) hI0 e0 ?_
 rintro ⟨i,ds,ids,nx⟩ next hI hnx
 dsimp only at hI hnx ⊢
 refine h i ds ids nx next hI fun ds' ids' nx' hI'=>?_
 have:=hI'.le
 exact hnx (i+1,ds',ids',nx') (by dsimp only;omega) hI'
theorem qZ (hl : ∀ x∈l,InI x) {ms : List ModT} {ds0 : List DefT} (hm : 0 < ms.length) (hb : Base ⟨ms,ds0⟩ 5) (hn : Names ⟨ms,ds0⟩) (hd8 : ds0.length<=8) {nx : Int} (hnx0 : 0<=nx/\nx<=1000000) (hsl : ∀ d∈ds0,∀ x∈d.slots,x.id.seq ≠ 0) {zp : List D}
  (hK : K [[.sl ms.length 6 (ms.flatMap ModT.enc),.sl (gJ ds0.length 0 (bQ ms l ds0.length 0 ds0 ⟨24,0,0,0⟩).1 (List.replicate (bQ ms l ds0.length 0 ds0 ⟨24,0,0,0⟩).2.temp.toNat id0) nx).length 31 ((gJ ds0.length 0 (bQ ms l ds0.length 0 ds0 ⟨24,0,0,0⟩).1 (List.replicate (bQ ms l ds0.length 0 ds0 ⟨24,0,0,0⟩).2.temp.toNat id0) nx).flatMap DefT.enc)]]) :
  lV IS K [[vI nx],[vI 0],zp,[.sl ms.length 6 (ms.flatMap ModT.enc)],mkL ⟨⟨ms,ds0⟩,l,0,id0⟩ ⟨24,0,0,0⟩,[.sl ds0.length 31 (ds0.flatMap DefT.enc)]]:=by
 unfold lV
 generalize hz : bQ ms l ds0.length 0 ds0 ⟨24,0,0,0⟩ = z at hK
 refine D9 hl hm hb hn hd8 hsl hz rfl fun i ds s own home next hI hnx=>?_
 have hlen:=hI.lk.len
 have hle:=hI.le
 have hbd : Base ⟨ms,ds⟩ 5:=hb.like hI.lk
 have hnd : Names ⟨ms,ds⟩:=hn.like hI.lk
 simp only [pmr,pmg,pms]
 refine ⟨fun h=>?_,fun h=>?_⟩
 ·have hi : i < ds.length:=Q0
  rw [gZ _ hi]
  simp only [pmr,pms]
  have hmem:=List.getElem_mem hi
  refine ⟨Q0,fun k0=>⟨Q4,hnx ds s own home (hI.skip hi (.inl k0))⟩,fun k0=>⟨fun k1=>⟨Q4,hnx ds s own home (hI.skip hi (.inr k1))⟩,fun k1=>?_⟩⟩
  have hnb : ¬ bare ds[i]:=fun h=>h.elim k0 k1
  have h3:=hbd.gen.short _ hmem
  refine cg ds[i].slots.length (fun k=>[[vI nx],[vI (i : Nat)],[vI (k : Nat)],zp,[.sl ms.length 6 (ms.flatMap ModT.enc)],mkL ⟨⟨ms,ds⟩,l,own,home⟩ s,ds[i].enc,[.sl k 9 (((bS ds[i]).take k).flatMap Bnd.enc)],[.sl ds.length 31 (ds.flatMap DefT.enc)]]) (fun _=>True) trivial rfl fun k vU hk _ hn2=>?_
  simp only [pmr,pmg,pms]
  refine ⟨fun hk1=>?_,fun hk1=>?_⟩
  ·have hk2 : k < ds[i].slots.length:=Q0
   rw [iZ _ hk2]
   simp only [pmr,pms]
   have:=hn2 hk2 trivial
   have he : k < (bS ds[i]).length:=by rw [qA];exact hk2
   rw [List.take_succ_eq_append_getElem he,List.flatMap_append,List.flatMap_cons,List.flatMap_nil,List.append_nil] at this
   have eb : (bS ds[i])[k] = ⟨ds[i].slots[k].id,0,ds[i].slots[k].ty⟩:=by simp [bS]
   rw [eb] at this
   exact ⟨Q0,Q0,Qa,Q4,this⟩
  ·obtain rfl : k = ds[i].slots.length:=Q0
   have el : ds[i].slots.length = (bS ds[i]).length:=(qA _).symm
   rw [List.take_of_length_le Q0]
   have hc : Ctx ⟨⟨ms,ds⟩,l,i,ds[i].mod⟩ 5:=⟨hbd.gen,hl,hm,hbd.d0,hbd.d1,hbd.sty,hbd.rty⟩
   have fit : ∀ dp : Int,okT ⟨ms,ds⟩ 5 9 ds[i].result dp->(0<=dp/\dp<=4)->Fit ⟨⟨ms,ds⟩,l,i,ds[i].mod⟩ 5 9 ds[i].result (bS ds[i]) dp:=fun dp ho hr=>⟨by have:=hbd.e0 _ hmem;omega,Q0,fun b hb'=>by
     obtain ⟨x,hx,rfl⟩:=iE hb'
     exact hbd.gen.slot _ hmem x hx,fun b hb'=>by
     obtain ⟨x,hx,rfl⟩:=iE hb'
     exact hbd.sty _ hmem x hx,hbd.rty _ hmem,ho,Q0⟩
   have hus:=hI.us
   have h9 : (9 : Int) ^ 9 = 387420489:=Q1
   have hm0 : (0 : Int)<=(ds0.length - i : Nat) * (2 * 9 ^ 9):=Int.mul_nonneg Q0 Q0
   have hu : Us 100000000000 ⟨s.pos,s.temp,14,0⟩:=by unfold Us;dsimp only;omega
   have hw:=hbd.resA _ hmem
   refine ai (by rw [el];exact ug hc 9 ds[i].result (bS ds[i]) 4 ⟨s.pos,s.temp,14,0⟩ (fit 4 (FA hw) Q0) (hu.bd Q0)) ?_
   have hu1:=Ag (cW (c:=⟨⟨ms,ds⟩,l,i,ds[i].mod⟩) hbd.gen.short 9) (show (0 : Int)<=9 ^ 9 by omega) (t:=ds[i].result) (env:=bS ds[i]) (d:=4) hu Q0
   have hmk:=pK (c:=⟨⟨ms,ds⟩,l,i,ds[i].mod⟩) (hbd.gctx hnd) 9 ds[i].result (bS ds[i]) 4 ⟨s.pos,s.temp,14,0⟩ (by have:=hbd.e0 _ hmem;omega) (fun b hb'=>by
     obtain ⟨x,hx,rfl⟩:=iE hb'
     exact ⟨hbd.gen.slot _ hmem x hx,hnd.gs _ hmem x hx⟩) (FA hw) (hnd.gr _ hmem)
   have hst:=hI.step hd8 hi hnb hbd hnd (Ao hI.lk hsl)
   have hbo : jc ⟨⟨ms,ds⟩,l,i,ds[i].mod⟩ ds[i] ⟨s.pos,s.temp,14,0⟩ = if 30 < (au ⟨⟨ms,ds⟩,l,i,ds[i].mod⟩ 9 ds[i].result (bS ds[i]) 4 ⟨s.pos,s.temp,14,0⟩).1.size then au ⟨⟨ms,ds.set i (ds[i].setBody (au ⟨⟨ms,ds⟩,l,i,ds[i].mod⟩ 9 ds[i].result (bS ds[i]) 4 ⟨s.pos,s.temp,14,0⟩).1)⟩,l,i,ds[i].mod⟩ 9 ds[i].result (bS ds[i]) 0 ⟨(au ⟨⟨ms,ds⟩,l,i,ds[i].mod⟩ 9 ds[i].result (bS ds[i]) 4 ⟨s.pos,s.temp,14,0⟩).2.pos,(au ⟨⟨ms,ds⟩,l,i,ds[i].mod⟩ 9 ds[i].result (bS ds[i]) 4 ⟨s.pos,s.temp,14,0⟩).2.temp,0,(au ⟨⟨ms,ds⟩,l,i,ds[i].mod⟩ 9 ds[i].result (bS ds[i]) 4 ⟨s.pos,s.temp,14,0⟩).2.name⟩ else au ⟨⟨ms,ds⟩,l,i,ds[i].mod⟩ 9 ds[i].result (bS ds[i]) 4 ⟨s.pos,s.temp,14,0⟩:=rfl
   rw [hbo] at hst
   have hsz:=hmk.size
   generalize au ⟨⟨ms,ds⟩,l,i,ds[i].mod⟩ 9 ds[i].result (bS ds[i]) 4 ⟨s.pos,s.temp,14,0⟩ = r at hu1 hst hsz ⊢
   simp only [pmr,pmg]
   refine ⟨Q0,Q0,?_⟩
   rw [o9,sC ds hi,gZ _ (show i < (ds.set i (ds[i].setBody r.1)).length by simpa using hi)]
   simp only [pms,List.getElem_set_self]
   have hu1':=hu1
   unfold Us at hu1'
   dsimp only at hsz
   refine ai (y7 r.1 Q0) ?_
   simp only [pmr]
   refine ⟨fun h30=>?_,fun h30=>?_⟩
   ·rw [if_pos Q0] at hst
    have hlk:=hI.lk.set hi r.1
    have hbd2 : Base ⟨ms,ds.set i (ds[i].setBody r.1)⟩ 5:=hb.like hlk
    have hc2 : Ctx ⟨⟨ms,ds.set i (ds[i].setBody r.1)⟩,l,i,ds[i].mod⟩ 5:=⟨hbd2.gen,hl,hm,hbd2.d0,hbd2.d1,hbd2.sty,hbd2.rty⟩
    have hl2 : dN (ds.set i (ds[i].setBody r.1)) ds:=(dN.refl ds).set hi r.1
    have fit2 : Fit ⟨⟨ms,ds.set i (ds[i].setBody r.1)⟩,l,i,ds[i].mod⟩ 5 9 ds[i].result (bS ds[i]) 0:=by
     have f:=fit 0 (FB hw) Q0
     exact ⟨f.e0,f.e1,fun b hb'=>hl2.wf _ _ (f.ew b hb'),f.es,f.ts,FB (hl2.wf _ _ hw),f.dp⟩
    have hu0 : Us (100000000000+9 ^ 9) ⟨r.2.pos,r.2.temp,0,r.2.name⟩:=by unfold Us;dsimp only;omega
    have hcall:=ug hc2 9 ds[i].result (bS ds[i]) 0 ⟨r.2.pos,r.2.temp,0,r.2.name⟩ fit2 (hu0.bd Q0)
    simp only [pmg,aR,List.length_set,<-el] at hcall
    refine ai hcall ?_
    clear hcall
    generalize au ⟨⟨ms,ds.set i (ds[i].setBody r.1)⟩,l,i,ds[i].mod⟩ 9 ds[i].result (bS ds[i]) 0 ⟨r.2.pos,r.2.temp,0,r.2.name⟩ = r2 at hst ⊢
    simp only [pmr,pmg]
    rw [o9,sC (ds.set i (ds[i].setBody r.1)) (show i < (ds.set i (ds[i].setBody r.1)).length by simpa using hi)]
    have:=hnx _ _ i ds[i].mod hst
    refine ⟨Q0,Q4,?_⟩
    simp only [List.getElem_set_self,List.set_set,List.length_set]
    rw [List.length_set] at this
    exact this
   ·rw [if_neg Q0] at hst
    have:=hnx _ _ i ds[i].mod hst
    refine ⟨Q4,?_⟩
    rw [List.length_set] at this
    exact this
 ·have hiL : i = ds0.length:=Q0
  have hgo:=hI.go
  rw [hiL,Nat.sub_self,bQ] at hgo
  obtain ⟨ht0,ht1⟩ : 0<=s.temp/\s.temp<=100000000000:=by
   have hus:=hI.us
   have hm0 : (0 : Int)<=(ds0.length - i : Nat) * (2 * 9 ^ 9):=Int.mul_nonneg Q0 Q1
   omega
  have hN : (s.temp.toNat : Int) = s.temp:=Q0
  have hnm:=hI.nm
  rw [<-hgo] at hK
  dsimp only at hK
  refine ⟨⟨ht0,trivial,Qa⟩,?_⟩
  rw [Gf]
  refine FJ (out:=gJ ds0.length 0 ds (List.replicate s.temp.toNat id0) nx) (N:=s.temp.toNat) (ds0:=ds0) ⟨Nat.zero_le _,hI.lk,by rw [Nat.sub_zero],Q2,hnx0.1,by rw [Nat.sub_zero];omega,fun k hk _ hnb=>by rw [hN];exact hnm k hk Q0 hnb⟩ rfl fun i ds ids nx next hI2 hnx2=>?_
  clear hnx hgo hnm hI hlen hle hiL
  have hlen:=hI2.lk.len
  have hle:=hI2.le
  have hn0:=hI2.nx0
  have hn1:=hI2.nx1
  have hm0 : (0 : Int)<=(ds0.length - i : Nat) * 1000000000000:=Q0
  simp only [pmr,pms]
  refine ⟨fun h=>?_,fun h=>?_⟩
  ·have hi : i < ds.length:=Q0
   rw [gZ _ hi]
   simp only [pmr,pms]
   refine ⟨Q0,fun k0=>⟨Q4,hnx2 ds ids nx (hI2.skip hi (.inl k0))⟩,fun k0=>⟨Q0,fun k1=>⟨Q4,hnx2 ds ids nx (hI2.skip hi (.inr k1))⟩,fun k1=>⟨Q0,?_⟩⟩⟩
   have hnb : ¬ bare ds[i]:=fun h=>h.elim k0 k1
   obtain ⟨hin,hsz⟩:=hI2.nm i hi (Nat.le_refl _) hnb
   have hpl:=Ex.oU ds[i].body
   have hnum:=vR ds[i].body [] Qc
   simp only [aL,List.length_nil,List.map_nil,List.nil_append] at hnum
   refine ai hnum ?_
   simp only [pmr]
   have hst:=hI2.step hi hnb
   have hln:=hI2.len
   refine cg ds[i].body.post.length (fun k=>[[vI (nx+(k : Nat))],[vI (i : Nat)],[vI (k : Nat)],zp,[.sl ms.length 6 (ms.flatMap ModT.enc)],[.sl s.temp.toNat 3 ((bA ids (ds[i].body.post.take k) nx).flatMap IdT.enc)],[.sl ds[i].body.post.length 1 (ds[i].body.post.map an)],[.sl ds.length 31 (ds.flatMap DefT.enc)]]) (fun _=>True) trivial (by rw [Int.natCast_zero,Int.add_zero];rfl) fun k eW hk _ hn3=>?_
   simp only [pmr]
   refine ⟨fun hk1=>?_,fun hk1=>?_⟩
   ·have hk2 : k < ds[i].body.post.length:=Q0
    rw [ov _ hk2]
    simp only [pmr]
    have hr:=zl hin _ (List.getElem_mem hk2)
    have hpl2 : ds[i].body.post.length<=100000000000:=Q0
    refine ⟨Q0,ai (jv Q0 (by unfold InI;omega)) ?_⟩
    simp only [pmr]
    have hkl : (ds[i].body.post[k]).toNat < (bA ids (ds[i].body.post.take k) nx).length:=by rw [iR,hln];omega
    rw [upd_id _ hkl]
    have:=hn3 hk2 trivial
    rw [List.take_succ_eq_append_getElem hk2,nu,List.length_take,Nat.min_eq_left Q0] at this
    rw [show nx+(k : Int)+1 = nx+((k+1 : Nat) : Int) by omega]
    exact ⟨Q0,Q4,Q4,this⟩
   ·obtain rfl : k = ds[i].body.post.length:=Q0
    rw [List.take_length]
    have hlp : (bA ids ds[i].body.post nx).length = s.temp.toNat:=by rw [iR,hln]
    have hren:=sU (bA ids ds[i].body.post nx) ds[i].body (by rw [hlp];exact hin) Q0
    simp only [rnR] at hren
    rw [hlp] at hren
    rw [gZ _ hi]
    simp only [pms]
    refine ⟨Q0,ai hren ?_⟩
    simp only [pmr]
    have:=hnx2 _ _ _ hst
    rw [o9,sC _ hi]
    rw [List.length_set] at this
    exact ⟨Q0,Q4,this⟩
  ·have hgo2:=hI2.go
   rw [show ds0.length - i = 0 by omega,gJ] at hgo2
   rw [<-hgo2] at hK
   exact hK
end
set_option maxHeartbeats 1000000
def g19c (Is : Sig->St'->St'->Prop) (a : St') (K : St'->Prop) : Prop:=caK Is s40 [[cell (ent a 0) 0],[vI 0],[vI 2]] fun r1=>aa (cell (ent r1 0) 0) fun z2=>ckK (okI (1+z2)) (ifK (decide ((0 : Int) < (1+z2)))
 (caK Is s39 [[vI 0]] fun r3=>ckK (0<=(0 : Int)/\(0 : Int) < (2 : Int)) (ckK (room (0+1) 89) (ckK (okI (0+1 : Int)) (ifK (decide ((1 : Int) <
 (1+z2))) (caK Is s39 [[vI 1]] fun r4=>ckK (0<=(1 : Int)/\(1 : Int) < (2 : Int)) (caK Is s39 [[vI 0]] fun r5=>ckK (room (1+1) 89) (ckK (okI
 (1+1 : Int)) (ifK (decide ((2 : Int) < (1+z2))) (caK Is s39 [[vI 2]] fun r6=>ckK (0<=(2 : Int)/\(2 : Int) < (2 : Int)) (ckK (room (2+1)
 89) (ckK (okI (2+1 : Int)) (False)))) (caK Is s48 [[cell (ent a 0) 0],[vI (1+z2)]] fun r7=>ah 11 (cell (ent r7 0) 0) fun n8 c9=>ckK (okI
 ((1+z2)+(n8 : Int))) (Lp (fun o3 cx=>aa (cell (ent cx 1) 0) fun z186=>aa (cell (ent cx 2) 0) fun z187=>aa (cell (ent
 cx 3) 0) fun z188=>ah 11 (cell (ent cx 5) 0) fun n189 c190=>ah 31 (cell (ent cx 7) 0) fun n191 c192=>ah 3 (cell (ent cx 8)
 0) fun n193 c194=>ah 3 (cell (ent cx 9) 0) fun n195 c196=>ah 3 (cell (ent cx 10) 0) fun n197 c198=>ifK (decide (z188 < (n189 :
 Int))) (ckK (okI (z186+z188)) (caK Is s39 [[vI (z186+z188)]] fun r199=>ckK (0<=z188/\z188 < (n189 : Int)) (ckK (0<=z188/\z188 < (n189 :
 Int)) (caK Is s39 [[cell (el c190 11 (Int.toNat z188)) 10]] fun r200=>ckK (0<=z188/\z188 < (n189 : Int)) (ckK (0<=z188/\z188 < (n189 : Int))
 (Lp (fun oZ aN=>aa (cell (ent aN 1) 0) fun z203=>aa (cell (ent aN 2) 0) fun z204=>aa (cell (ent aN 3) 0) fun z205 =>
 aa (cell (ent aN 4) 0) fun z206=>ah 11 (cell (ent aN 6) 0) fun n207 c208=>ah 31 (cell (ent aN 9) 0) fun n209 c210=>ah 11
 (cell (ent aN 10) 0) fun n211 c212=>ah 3 (cell (ent aN 11) 0) fun n213 c214=>ah 3 (cell (ent aN 12) 0) fun n215 c216=>ah 3
 (cell (ent aN 13) 0) fun n217 c218=>ckK (0<=z205/\z205 < (n207 : Int)) (ah 5 (cell (el c208 11 (Int.toNat z205)) 2) fun n219 c220=>ifK
 (decide (z206 < (n219 : Int))) (caK Is s39 [[vI z204]] fun r221=>ckK (0<=z205/\z205 < (n207 : Int)) (ah 1 (cell (el c208 11 (Int.toNat z205))
 3) fun n222 c223=>ckK (0<=z206/\z206 < (n222 : Int)) (ckK (0<=z205/\z205 < (n207 : Int)) (ah 5 (cell (el c208 11 (Int.toNat z205)) 2) fun
 n224 c225=>ckK (0<=z206/\z206 < (n224 : Int)) (aa (cell (ent aN 7) 3) fun z226=>ifK (decide (z226 = (4 : Int))) (ckK (0<=z205/\z205 <
 (n207 : Int)) (ah 1 (cell (el c208 11 (Int.toNat z205)) 4) fun n227 c228=>ckK (0<=z206/\z206 < (n227 : Int)) (ckK (room (n211+1) 113) (ckK
 (okI (z204+1)) (ckK (okI (z206+1)) (oZ [[cell (ent aN 0) 0],[vI z203],[vI (z204+1)],[vI z205],[vI (z206+1)],ent aN 5,[.sl
 n207 11 c208],cls (ent aN 7) 0 30 [],cls (ent aN 8) 0 9 [],[.sl n209 31 c210],[.sl (n211+1) 11 (c212++(cls (ent r221 0) 0 3 (cell (el
 c223 1 (Int.toNat z206)) 0::cls (el c225 5 (Int.toNat z206)) 0 5 [cell (el c228 1 (Int.toNat z206)) 0,vI z206])))],[.sl n213 3 c214],[.sl n215
 3 c216],[.sl n217 3 c218]])))))) (ckK (room (n211+1) 113) (ckK (okI (z204+1)) (ckK (okI (z206+1)) (oZ [[cell (ent aN 0) 0],[vI
 z203],[vI (z204+1)],[vI z205],[vI (z206+1)],ent aN 5,[.sl n207 11 c208],cls (ent aN 7) 0 30 [],cls (ent aN 8) 0 9 [],[.sl n209
 31 c210],[.sl (n211+1) 11 (c212++(cls (ent r221 0) 0 3 (cell (el c223 1 (Int.toNat z206)) 0::cls (el c225 5 (Int.toNat z206)) 0 5 [vI 0,vI
 z206])))],[.sl n213 3 c214],[.sl n215 3 c216],[.sl n217 3 c218]]))))))))) (ckK (room (n209+1) 353) (ckK (0<=z205/\z205 < (n207 : Int)) (ckK
 (0<=z205/\z205 < (n207 : Int)) (aa (cell (el c208 11 (Int.toNat z205)) 10) fun z229=>ckK (0<=z229/\z229 < ((2 : Nat) : Int)) (ifK (decide
 (z229 = ((0 : Nat) : Int))) (ckK (room (n213+1) 25) (aa (cell (el c208 11 (Int.toNat z205)) 10) fun z230=>ckK (0<=z230/\z230 < ((2 : Nat) :
 Int)) (ifK (decide (z230 = ((0 : Nat) : Int))) (ckK (okI (z205+1)) (o3 [[cell (ent aN 0) 0],[vI z203],[vI z204],[vI (z205+1)],ent
 aN 5,[.sl n207 11 c208],cls (ent aN 8) 0 9 [],[.sl (n209+1) 31 (c210++(cls (ent aN 7) 0 8 (.sl n211 11 c212::cls (ent aN 7) 8
 22 [])))],[.sl (n213+1) 3 (c214++(cls (ent aN 7) 0 3 []))],[.sl n215 3 c216],[.sl n217 3 c218]])) (ifK (decide (z230 = ((1 : Nat) : Int)))
 (ckK (okI (z205+1)) (False)) (False))))) (ifK (decide (z229 = ((1 : Nat) : Int))) (ckK (room (n217+1) 25) (aa (cell (el c208 11 (Int.toNat
 z205)) 10) fun z231=>ckK (0<=z231/\z231 < ((2 : Nat) : Int)) (ifK (decide (z231 = ((0 : Nat) : Int))) (ckK (okI (z205+1)) (False)) (ifK
 (decide (z231 = ((1 : Nat) : Int))) (ckK (okI (z205+1)) (o3 [[cell (ent aN 0) 0],[vI z203],[vI z204],[vI (z205+1)],ent aN 5,[.sl
 n207 11 c208],cls (ent aN 8) 0 9 [],[.sl (n209+1) 31 (c210++(cls (ent aN 7) 0 8 (.sl n211 11 c212::cls (ent aN 7) 8 22 [])))],[.sl
 n213 3 c214],[.sl n215 3 c216],[.sl (n217+1) 3 (c218++(cls (ent aN 7) 0 3 []))]])) (False))))) (False))))))))) [[cell (ent cx 0) 0],[vI
 z186],[vI z187],[vI z188],[vI 0],ent cx 4,[.sl n189 11 c190],cls (ent r199 0) 0 3 (cell (el c190 11 (Int.toNat z188)) 0::cls (ent r200 0)
 0 3 (cell (el c190 11 (Int.toNat z188)) 1::cls (sub (el c190 11 (Int.toNat z188)) 5 5) 0 5 ([vI 0,vI 0,vI 0,vI 0,vI 0,vI 0,vI 0,vI 0,vI 0,
 vI 0,vI 0,vI 0,.sl 0 5 [],.sl 0 15 [],.sl 0 1 [],vI 0,.sl 0 1 []]))),cls (ent cx 6) 0 9 [],[.sl n191 31 c192],[.sl 0 11 []],[.sl n193
 3 c194],[.sl n195 3 c196],[.sl n197 3 c198]])))))) (lV Is K [[vI z187],[vI 0],ent cx 4,[.sl 2 6 (cls (ent cx 6) 0 5 (.sl n193 3
 c194::cls (ent cx 6) 5 4 [.sl n195 3 c196,.sl n197 3 c198]))],[.sl 2 6 (cls (ent cx 6) 0 5 (.sl n193 3 c194::cls (ent cx 6) 5 4 [.sl
 n195 3 c196,.sl n197 3 c198])),cell (ent cx 0) 0,vI 24,vI 0,vI 0,vI 0,vI 0,vI 0,vI 0,vI 0],[.sl n191 31 c192]])) [[cell (ent a 0) 0],
 [vI (1+z2)],[vI ((1+z2)+(n8 : Int))],[vI 0],[.sl 0 6 [],.sl 0 31 []],[.sl n8 11 c9],cls (ent r3 0) 0 3 (cell (el ([vS (ByteArray.mk
 #[99,111,114,101]),vS (ByteArray.mk #[109,105,108,108])]) 1 0) 0::.sl 0 3 []::cls (ent r4 0) 0 3 ([cell (el ([vS (ByteArray.mk #[99,111,
 114,101]),vS (ByteArray.mk #[109,105,108,108])]) 1 1) 0])),[.sl 0 31 []],[.sl 0 3 []],[.sl 1 3 ((ent r5 0)++[])],[.sl 0 3 []]])))))) (caK
 Is s48 [[cell (ent a 0) 0],[vI (1+z2)]] fun r300=>ah 11 (cell (ent r300 0) 0) fun n301 c302=>ckK (okI ((1+z2)+(n301 : Int))) (Lp (fun
 xH dD=>aa (cell (ent dD 1) 0) fun z438=>aa (cell (ent dD 2) 0) fun z439=>aa (cell (ent dD 3) 0) fun z440=>ah 11
 (cell (ent dD 5) 0) fun n441 c442=>ah 31 (cell (ent dD 7) 0) fun n443 c444=>ah 3 (cell (ent dD 8) 0) fun n445 c446=>ifK (decide
 (z440 < (n441 : Int))) (ckK (okI (z438+z440)) (caK Is s39 [[vI (z438+z440)]] fun r447=>ckK (0<=z440/\z440 < (n441 : Int)) (ckK (0<=z440 /\
 z440 < (n441 : Int)) (caK Is s39 [[cell (el c442 11 (Int.toNat z440)) 10]] fun r448=>ckK (0<=z440/\z440 < (n441 : Int)) (ckK (0<=z440/\z440 <
 (n441 : Int)) (Lp (fun oY bx=>aa (cell (ent bx 1) 0) fun z451=>aa (cell (ent bx 2) 0) fun z452=>aa (cell (ent bx 3) 0)
 fun z453=>aa (cell (ent bx 4) 0) fun z454=>ah 11 (cell (ent bx 6) 0) fun n455 c456=>ah 31 (cell (ent bx 9) 0) fun n457 c458 =>
 ah 11 (cell (ent bx 10) 0) fun n459 c460=>ah 3 (cell (ent bx 11) 0) fun n461 c462=>ckK (0<=z453/\z453 < (n455 : Int)) (ah 5 (cell
 (el c456 11 (Int.toNat z453)) 2) fun n463 c464=>ifK (decide (z454 < (n463 : Int))) (caK Is s39 [[vI z452]] fun r465=>ckK (0<=z453/\z453 <
 (n455 : Int)) (ah 1 (cell (el c456 11 (Int.toNat z453)) 3) fun n466 c467=>ckK (0<=z454/\z454 < (n466 : Int)) (ckK (0<=z453/\z453 < (n455 :
 Int)) (ah 5 (cell (el c456 11 (Int.toNat z453)) 2) fun n468 c469=>ckK (0<=z454/\z454 < (n468 : Int)) (aa (cell (ent bx 7) 3) fun z470 =>
 ifK (decide (z470 = (4 : Int))) (ckK (0<=z453/\z453 < (n455 : Int)) (ah 1 (cell (el c456 11 (Int.toNat z453)) 4) fun n471 c472=>ckK (0<=z454
 /\ z454 < (n471 : Int)) (ckK (room (n459+1) 113) (ckK (okI (z452+1)) (ckK (okI (z454+1)) (oY [[cell (ent bx 0) 0],[vI z451],[vI (z452
 + 1)],[vI z453],[vI (z454+1)],ent bx 5,[.sl n455 11 c456],cls (ent bx 7) 0 30 [],cls (ent bx 8) 0 5 [],[.sl n457 31 c458],[.sl
 (n459+1) 11 (c460++(cls (ent r465 0) 0 3 (cell (el c467 1 (Int.toNat z454)) 0::cls (el c469 5 (Int.toNat z454)) 0 5 [cell (el c472 1
 (Int.toNat z454)) 0,vI z454])))],[.sl n461 3 c462]])))))) (ckK (room (n459+1) 113) (ckK (okI (z452+1)) (ckK (okI (z454+1)) (oY [[cell
 (ent bx 0) 0],[vI z451],[vI (z452+1)],[vI z453],[vI (z454+1)],ent bx 5,[.sl n455 11 c456],cls (ent bx 7) 0 30 [],cls (ent bx
 8) 0 5 [],[.sl n457 31 c458],[.sl (n459+1) 11 (c460++(cls (ent r465 0) 0 3 (cell (el c467 1 (Int.toNat z454)) 0::cls (el c469 5 (Int.toNat
 z454)) 0 5 [vI 0,vI z454])))],[.sl n461 3 c462]]))))))))) (ckK (room (n457+1) 353) (ckK (0<=z453/\z453 < (n455 : Int)) (ckK (0<=z453/\z453 <
 (n455 : Int)) (aa (cell (el c456 11 (Int.toNat z453)) 10) fun z473=>ckK (0<=z473/\z473 < ((1 : Nat) : Int)) (ifK (decide (z473 = ((0 : Nat) :
 Int))) (ckK (room (n461+1) 25) (aa (cell (el c456 11 (Int.toNat z453)) 10) fun z474=>ckK (0<=z474/\z474 < ((1 : Nat) : Int)) (ifK (decide
 (z474 = ((0 : Nat) : Int))) (ckK (okI (z453+1)) (xH [[cell (ent bx 0) 0],[vI z451],[vI z452],[vI (z453+1)],ent bx 5,[.sl n455 11
 c456],cls (ent bx 8) 0 5 [],[.sl (n457+1) 31 (c458++(cls (ent bx 7) 0 8 (.sl n459 11 c460::cls (ent bx 7) 8 22 [])))],[.sl (n461 +
 1) 3 (c462++(cls (ent bx 7) 0 3 []))]])) (False)))) (False)))))))) [[cell (ent dD 0) 0],[vI z438],[vI z439],[vI z440],[vI 0],ent dD
 4,[.sl n441 11 c442],cls (ent r447 0) 0 3 (cell (el c442 11 (Int.toNat z440)) 0::cls (ent r448 0) 0 3 (cell (el c442 11 (Int.toNat z440)) 1 ::
 cls (sub (el c442 11 (Int.toNat z440)) 5 5) 0 5 ([vI 0,vI 0,vI 0,vI 0,vI 0,vI 0,vI 0,vI 0,vI 0,vI 0,vI 0,vI 0,.sl 0 5 [],.sl 0 15 [],
 .sl 0 1 [],vI 0,.sl 0 1 []]))),cls (ent dD 6) 0 5 [],[.sl n443 31 c444],[.sl 0 11 []],[.sl n445 3 c446]])))))) (lV Is K [[vI z439],
 [vI 0],ent dD 4,[.sl 1 6 (cls (ent dD 6) 0 5 [.sl n445 3 c446])],[.sl 1 6 (cls (ent dD 6) 0 5 [.sl n445 3 c446]),cell (ent dD 0) 0,
 vI 24,vI 0,vI 0,vI 0,vI 0,vI 0,vI 0,vI 0],[.sl n443 31 c444]])) [[cell (ent a 0) 0],[vI (1+z2)],[vI ((1+z2)+(n301 : Int))],[vI 0],
 [.sl 0 6 [],.sl 0 31 []],[.sl n301 11 c302],cls (ent r3 0) 0 3 ([cell (el ([vS (ByteArray.mk #[99,111,114,101]),vS (ByteArray.mk #[109,105,
 108,108])]) 1 0) 0,.sl 0 3 []]),[.sl 0 31 []],[.sl 0 3 []]])))))) (caK Is s48 [[cell (ent a 0) 0],[vI (1+z2)]] fun r543=>ah 11 (cell (ent
 r543 0) 0) fun n544 c545=>ckK (okI ((1+z2)+(n544 : Int))) (Lp (fun next546 dY=>aa (cell (ent dY 1) 0) fun z548=>aa (cell (ent
 dY 2) 0) fun z549=>aa (cell (ent dY 3) 0) fun z550=>ah 11 (cell (ent dY 6) 0) fun n551 c552=>ah 31 (cell (ent dY 7) 0) fun
 n553 c554=>ifK (decide (z550 < (n551 : Int))) (ckK (okI (z548+z550)) (caK Is s39 [[vI (z548+z550)]] fun r555=>ckK (0<=z550/\z550 < (n551 :
 Int)) (ckK (0<=z550/\z550 < (n551 : Int)) (caK Is s39 [[cell (el c552 11 (Int.toNat z550)) 10]] fun r556=>ckK (0<=z550/\z550 < (n551 : Int))
 (ckK (0<=z550/\z550 < (n551 : Int)) (Lp (fun oX cw=>aa (cell (ent cw 1) 0) fun z584=>aa (cell (ent cw 2) 0) fun z585=>aa
 (cell (ent cw 3) 0) fun z586=>aa (cell (ent cw 4) 0) fun z587=>ah 11 (cell (ent cw 7) 0) fun n588 c589=>ah 31 (cell (ent cw
 9) 0) fun n590 c591=>ah 11 (cell (ent cw 10) 0) fun n592 c593=>ckK (0<=z586/\z586 < (n588 : Int)) (ah 5 (cell (el c589 11 (Int.toNat
 z586)) 2) fun n594 c595=>ifK (decide (z587 < (n594 : Int))) (caK Is s39 [[vI z585]] fun r596=>ckK (0<=z586/\z586 < (n588 : Int)) (ah 1 (cell
 (el c589 11 (Int.toNat z586)) 3) fun n597 c598=>ckK (0<=z587/\z587 < (n597 : Int)) (ckK (0<=z586/\z586 < (n588 : Int)) (ah 5 (cell (el c589
 11 (Int.toNat z586)) 2) fun n599 c600=>ckK (0<=z587/\z587 < (n599 : Int)) (aa (cell (ent cw 8) 3) fun z601=>ifK (decide (z601 = (4 :
 Int))) (ckK (0<=z586/\z586 < (n588 : Int)) (ah 1 (cell (el c589 11 (Int.toNat z586)) 4) fun n602 c603=>ckK (0<=z587/\z587 < (n602 : Int))
 (ckK (room (n592+1) 113) (ckK (okI (z585+1)) (ckK (okI (z587+1)) (oX [[cell (ent cw 0) 0],[vI z584],[vI (z585+1)],[vI z586],[vI
 (z587+1)],ent cw 5,[cell (ent cw 6) 0],[.sl n588 11 c589],cls (ent cw 8) 0 30 [],[.sl n590 31 c591],[.sl (n592+1) 11 (c593 ++
 (cls (ent r596 0) 0 3 (cell (el c598 1 (Int.toNat z587)) 0::cls (el c600 5 (Int.toNat z587)) 0 5 [cell (el c603 1 (Int.toNat z587)) 0,vI
 z587])))]])))))) (ckK (room (n592+1) 113) (ckK (okI (z585+1)) (ckK (okI (z587+1)) (oX [[cell (ent cw 0) 0],[vI z584],[vI (z585 +
 1)],[vI z586],[vI (z587+1)],ent cw 5,[cell (ent cw 6) 0],[.sl n588 11 c589],cls (ent cw 8) 0 30 [],[.sl n590 31 c591],[.sl (n592
 + 1) 11 (c593++(cls (ent r596 0) 0 3 (cell (el c598 1 (Int.toNat z587)) 0::cls (el c600 5 (Int.toNat z587)) 0 5 [vI 0,vI z587])))]])))))))))
 (ckK (room (n590+1) 353) (ckK (0<=z586/\z586 < (n588 : Int)) (ckK (0<=z586/\z586 < (n588 : Int)) (aa (cell (el c589 11 (Int.toNat z586)) 10)
 fun z604=>ah 6 (cell (ent cw 6) 0) fun n605 c606=>ckK (0<=z604/\z604 < (n605 : Int)) (False))))))) [[cell (ent dY 0) 0],[vI z548],
 [vI z549],[vI z550],[vI 0],ent dY 4,[cell (ent dY 5) 0],[.sl n551 11 c552],cls (ent r555 0) 0 3 (cell (el c552 11 (Int.toNat z550)) 0 ::
 cls (ent r556 0) 0 3 (cell (el c552 11 (Int.toNat z550)) 1::cls (sub (el c552 11 (Int.toNat z550)) 5 5) 0 5 ([vI 0,vI 0,vI 0,vI 0,vI 0,vI 0,
 vI 0,vI 0,vI 0,vI 0,vI 0,vI 0,.sl 0 5 [],.sl 0 15 [],.sl 0 1 [],vI 0,.sl 0 1 []]))),[.sl n553 31 c554],[.sl 0 11 []]])))))) (lV Is
 K [[vI z549],[vI 0],ent dY 4,[cell (ent dY 5) 0],[cell (ent dY 5) 0,cell (ent dY 0) 0,vI 24,vI 0,vI 0,vI 0,vI 0,vI 0,vI 0,
 vI 0],[.sl n553 31 c554]])) [[cell (ent a 0) 0],[vI (1+z2)],[vI ((1+z2)+(n544 : Int))],[vI 0],[.sl 0 6 [],.sl 0 31 []],[.sl 0 6 []],
 [.sl n544 11 c545],[.sl 0 31 []]])))
theorem g19_eq (Is : Sig->St'->St'->Prop) (a : St') (K : St'->Prop) : g19 Is a K = g19c Is a K:=rfl
theorem m4 (p : PlanT) (i : Nat) : cell p.enc i = cell [an p.kind,eU p.name,.sl p.types.length 5 (p.types.flatMap Ty.enc),.sl p.names.length 1 (p.names.map eU),.sl p.bases.length 1 (p.bases.map an),an p.result.kind,an p.result.df.shop,an p.result.df.seq,an p.result.df.index,.sl p.result.kids.length 5 (p.result.kids.flatMap Ty.enc),an p.mod] i:=by
 cases p
 rw [PlanT.fW]
 rfl
theorem EM (p : PlanT) : sub p.enc 5 5 = p.result.enc:=by
 cases p
 rw [PlanT.fW,Ty.ay]
 rfl
def dL (d : DefT) : List D:=[an d.id.shop,an d.id.seq,an d.id.index,an d.kind,an d.mod.shop,an d.mod.seq,an d.mod.index,eU d.name,an d.result.kind,an d.result.df.shop,an d.result.df.seq,an d.result.df.index,.sl d.result.kids.length 5 (d.result.kids.flatMap Ty.enc),
 an d.body.id.shop,an d.body.id.seq,an d.body.id.index,an d.body.kind,an d.body.n,an d.body.ref.shop,an d.body.ref.seq,an d.body.ref.index,an d.body.ty.kind,an d.body.ty.df.shop,an d.body.ty.df.seq,an d.body.ty.df.index,
  .sl d.body.ty.kids.length 5 (d.body.ty.kids.flatMap Ty.enc),.sl d.body.kids.length 15 (d.body.kids.flatMap Ex.enc),.sl d.body.names.length 1 (d.body.names.map eU),an d.place,.sl d.layout.length 1 (d.layout.map eU)]
theorem tf {p : PlanT} {nx : Int} {k : Nat} (hk : k < p.types.length) (hn : p.types.length<=p.names.length) (hk' : k < (dG p nx).length) : (dG p nx)[k] = ⟨idK (nx+k),p.names[k]'Q0,p.types[k],if p.kind = 4 then p.bases.getD k 0 else 0,k⟩:=by
 unfold dG
 simp [List.getD_eq_getElem?_getD,List.getElem?_eq_getElem hk,List.getElem?_eq_getElem (show k < p.names.length by omega)]
theorem iV (m : Int) : ∀ (ps : List PlanT) (i : Int),(bL m ps i).length<=ps.length
 | [],_=>Nat.le_refl _
 | p::ps,i=>by
  rw [bL,List.length_append,List.length_cons]
  have:=iV m ps (i+1)
  split <;> simp <;> omega
theorem lU (m : Int) {ps : List PlanT} {k : Nat} (hk : k < ps.length) (i : Int) : bL m (ps.take (k+1)) i = bL m (ps.take k) i++(if ps[k].mod = m then [idK (i+k)] else []):=by
 rw [List.take_succ_eq_append_getElem hk,nw,List.length_take,Nat.min_eq_left Q0,bL,bL,List.append_nil]
theorem tg {ps : List PlanT} {k : Nat} (hk : k < ps.length) (i nx : Int) : aS (ps.take (k+1)) i nx = aS (ps.take k) i nx++[ig ps[k] (i+k) (nx+dK (ps.take k))]:=by
 rw [List.take_succ_eq_append_getElem hk,ku,List.length_take,Nat.min_eq_left Q0,aS,aS]
theorem qi {ps : List PlanT} {k : Nat} (hk : k < ps.length) : dK (ps.take (k+1)) = dK (ps.take k)+ps[k].types.length:=by
 rw [List.take_succ_eq_append_getElem hk,qV,mQ]
 rfl
theorem B3 {ps : List PlanT} (h : ∀ p∈ps,p.types.length<=3) : ∀ k,dK (ps.take k)<=3 * k:=by
 intro k
 induction k with
 | zero=>simp [dK]
 | succ k ih =>
  by_cases hk : k < ps.length
  ·rw [qi hk];have:=h _ (List.getElem_mem hk);omega
  ·rw [List.take_of_length_le Q0] at ih ⊢
   omega
theorem prog_is {l : List Int} (hl : ∀ x∈l,InI x) : IS s19 [[aL l]] [(aJ l).enc]:=by
 refine w19.is ?_
 rw [g19_eq]
 unfold g19c
 simp only [pmr]
 refine ai (CM Q1 hl) ?_
 simp only [pmr]
 have h2:=cA l 0 2 Q0
 have hM : ax l = 1+atL l 0 2:=rfl
 have hn1 : 1<=ax l:=Q0
 refine ⟨Q4,fun _=>ai (jv Q1 (by unfold InI;omega)) ?_,fun h=>absurd (show (0 : Int) < 1+atL l 0 2 by omega) h⟩
 simp only [pmr]
 refine ⟨Q1,by unfold room;decide,by unfold okI;decide,fun hw=>?_,fun hw=>?_⟩
 ·refine ai (jv Q1 (by unfold InI;omega)) ?_
  simp only [pmr]
  refine ⟨Q1,ai (jv Q1 (by unfold InI;omega)) ⟨by unfold room;decide,by unfold okI;decide,fun h=>absurd h Q0,fun _=>?_⟩⟩
  have hN : ax l = 2:=Q0
  rw [<-hM]
  refine ai (yV hl Q0) ?_
  simp only [pmr]
  have hok:=lO (l:=l) hn1
  have hlen:=gq l (ax l)
  have hpt:=B3 fun p hp=>(hok p hp).t3
  have hb:=G5 l
  have hnm:=tD l
  have hsq:=nR l
  have hfin : (aJ l).enc = [.sl (dO l).length 6 ((dO l).flatMap ModT.enc),.sl (gJ (aX l).length 0 (bQ (dO l) l (aX l).length 0 (aX l) ⟨24,0,0,0⟩).1 (List.replicate (bQ (dO l) l (aX l).length 0 (aX l) ⟨24,0,0,0⟩).2.temp.toNat id0) (iU l)).length 31 ((gJ (aX l).length 0 (bQ (dO l) l (aX l).length 0 (aX l) ⟨24,0,0,0⟩).1 (List.replicate (bQ (dO l) l (aX l).length 0 (aX l) ⟨24,0,0,0⟩).2.temp.toNat id0) (iU l)).flatMap DefT.enc)]:=rfl
  rw [hfin]
  have hpm : dO l = [⟨idK 0,qY,[],bL 0 (bp l (ax l)) (ax l)⟩,⟨idK 1,Ca,[idK 0],bL 1 (bp l (ax l)) (ax l)⟩]:=by unfold dO;rw [if_neg Q0,hN]
  have hds : aX l = aS (bp l (ax l)) (ax l) (ax l+(bp l (ax l)).length):=rfl
  have hnx : iU l = ax l+(bp l (ax l)).length+dK (bp l (ax l)):=rfl
  rw [hds] at hb hnm hsq ⊢
  rw [hnx]
  rw [hpm] at hb hnm ⊢
  clear hfin hds hnx hpm
  generalize bp l (ax l) = ps at hok hlen hpt hb hnm hsq ⊢
  generalize ax l = n at hn1 hN hok hb hnm hsq ⊢
  refine ⟨Q4,?_⟩
  refine cg ps.length (fun i=>[[aL l],[vI n],[vI (n+ps.length+dK (ps.take i))],[vI (i : Nat)],[.sl 0 6 [],.sl 0 31 []],[.sl ps.length 11 (ps.flatMap PlanT.enc)],[an (idK 0).shop,an (idK 0).seq,an (idK 0).index,vS qY,.sl 0 3 [],an (idK 1).shop,an (idK 1).seq,an (idK 1).index,vS Ca],[.sl (aS (ps.take i) n (n+ps.length)).length 31 ((aS (ps.take i) n (n+ps.length)).flatMap DefT.enc)],[.sl (bL 0 (ps.take i) n).length 3 ((bL 0 (ps.take i) n).flatMap IdT.enc)],[.sl 1 3 ((idK 0).enc++[])],[.sl (bL 1 (ps.take i) n).length 3 ((bL 1 (ps.take i) n).flatMap IdT.enc)]]) (fun _=>True) trivial (by rw [List.take_zero];simp only [dK,aS,bL,List.map_nil,List.sum_nil,Int.natCast_zero,Int.add_zero];rfl) fun i next hi _ hnext=>?_
  have h0:=iV 0 (ps.take i) n
  have h1:=iV 1 (ps.take i) n
  rw [List.length_take,Nat.min_eq_left hi] at h0 h1
  simp only [pmr]
  refine ⟨fun h=>?_,fun h=>?_⟩
  ·have hk : i < ps.length:=Q0
   have ok:=hok _ (List.getElem_mem hk)
   have hnx:=hnext hk trivial
   have hpi:=hpt i
   rw [tg hk,qi hk,lU 0 hk,lU 1 hk] at hnx
   have hep:=el_Pl ps hk
   rw [hep]
   simp only [pmr,m4]
   generalize hnxt : n+(ps.length : Int)+(dK (ps.take i) : Int) = nxt at hnx ⊢
   generalize ps[i] = p at ok hnx hep ⊢
   refine ⟨Q4,ai (jv Q0 (by unfold InI;omega)) ⟨Q0,Q0,ai (jv ok.mod.1 (by unfold InI;have:=ok.mod;omega)) ⟨Q0,Q0,?_⟩⟩⟩
   have ok3:=ok.t3
   refine cg p.types.length (fun k=>[[aL l],[vI n],[vI (nxt+k)],[vI (i : Nat)],[vI (k : Nat)],[.sl 0 6 [],.sl 0 31 []],[.sl ps.length 11 (ps.flatMap PlanT.enc)],dL (ig p (n+i) nxt),[an (idK 0).shop,an (idK 0).seq,an (idK 0).index,vS qY,.sl 0 3 [],an (idK 1).shop,an (idK 1).seq,an (idK 1).index,vS Ca],[.sl (aS (ps.take i) n (n+ps.length)).length 31 ((aS (ps.take i) n (n+ps.length)).flatMap DefT.enc)],[.sl k 11 (((dG p nxt).take k).flatMap SlotT.enc)],[.sl (bL 0 (ps.take i) n).length 3 ((bL 0 (ps.take i) n).flatMap IdT.enc)],[.sl 1 3 ((idK 0).enc++[])],[.sl (bL 1 (ps.take i) n).length 3 ((bL 1 (ps.take i) n).flatMap IdT.enc)]]) (fun _=>True) trivial (by simp only [pmr,pms,EM,Int.natCast_zero,Int.add_zero];rfl) fun k vU hkl _ hn2=>?_
   simp only [pmr,m4]
   rw [hep]
   simp only [pmr,m4]
   have hnames:=ok.names
   have hpsl:=bY p nxt
   refine ⟨Q0,fun h=>?_,fun h=>?_⟩
   ·have hk2 : k < p.types.length:=Q0
    refine ai (jv Q0 (by unfold InI;omega)) ?_
    rw [ov p.names (show k < p.names.length by omega),mm _ hk2]
    simp only [pmr,dL]
    have hgo:=hn2 hk2 trivial
    rw [List.take_succ_eq_append_getElem (show k < (dG p nxt).length by omega),List.flatMap_append,List.flatMap_cons,List.flatMap_nil,List.append_nil,tf hk2 hnames] at hgo
    have hkd : (ig p (n+i) nxt).kind = p.kind:=rfl
    have hkk : ((nxt+(k : Int))+1) = nxt+((k+1 : Nat) : Int):=Q0
    refine ⟨Q0,Q0,Q0,Q0,fun h4=>⟨Q0,?_⟩,fun h4=>?_⟩
    ·have hbs:=ok.bases (by rw [<-hkd];exact h4)
     rw [ov p.bases (show k < p.bases.length by omega)]
     simp only [pmr]
     rw [if_pos (show p.kind = 4 by rw [<-hkd];exact h4),List.getD_eq_getElem?_getD,List.getElem?_eq_getElem (show k < p.bases.length by omega)] at hgo
     refine ⟨Q0,Qa,Q4,Q4,?_⟩
     rw [hkk]
     exact hgo
    ·rw [if_neg (show ¬ p.kind = 4 by rw [<-hkd];exact h4)] at hgo
     refine ⟨Qa,Q4,Q4,?_⟩
     rw [hkk]
     exact hgo
   ·obtain rfl : k = p.types.length:=Q0
    rw [List.take_of_length_le (show (dG p nxt).length<=p.types.length by omega)]
    have hdl2 : (aS (ps.take i) n (n+ps.length)).length = i:=by rw [cC,List.length_take];omega
    have hmod:=ok.mod
    rw [show n+(ps.length : Int)+((dK (ps.take i)+p.types.length : Nat) : Int) = nxt+(p.types.length : Int) by omega,List.flatMap_append,List.flatMap_cons,List.flatMap_nil,List.append_nil] at hnx
    simp only [List.length_append,List.length_cons,List.length_nil] at hnx
    simp only [pmr,dL]
    refine ⟨Qa,Q0,Q0,Q0,fun hm0=>⟨Qa,Q0,fun _=>⟨Q4,?_⟩,fun h=>absurd hm0 h⟩,fun hm0=>⟨fun hm1=>⟨Qa,Q0,fun h=>absurd h hm0,fun _=>⟨fun _=>⟨Q4,?_⟩,fun h=>absurd hm1 h⟩⟩,fun hm1=>by omega⟩⟩
    ·rw [if_pos (show p.mod = 0 from hm0),if_neg (show ¬ p.mod = 1 by omega)] at hnx
     simp only [List.flatMap_append,List.flatMap_cons,List.flatMap_nil,List.append_nil,List.length_append,List.length_cons,List.length_nil,Nat.add_zero] at hnx
     rw [<-hpsl]
     rw [<-hpsl] at hnx
     exact hnx
    ·rw [if_neg (show ¬ p.mod = 0 from hm0),if_pos (show p.mod = 1 from hm1)] at hnx
     simp only [List.flatMap_append,List.flatMap_cons,List.flatMap_nil,List.append_nil,List.length_append,List.length_cons,List.length_nil,Nat.add_zero] at hnx
     rw [<-hpsl]
     rw [<-hpsl] at hnx
     exact hnx
  ·obtain rfl : i = ps.length:=Q0
   rw [List.take_length]
   refine qZ hl Q2 hb hnm (by rw [cC];omega) (by have:=hpt ps.length;rw [List.take_length] at this;omega) hsq ?_
   rfl
 ·have hN : ax l = 1:=Q0
  rw [<-hM]
  refine ai (yV hl Q0) ?_
  simp only [pmr]
  have hok:=lO (l:=l) hn1
  have hlen:=gq l (ax l)
  have hpt:=B3 fun p hp=>(hok p hp).t3
  have hb:=G5 l
  have hnm:=tD l
  have hsq:=nR l
  have hfin : (aJ l).enc = [.sl (dO l).length 6 ((dO l).flatMap ModT.enc),.sl (gJ (aX l).length 0 (bQ (dO l) l (aX l).length 0 (aX l) ⟨24,0,0,0⟩).1 (List.replicate (bQ (dO l) l (aX l).length 0 (aX l) ⟨24,0,0,0⟩).2.temp.toNat id0) (iU l)).length 31 ((gJ (aX l).length 0 (bQ (dO l) l (aX l).length 0 (aX l) ⟨24,0,0,0⟩).1 (List.replicate (bQ (dO l) l (aX l).length 0 (aX l) ⟨24,0,0,0⟩).2.temp.toNat id0) (iU l)).flatMap DefT.enc)]:=rfl
  rw [hfin]
  have hpm : dO l = [⟨idK 0,qY,[],bL 0 (bp l (ax l)) (ax l)⟩]:=by unfold dO;rw [if_pos hN,hN]
  have hds : aX l = aS (bp l (ax l)) (ax l) (ax l+(bp l (ax l)).length):=rfl
  have hnx : iU l = ax l+(bp l (ax l)).length+dK (bp l (ax l)):=rfl
  rw [hds] at hb hnm hsq ⊢
  rw [hnx]
  rw [hpm] at hb hnm ⊢
  clear hfin hds hnx hpm
  generalize bp l (ax l) = ps at hok hlen hpt hb hnm hsq ⊢
  generalize ax l = n at hn1 hN hok hb hnm hsq ⊢
  refine ⟨Q4,?_⟩
  refine cg ps.length (fun i=>[[aL l],[vI n],[vI (n+ps.length+dK (ps.take i))],[vI (i : Nat)],[.sl 0 6 [],.sl 0 31 []],[.sl ps.length 11 (ps.flatMap PlanT.enc)],[an (idK 0).shop,an (idK 0).seq,an (idK 0).index,vS qY,.sl 0 3 []],[.sl (aS (ps.take i) n (n+ps.length)).length 31 ((aS (ps.take i) n (n+ps.length)).flatMap DefT.enc)],[.sl (bL 0 (ps.take i) n).length 3 ((bL 0 (ps.take i) n).flatMap IdT.enc)]]) (fun _=>True) trivial (by rw [List.take_zero];simp only [dK,aS,bL,List.map_nil,List.sum_nil,Int.natCast_zero,Int.add_zero];rfl) fun i next hi _ hnext=>?_
  have h0:=iV 0 (ps.take i) n
  have h1:=iV 1 (ps.take i) n
  rw [List.length_take,Nat.min_eq_left hi] at h0 h1
  simp only [pmr]
  refine ⟨fun h=>?_,fun h=>?_⟩
  ·have hk : i < ps.length:=Q0
   have ok:=hok _ (List.getElem_mem hk)
   have hnx:=hnext hk trivial
   have hpi:=hpt i
   rw [tg hk,qi hk,lU 0 hk] at hnx
   have hep:=el_Pl ps hk
   rw [hep]
   simp only [pmr,m4]
   generalize hnxt : n+(ps.length : Int)+(dK (ps.take i) : Int) = nxt at hnx ⊢
   generalize ps[i] = p at ok hnx hep ⊢
   refine ⟨Q4,ai (jv Q0 (by unfold InI;omega)) ⟨Q0,Q0,ai (jv ok.mod.1 (by unfold InI;have:=ok.mod;omega)) ⟨Q0,Q0,?_⟩⟩⟩
   have ok3:=ok.t3
   refine cg p.types.length (fun k=>[[aL l],[vI n],[vI (nxt+k)],[vI (i : Nat)],[vI (k : Nat)],[.sl 0 6 [],.sl 0 31 []],[.sl ps.length 11 (ps.flatMap PlanT.enc)],dL (ig p (n+i) nxt),[an (idK 0).shop,an (idK 0).seq,an (idK 0).index,vS qY,.sl 0 3 []],[.sl (aS (ps.take i) n (n+ps.length)).length 31 ((aS (ps.take i) n (n+ps.length)).flatMap DefT.enc)],[.sl k 11 (((dG p nxt).take k).flatMap SlotT.enc)],[.sl (bL 0 (ps.take i) n).length 3 ((bL 0 (ps.take i) n).flatMap IdT.enc)]]) (fun _=>True) trivial (by simp only [pmr,pms,EM,Int.natCast_zero,Int.add_zero];rfl) fun k vU hkl _ hn2=>?_
   simp only [pmr,m4]
   rw [hep]
   simp only [pmr,m4]
   have hnames:=ok.names
   have hpsl:=bY p nxt
   refine ⟨Q0,fun h=>?_,fun h=>?_⟩
   ·have hk2 : k < p.types.length:=Q0
    refine ai (jv Q0 (by unfold InI;omega)) ?_
    rw [ov p.names (show k < p.names.length by omega),mm _ hk2]
    simp only [pmr,dL]
    have hgo:=hn2 hk2 trivial
    rw [List.take_succ_eq_append_getElem (show k < (dG p nxt).length by omega),List.flatMap_append,List.flatMap_cons,List.flatMap_nil,List.append_nil,tf hk2 hnames] at hgo
    have hkd : (ig p (n+i) nxt).kind = p.kind:=rfl
    have hkk : ((nxt+(k : Int))+1) = nxt+((k+1 : Nat) : Int):=Q0
    refine ⟨Q0,Q0,Q0,Q0,fun h4=>⟨Q0,?_⟩,fun h4=>?_⟩
    ·have hbs:=ok.bases (by rw [<-hkd];exact h4)
     rw [ov p.bases (show k < p.bases.length by omega)]
     simp only [pmr]
     rw [if_pos (show p.kind = 4 by rw [<-hkd];exact h4),List.getD_eq_getElem?_getD,List.getElem?_eq_getElem (show k < p.bases.length by omega)] at hgo
     refine ⟨Q0,Qa,Q4,Q4,?_⟩
     rw [hkk]
     exact hgo
    ·rw [if_neg (show ¬ p.kind = 4 by rw [<-hkd];exact h4)] at hgo
     refine ⟨Qa,Q4,Q4,?_⟩
     rw [hkk]
     exact hgo
   ·obtain rfl : k = p.types.length:=Q0
    rw [List.take_of_length_le (show (dG p nxt).length<=p.types.length by omega)]
    have hdl2 : (aS (ps.take i) n (n+ps.length)).length = i:=by rw [cC,List.length_take];omega
    have hmod:=ok.mod
    rw [show n+(ps.length : Int)+((dK (ps.take i)+p.types.length : Nat) : Int) = nxt+(p.types.length : Int) by omega,List.flatMap_append,List.flatMap_cons,List.flatMap_nil,List.append_nil] at hnx
    simp only [List.length_append,List.length_cons,List.length_nil] at hnx
    simp only [pmr,dL]
    refine ⟨Qa,Q0,Q0,Q0,fun hm0=>⟨Qa,Q0,fun _=>⟨Q4,?_⟩,fun h=>absurd hm0 h⟩,fun hm0=>by omega⟩
    ·rw [if_pos (show p.mod = 0 from hm0)] at hnx
     simp only [List.flatMap_append,List.flatMap_cons,List.flatMap_nil,List.append_nil,List.length_append,List.length_cons,List.length_nil,Nat.add_zero] at hnx
     rw [<-hpsl]
     rw [<-hpsl] at hnx
     exact hnx
  ·obtain rfl : i = ps.length:=Q0
   rw [List.take_length]
   refine qZ hl Q2 hb hnm (by rw [cC];omega) (by have:=hpt ps.length;rw [List.take_length] at this;omega) hsq ?_
   rfl
end Go.Proofs.YtanbipbiblikbaaDoor

namespace Xe
open Go
theorem kH {α : Type} {l : List α} {k : Nat} {d : α} (h : k < l.length) : l.getD k d = l[k]:=by rw [List.getD_eq_getElem?_getD,List.getElem?_eq_getElem h];rfl
def Made (ms : List ModT) (l : List Int) (ds0 : List DefT) (k : Nat) (d : DefT) (e : Ex) (T T' : Int) : Prop :=
 ∃ c : MkC,c.p.mods = ms/\dN c.p.defs ds0/\c.l = l/\c.own = k/\c.home = d.mod/\0<=T/\Mk c d.result (bS d) T e T'
structure BPn (ms : List ModT) (l : List Int) (ds0 : List DefT) (i : Nat) (ds : List DefT) (s : MkS) : Prop where
 lk : dN ds ds0
 us : 0<=s.pos/\s.pos+(ds0.length - i : Nat) * (2 * 9 ^ 9)<=100000000000/\0<=s.temp/\s.temp+(ds0.length - i : Nat) * (2 * 9 ^ 9)<=100000000000
 made : ∀ k (hk : k < ds.length),k < i->¬ bare ds[k]->∃ T T',T'<=s.temp/\Made ms l ds0 k ds[k] ds[k].body T T'
theorem oC {ms : List ModT} {l : List Int} {ds0 : List DefT} (hb : Base ⟨ms,ds0⟩ 5) (hn : Names ⟨ms,ds0⟩) (hd8 : ds0.length<=8) : ∀ (m i : Nat) (ds : List DefT) (s : MkS),i+m = ds0.length->BPn ms l ds0 i ds s->BPn ms l ds0 ds0.length (bQ ms l m i ds s).1 (bQ ms l m i ds s).2
 | 0,i,ds,s,h,hp=>by
  rw [bQ]
  rw [Nat.add_zero] at h
  rw [<-h]
  rw [h]
  rw [h] at hp
  exact hp
 | m+1,i,ds,s,h,hp=>by
  have hlen:=hp.lk.len
  have hi : i < ds.length:=Q0
  have h9 : (9 : Int) ^ 9 = 387420489:=Q1
  have em : ds0.length - i = m+1:=Q0
  have em' : ds0.length - (i+1) = m:=Q0
  have e1 : ((m+1 : Nat) : Int) * (2 * 9 ^ 9) = m * (2 * 9 ^ 9)+2 * 9 ^ 9:=by rw [Int.natCast_add,Int.add_mul];simp
  have hmn : (0 : Int)<=m * (2 * 9 ^ 9):=Int.mul_nonneg Q0 Q0
  have hus:=hp.us
  rw [em] at hus
  rw [bQ,kH hi]
  split
  ·rename_i hbr
   refine oC hb hn hd8 m (i+1) ds s Q0 ⟨hp.lk,by rw [em'];omega,fun k hk hlt hnb=>?_⟩
   by_cases e : k = i
   ·subst e;exact absurd hbr hnb
   ·exact hp.made k hk Q0 hnb
  ·rename_i hnb
   have hbd : Base ⟨ms,ds⟩ 5:=hb.like hp.lk
   have hnd : Names ⟨ms,ds⟩:=hn.like hp.lk
   have hu : Us (100000000000 - (m * (2 * 9 ^ 9)+2 * 9 ^ 9)) ⟨s.pos,s.temp,14,0⟩:=by
    have : (m : Int) * (2 * 9 ^ 9)<=8 * (2 * 9 ^ 9):=Int.mul_le_mul_of_nonneg_right Q0 Q0
    unfold Us;dsimp only;omega
   obtain ⟨hu2,T,hT,hmk⟩:=CC (c:=⟨⟨ms,ds⟩,l,i,ds[i].mod⟩) hbd hnd hi rfl rfl hu Q0
   generalize jc ⟨⟨ms,ds⟩,l,i,ds[i].mod⟩ ds[i] ⟨s.pos,s.temp,14,0⟩ = r at hu2 hmk ⊢
   dsimp only at hT
   have hlt:=hmk.lt
   unfold Us at hu2
   refine oC hb hn hd8 m (i+1) _ _ Q0 ⟨hp.lk.set hi _,by rw [em'];omega,fun k hk hlt2 hnb'=>?_⟩
   by_cases e : k = i
   ·subst e
    simp only [List.getElem_set_self]
    exact ⟨T,r.2.temp,Int.le_refl _,_,rfl,hp.lk,rfl,rfl,rfl,Q0,hmk⟩
   ·have hk' : k < ds.length:=by simpa using hk
    have eg : (ds.set i (ds[i].setBody r.1))[k] = ds[k]:=by rw [List.getElem_set_ne Q0]
    rw [eg] at hnb' ⊢
    obtain ⟨T1,T2,h1,h2⟩:=hp.made k hk' Q0 hnb'
    exact ⟨T1,T2,Q0,h2⟩
def Hs (ms : List ModT) (l : List Int) (ds0 : List DefT) (N : Nat) (nx0 : Int) (k : Nat) (d : DefT) : Prop :=
 ∃ (e : Ex) (T T' : Int) (ids : List IdT) (nx : Int),Made ms l ds0 k d e T T'/\T'<=N/\ids.length = N/\nx0<=nx/\nx<=100000000000000/\d.body = eS (bA ids e.post nx) e
structure RPn (ms : List ModT) (l : List Int) (ds0 : List DefT) (N : Nat) (nx0 : Int) (i : Nat) (ds : List DefT) (ids : List IdT) (nx : Int) : Prop where
 lk : dN ds ds0
 len : ids.length = N
 nx : nx0<=nx/\nx+(ds0.length - i : Nat) * 100000000000<=100000000000000
 old : ∀ k (hk : k < ds.length),i<=k->¬ bare ds[k]->∃ (T T' : Int),T'<=N/\Made ms l ds0 k ds[k] ds[k].body T T'
 done : ∀ k (hk : k < ds.length),k < i->¬ bare ds[k]->Hs ms l ds0 N nx0 k ds[k]
theorem xm {ms : List ModT} {l : List Int} {ds0 : List DefT} {N : Nat} (hN : N<=100000000000) {nx0 : Int} : ∀ (m i : Nat) (ds : List DefT) (ids : List IdT) (nx : Int),i+m = ds0.length->RPn ms l ds0 N nx0 i ds ids nx->dN (gJ m i ds ids nx) ds0/\∀ k (hk : k < (gJ m i ds ids nx).length),¬ bare (gJ m i ds ids nx)[k]->Hs ms l ds0 N nx0 k (gJ m i ds ids nx)[k]
 | 0,i,ds,ids,nx,h,hp=>by
  have hlen:=hp.lk.len
  have e : gJ 0 i ds ids nx = ds:=by rw [gJ]
  rw [e]
  exact ⟨hp.lk,fun k hk hnb=>hp.done k hk Q0 hnb⟩
 | m+1,i,ds,ids,nx,h,hp=>by
  have hlen:=hp.lk.len
  have hi : i < ds.length:=Q0
  have em : ds0.length - i = m+1:=Q0
  have em' : ds0.length - (i+1) = m:=Q0
  have hnx:=hp.nx
  rw [em] at hnx
  by_cases hbr : bare ds[i]
  ·have e : gJ (m+1) i ds ids nx = gJ m (i+1) ds ids nx:=by rw [gJ,kH hi,if_pos hbr]
   rw [e]
   refine xm hN m (i+1) ds ids nx Q0 ⟨hp.lk,hp.len,by rw [em'];omega,fun k hk hlt=>hp.old k hk Q0,fun k hk hlt hnb=>?_⟩
   by_cases e : k = i
   ·subst e;exact absurd hbr hnb
   ·exact hp.done k hk Q0 hnb
  ·have e : gJ (m+1) i ds ids nx = gJ m (i+1) (ds.set i (ds[i].setBody (eS (bA ids ds[i].body.post nx) ds[i].body))) (bA ids ds[i].body.post nx) (nx+ds[i].body.post.length):=by rw [gJ,kH hi,if_neg hbr]
   rw [e]
   obtain ⟨T,T',hT',hmade⟩:=hp.old i hi (Nat.le_refl _) hbr
   have hsz : (ds[i].body.size : Int)<=100000000000:=by
    obtain ⟨c,_,_,_,_,_,h0,hmk⟩:=hmade
    have:=hmk.size
    omega
   have hpl:=Ex.oU ds[i].body
   refine xm hN m (i+1) _ _ _ Q0 ⟨hp.lk.set hi _,by rw [iR];exact hp.len,by rw [em'];omega,fun k hk hlt hnb=>?_,fun k hk hlt hnb=>?_⟩
   ·have hk' : k < ds.length:=by simpa using hk
    have eg : (ds.set i (ds[i].setBody (eS (bA ids ds[i].body.post nx) ds[i].body)))[k] = ds[k]:=by rw [List.getElem_set_ne Q0]
    rw [eg] at hnb ⊢
    exact hp.old k hk' Q0 hnb
   ·by_cases e : k = i
    ·subst e
     simp only [List.getElem_set_self]
     exact ⟨ds[k].body,T,T',ids,nx,hmade,hT',hp.len,Q0,Q0,rfl⟩
    ·have hk' : k < ds.length:=by simpa using hk
     have eg : (ds.set i (ds[i].setBody (eS (bA ids ds[i].body.post nx) ds[i].body)))[k] = ds[k]:=by rw [List.getElem_set_ne Q0]
     rw [eg] at hnb ⊢
     exact hp.done k hk' Q0 hnb
theorem tC (l : List Int) : 0<=iU l/\iU l<=100:=by
 have hn : 1<=ax l/\ax l<=2:=by rcases jM l with h | h <;> omega
 have hok:=lO (l:=l) hn.1
 have hlen:=gq l (ax l)
 have ht : dK (gL l)<=3 * (gL l).length:=by
  have key : ∀ ps : List PlanT,(∀ p∈ps,p.types.length<=3)->dK ps<=3 * ps.length:=fun ps=>by
   induction ps with
   | nil=>intro _;simp [dK]
   | cons p ps ih =>
    intro h
    have h1:=h p (List.mem_cons_self ..)
    have h2:=ih fun q hq=>h q (List.mem_cons_of_mem _ hq)
    rw [mQ,List.length_cons]
    omega
  exact key _ fun p hp=>(hok p hp).t3
 unfold iU gL at *
 omega
theorem ko (l : List Int) : ∃ N : Nat,N<=100000000000/\dN (aJ l).defs (aX l)/\∀ k (hk : k < (aJ l).defs.length),¬ bare (aJ l).defs[k]->Hs (dO l) l (aX l) N (iU l) k (aJ l).defs[k]:=by
 have hb:=G5 l
 have hn:=tD l
 have hl8 : (aX l).length<=8:=by unfold aX;rw [cC];exact (gq l (ax l)).2
 have h9 : (9 : Int) ^ 9 = 387420489:=Q1
 have hB:=oC (l:=l) hb hn hl8 (aX l).length 0 (aX l) ⟨24,0,0,0⟩ Q0 ⟨dN.refl _,by dsimp only;omega,fun k _ h=>absurd h (Nat.not_lt_zero _)⟩
 obtain ⟨hlk,hus,hmk⟩:=hB
 have hnx:=tC l
 have hmm : (0 : Int)<=((aX l).length - (aX l).length : Nat) * (2 * 9 ^ 9):=Int.mul_nonneg Q0 Q0
 have hlen : (kZ l).1.length = (aX l).length:=hlk.len
 refine ⟨(kZ l).2.temp.toNat,by unfold kZ;omega,?_⟩
 have ht : ((kZ l).2.temp.toNat : Int) = (kZ l).2.temp:=by unfold kZ;omega
 have hR:=xm (ms:=dO l) (l:=l) (ds0:=aX l) (N:=(kZ l).2.temp.toNat) (by unfold kZ;omega) (nx0:=iU l) (aX l).length 0 (kZ l).1 (List.replicate (kZ l).2.temp.toNat id0) (iU l) Q0
  ⟨hlk,Q2,Q0,fun k hk _ hnb=>by
   obtain ⟨T,T',h1,h2⟩:=hmk k hk (by rw [<-hlen];exact hk) hnb
   exact ⟨T,T',by rw [ht];exact h1,h2⟩,fun k _ h=>absurd h (Nat.not_lt_zero _)⟩
 exact hR
mutual
def dU (q : IdT->Prop) : Ex->Prop
 | .mk _ k _ r _ l _=>(k = 3->q r)/\dm q l
def dm (q : IdT->Prop) : List Ex->Prop
 | []=>True
 | e::es=>dU q e/\dm q es
end
theorem D6 (q : IdT->Prop) (e : Ex) : dU q e↔(e.kind = 3->q e.ref)/\dm q e.kids:=by cases e;rw [dU];rfl
theorem mu (q : IdT->Prop) : ∀ l : List Ex,dm q l↔∀ e∈l,dU q e
 | []=>by rw [dm];simp
 | e::es=>by rw [dm,mu q es];simp
theorem rm {q q' : IdT->Prop} (h : ∀ r,q r->q' r) : ∀ e : Ex,dU q e->dU q' e
 | .mk i k n r t l s,hc=>by
  rw [dU] at hc ⊢
  exact ⟨fun hk=>h _ (hc.1 hk),go l hc.2⟩
 where go : ∀ l : List Ex,dm q l->dm q' l
 | [],_=>by rw [dm];trivial
 | e::es,hc=>by
  rw [dm] at hc ⊢
  exact ⟨rm h e hc.1,go es hc.2⟩
theorem uF {q : IdT->Prop} (ids : List IdT) : ∀ e : Ex,dU q e->dU q (eS ids e)
 | .mk i k n r t l s,hc=>by
  rw [dU] at hc
  rw [eS,dU]
  refine ⟨fun hk=>?_,go l hc.2⟩
  unfold jl
  rw [if_neg Q0]
  exact hc.1 hk
 where go : ∀ l : List Ex,dm q l->dm q (rC ids l)
 | [],_=>by rw [rC,dm];trivial
 | e::es,hc=>by
  rw [dm] at hc
  rw [rC,dm]
  exact ⟨uF ids e hc.1,go es hc.2⟩
theorem bC {q : IdT->Prop} {k n : Int} {l : List Ex} {T : IdT} {r : IdT} {u : Ty} {ns : List ByteArray} (hk : k = 3->q r) (hl : ∀ e∈l,dU q e) : dU q (.mk T k n r u l ns):=by
 rw [dU]
 exact ⟨hk,(mu q l).2 hl⟩
def Hp (ds : List DefT) (j : Int) (r : IdT) : Prop:=∃ k,∃ h : k < ds.length,(k : Int) < j/\ds[k].id = r/\ds[k].kind = 2
theorem Mk.calls {c : MkC} {t : Ty} {env : List Bnd} {T T' : Int} {e : Ex} (h : Mk c t env T e T') : dU (Hp c.p.defs c.own) e:=by
 induction h with
 | int _=>exact bC (k:=0) (l:=[]) (fun h=>absurd h Q1) (fun _ h=>by cases h)
 | bool _=>exact bC (k:=1) (l:=[]) (fun h=>absurd h Q1) (fun _ h=>by cases h)
 | var _=>exact bC (k:=2) (l:=[]) (fun h=>absurd h Q1) (fun _ h=>by cases h)
 | @list env T kids Ts _ h0 _ ih =>
  refine bC (k:=11) (l:=kids) (fun h=>absurd h Q1) fun x hx=>?_
  obtain ⟨i,hi,rfl⟩:=List.mem_iff_getElem.1 hx
  exact ih i hi
 | @kase env T T1 d k e _ _ _ hm ih =>
  refine bC (k:=9) (l:=[e]) (fun h=>absurd h Q1) fun x hx=>?_
  rw [List.mem_singleton.1 hx];exact ih
 | @recd env T d kids _ _ Ts _ h0 hm ih =>
  refine bC (k:=7) (l:=kids) (fun h=>absurd h Q1) fun x hx=>?_
  obtain ⟨i,hi,rfl⟩:=List.mem_iff_getElem.1 hx
  exact ih i hi
 | @len env T T1 a hm ih =>
  refine bC (k:=4) (l:=[a]) (fun h=>absurd h Q1) fun x hx=>?_
  rw [List.mem_singleton.1 hx];exact ih
 | @not env T T1 a hm ih =>
  refine bC (k:=4) (l:=[a]) (fun h=>absurd h Q1) fun x hx=>?_
  rw [List.mem_singleton.1 hx];exact ih
 | @both t u env T T1 T2 n a b _ ha hb ih1 ih2 =>
  refine bC (k:=4) (l:=[a,b]) (fun h=>absurd h Q1) fun x hx=>?_
  simp only [List.mem_cons,List.not_mem_nil,or_false] at hx
  rcases hx with rfl | rfl
  ·exact ih1
  ·exact ih2
 | @ife t env T T1 T2 T3 a b e ha hb he ih1 ih2 ih3 =>
  refine bC (k:=5) (l:=[a,b,e]) (fun h=>absurd h Q1) fun x hx=>?_
  simp only [List.mem_cons,List.not_mem_nil,or_false] at hx
  rcases hx with rfl | rfl | rfl
  ·exact ih1
  ·exact ih2
  ·exact ih3
 | @lete t u env T T1 T2 a b m ha hb ih1 ih2 =>
  refine bC (k:=6) (l:=[a,b]) (fun h=>absurd h Q1) fun x hx=>?_
  simp only [List.mem_cons,List.not_mem_nil,or_false] at hx
  rcases hx with rfl | rfl
  ·exact ih1
  ·exact ih2
 | @fold t env T T1 T2 T3 a b e m m2 ha hb he ih1 ih2 ih3 =>
  refine bC (k:=12) (l:=[a,b,e]) (fun h=>absurd h Q1) fun x hx=>?_
  simp only [List.mem_cons,List.not_mem_nil,or_false] at hx
  rcases hx with rfl | rfl | rfl
  ·exact ih1
  ·exact ih2
  ·exact ih3
 | @mat t env T T1 d a kids ms _ _ Ts _ _ ha h0 hm ih1 ih =>
  refine bC (k:=10) (l:=a::kids) (fun h=>absurd h Q1) fun x hx=>?_
  rcases List.mem_cons.1 hx with rfl | hx
  ·exact ih1
  ·obtain ⟨i,hi,rfl⟩:=List.mem_iff_getElem.1 hx
   exact ih i hi
 | @field env T T1 d j a _ _ _ hm ih =>
  refine bC (k:=8) (l:=[a]) (fun h=>absurd h Q1) fun x hx=>?_
  rw [List.mem_singleton.1 hx];exact ih
 | @call env T k kids hd hk hv Ts _ h0 hm ih =>
  refine bC (k:=3) (l:=kids) (fun _=>⟨k,hd,hv.1,rfl,hk⟩) fun x hx=>?_
  obtain ⟨i,hi,rfl⟩:=List.mem_iff_getElem.1 hx
  exact ih i hi
theorem Hp.like {a b : List DefT} (h : dN a b) {j : Int} {r : IdT} (hp : Hp a j r) : Hp b j r:=by
 obtain ⟨k,hk,h1,h2,h3⟩:=hp
 have hk' : k < b.length:=by rw [<-h.len];exact hk
 have hs:=cT (h.get hk hk')
 exact ⟨k,hk',h1,by rw [<-hs.1];exact h2,by rw [<-hs.2.1];exact h3⟩
theorem vD (ids : List IdT) : ∀ e : Ex,(eS ids e).size = e.size
 | .mk i k n r t l s=>by rw [eS,Ex.size,Ex.size,go l]
 where go : ∀ l : List Ex,Ex.sizes (rC ids l) = Ex.sizes l
 | []=>by rw [rC]
 | e::es=>by rw [rC,Ex.sizes,Ex.sizes,vD ids e,go es]
structure CallsP (p : ProgT) : Prop where
 nm : Names p
 len : p.defs.length<=8
 calls : ∀ k (hk : k < p.defs.length),¬ bare p.defs[k]->dU (Hp p.defs k) p.defs[k].body/\p.defs[k].body.size<=100000000000
theorem nX (l : List Int) : CallsP (aJ l):=by
 obtain ⟨N,hN,hlk,h⟩:=ko l
 have hlen : (aX l).length<=8:=by unfold aX;rw [cC];exact (gq l (ax l)).2
 refine ⟨(tD l).like hlk,by rw [hlk.len];exact hlen,fun k hk hnb=>?_⟩
 obtain ⟨e,T,T',ids,nx,⟨c,_,hcl,_,hco,_,h0,hmk⟩,hT',_,_,_,hbody⟩:=h k hk hnb
 rw [hbody,vD]
 have hc:=hmk.calls
 rw [hco] at hc
 exact ⟨rm (fun r hr=>(hr.like hcl).like hlk.symm) _ (uF _ _ hc),by have:=hmk.size;omega⟩
mutual
def iw (M : IdT->Int) : Ex->Int
 | .mk _ k _ r _ l _=>if k = 12 then -1 else match jW M k l 0 1 0 with
  | none=>-1
  | some (a,b)=>if (if k = 3 then M r else b) < 0 then -1 else dy (a+(if k = 3 then M r else b))
def jW (M : IdT->Int) (k : Int) : List Ex->Nat->Int->Int->Option (Int×Int)
 | [],_,a,b=>some (a,b)
 | e::es,i,a,b=>if iw M e < 0 then none else if 0 < i/\(k = 5\/k = 10) then jW M k es (i+1) a (max b (iw M e)) else jW M k es (i+1) (dy (a+iw M e)) b
end
theorem bndE_eq (M : IdT->Int) (e : Ex) : iw M e = if e.kind = 12 then -1 else match jW M e.kind e.kids 0 1 0 with
  | none=>-1
  | some (a,b)=>if (if e.kind = 3 then M e.ref else b) < 0 then -1 else dy (a+(if e.kind = 3 then M e.ref else b)):=by cases e;rw [iw];rfl
def rA (z : Int) : Prop:=z = -1\/0<=z/\z<=1099511627776
theorem uD {z : Int} (h : 0<=z) : 0<=dy z/\dy z<=1099511627776:=by unfold dy;omega
section
variable {M : IdT->Int} (hM : ∀ r,rA (M r))
theorem yg (hM : ∀ r,rA (M r)) : ∀ e : Ex,rA (iw M e)
 | .mk i k n r t l s=>by
  rw [iw]
  split
  ·exact .inl rfl
  ·split
   ·exact .inl rfl
   ·rename_i a b hl
    have:=go k l 0 1 0 ⟨Q0,Q0⟩ ⟨Q0,Q0⟩ hl
    generalize (if k = 3 then M r else b) = z
    split
    ·exact .inl rfl
    ·rename_i hb
     exact .inr (uD Q0)
 where go (k : Int) : ∀ (l : List Ex) (i : Nat) (a b : Int) {a' b' : Int},(0<=a/\a<=1099511627776)->(0<=b/\b<=1099511627776)->jW M k l i a b = some (a',b')->(0<=a'/\a'<=1099511627776)/\(0<=b'/\b'<=1099511627776)
 | [],i,a,b,a',b',ha,hb,h=>by
  rw [jW] at h
  simp only [Option.some.injEq,Prod.mk.injEq] at h
  rw [<-h.1,<-h.2]
  exact ⟨ha,hb⟩
 | e::es,i,a,b,a',b',ha,hb,h=>by
  have he:=yg hM e
  unfold rA at he
  rw [jW] at h
  split at h
  ·cases h
  ·split at h
   ·exact go k es (i+1) _ _ ha Q0 h
   ·exact go k es (i+1) _ _ (uD Q0) hb h
end
theorem oD {M M' : IdT->Int} {q : IdT->Prop} (h : ∀ r,q r->M r = M' r) : ∀ e : Ex,dU q e->iw M e = iw M' e
 | .mk i k n r t l s,hc=>by
  rw [dU] at hc
  rw [iw,iw,go k l hc.2 0 1 0]
  by_cases hk : k = 3
  ·rw [h r (hc.1 hk)]
  ·simp only [if_neg hk]
 where go (k : Int) : ∀ (l : List Ex),dm q l->∀ (i : Nat) (a b : Int),jW M k l i a b = jW M' k l i a b
 | [],_,i,a,b=>by rw [jW,jW]
 | e::es,hc,i,a,b=>by
  rw [dm] at hc
  rw [jW,jW,oD h e hc.1,go k es hc.2,go k es hc.2]
def lT (p : ProgT) : Nat->IdT->Int
 | 0,_=>-1
 | n+1,i=>if dc p i/\¬ bare (aj p i) then iw (lT p n) (aj p i).body else -1
def ee (p : ProgT) (i : IdT) : Int:=lT p p.defs.length i
theorem zb (p : ProgT) : ∀ (n : Nat) (i : IdT),rA (lT p n i)
 | 0,_=>.inl rfl
 | n+1,i=>by
  rw [lT]
  split
  ·exact yg (zb p n) _
  ·exact .inl rfl
theorem o4 {p : ProgT} (h : CallsP p) : ∀ (j : Nat) (hj : j < p.defs.length) (n : Nat),j < n->lT p n p.defs[j].id = lT p (j+1) p.defs[j].id:=by
 intro j
 induction j using Nat.strongRecOn with
 | _ j ih =>
  intro hj n hn
  obtain ⟨m,rfl⟩ : ∃ m,n = m+1:=⟨n - 1,Q0⟩
  rw [lT,lT,h.nm.the (List.getElem_mem hj)]
  split
  ·rename_i hc
   refine oD ?_ _ (h.calls j hj hc.2).1
   rintro r ⟨k,hk,hkj,rfl,_⟩
   rw [ih k Q0 hk m Q0,ih k Q0 hk j Q0]
  ·rfl
theorem DA {p : ProgT} (h : CallsP p) {j : Nat} (hj : j < p.defs.length) (hb : ¬ bare p.defs[j]) : ee p p.defs[j].id = iw (ee p) p.defs[j].body:=by
 have e : ∃ m,p.defs.length = m+1:=⟨p.defs.length - 1,Q0⟩
 obtain ⟨m,hm⟩:=e
 have hmem:=List.getElem_mem hj
 have h1 : ee p p.defs[j].id = iw (lT p m) p.defs[j].body:=by
  unfold ee
  rw [hm,lT,h.nm.the hmem,if_pos ⟨Names.has hmem,hb⟩]
 rw [h1]
 refine oD ?_ _ (h.calls j hj hb).1
 rintro r ⟨k,hk,hkj,rfl,_⟩
 unfold ee
 rw [o4 h k hk m Q0,o4 h k hk _ hk]
theorem tF {p : ProgT} {i : IdT} (h : ¬ (dc p i/\¬ bare (aj p i))) : ee p i = -1:=by
 unfold ee
 cases p.defs.length with
 | zero=>rfl
 | succ n=>rw [lT,if_neg h]
end Xe

namespace Go.Proofs.YtanbipbiblikbaaDoor
open Xe Pm
abbrev pgL (p : ProgT) : List D:=[.sl p.mods.length 6 (p.mods.flatMap ModT.enc),.sl p.defs.length 31 (p.defs.flatMap DefT.enc)]
theorem mP (p : ProgT) (i : IdT) (hs : p.defs.length<=1000000000000) : IS kY [pgL p,i.enc] [(aj p i).enc,[vB (decide (dc p i))]]:=by
 refine w58_1.is ?_
 unfold g58_1
 simp only [pmr]
 refine gO ?_
 refine cg p.defs.length (fun k=>[[vI (k : Int)],pgL p,i.enc,kR.enc]) (fun k=>∀ j (hj : j < p.defs.length),j < k->p.defs[j].id ≠ i) (fun _ _ h=>absurd h (Nat.not_lt_zero _)) rfl fun k next hi hI hn=>?_
 simp only [pmr,pms]
 refine ⟨fun h=>?_,fun h=>?_⟩
 ·have hk : k < p.defs.length:=Q0
  rw [gZ _ hk]
  simp only [pmr,pms]
  refine ⟨Q0,fun e=>⟨Q0,?_⟩,fun e=>⟨Q4,hn hk fun j hj h=>?_⟩⟩
  ·obtain ⟨h1,h2⟩:=gm hk hI e
   rw [h2,decide_eq_true h1]
  ·by_cases e' : j = k
   ·subst e'
    exact e
   ·exact hI j hj Q0
 ·obtain rfl : k = p.defs.length:=Q0
  obtain ⟨h1,h2⟩:=ji fun j hj=>hI j hj hj
  rw [h2,decide_eq_false h1]
  rfl
theorem oq (d : DefT) (hk : 0<=d.kind/\d.kind<=5) : IS s59 [d.enc] [[vB (decide (¬ bare d))]]:=by
 refine w59.is ?_
 unfold g59
 have e : ∀ b : Bool,(b = decide (¬ bare d))->([[vB b]] : St') = [[vB (decide (¬ bare d))]]:=fun b h=>by rw [h]
 simp only [pmr,pms]
 unfold bare at e ⊢
 refine ⟨fun h=>e _ (decide_eq_true Q0).symm,fun h2=>⟨fun h=>e _ (decide_eq_true Q0).symm,fun h3=>⟨fun h=>e _ (decide_eq_true Q0).symm,fun h4=>e _ (decide_eq_decide.2 Q0)⟩⟩⟩
theorem uC (n : Int) : IS s36 [[vI n]] [[vI (dy n)]]:=by
 refine w36.is ?_
 unfold g36
 simp only [pmr]
 rfl
theorem G1 (M : IdT->Int) (k : Int) (l : List Ex) (i : Nat) (hi : i < l.length) (a b : Int) : jW M k (l.drop i) i a b = if iw M l[i] < 0 then none else if 0 < i/\(k = 5\/k = 10) then jW M k (l.drop (i+1)) (i+1) a (max b (iw M l[i])) else jW M k (l.drop (i+1)) (i+1) (dy (a+iw M l[i])) b:=by
 rw [List.drop_eq_getElem_cons hi,jW]
section
variable {p : ProgT} {q : IdT->Prop}
end
theorem GM (d : DefT) (i : IdT) : IS s89 [d.enc,i.enc] [[vB (decide (d.id = i))],i.enc]:=by
 refine w89.is ?_
 unfold g89
 simp only [pmr,pms]
theorem GL (l : List DefT) (i : IdT) (hs : l.length<=1000000000000000) : IS s88 [[.sl l.length 31 (l.flatMap DefT.enc)],i.enc] [[vI (rE (fun d=>decide (d.id = i)) l)],i.enc]:=by
 refine w88.is ?_
 unfold g88
 simp only [pmr]
 refine cg l.length (fun k=>[[.sl l.length 31 (l.flatMap DefT.enc)],[vI (l.length : Nat)],[vI (k : Nat)],i.enc]) (fun k=>∀ j (hj : j < l.length),j < k->(decide (l[j].id = i)) ≠ true) (fun _ _ h=>absurd h (Nat.not_lt_zero _)) rfl fun k next hi hI hn=>?_
 simp only [pmr]
 refine ⟨fun h=>?_,fun h=>?_⟩
 ·have hk : k < l.length:=Q0
  rw [gZ _ hk]
  refine ⟨Q0,ai (GM _ _) ?_⟩
  simp only [pmr]
  refine ⟨fun e=>by rw [zn hk hI (decide_eq_true e)],fun e=>⟨Q4,hn hk fun j hj h=>?_⟩⟩
  by_cases e' : j = k
  ·subst e'
   simpa using e
  ·exact hI j hj Q0
 ·obtain rfl : k = l.length:=Q0
  rw [vZ fun j hj=>hI j hj hj]
theorem xZ (p : ProgT) (i : IdT) (hs : p.defs.length<=1000000000000000) : IS s57 [pgL p,i.enc] [(aj p i).enc,[vB (decide (dc p i))]]:=by
 refine w57.is ?_
 unfold g57
 simp only [pmr]
 refine ai (GL p.defs i hs) ?_
 simp only [pmr]
 rcases oo (fun d : DefT=>decide (d.id = i)) p.defs with ⟨e,h⟩ | ⟨k,hk,e,h1,h2⟩
 ·rw [e]
  obtain ⟨g1,g2⟩:=ji (p:=p) (id:=i) fun j hj hc=>h j hj (by simpa using hc)
  rw [g2,decide_eq_false g1]
  exact ⟨fun _=>rfl,fun h=>absurd (show (-1 : Int) < 0 by decide) h⟩
 ·rw [e]
  obtain ⟨g1,g2⟩:=gm hk (fun j hj hlt hc=>h2 j hj hlt (by simpa using hc)) (by simpa using h1)
  rw [g2,decide_eq_true g1,Int.toNat_natCast,gZ _ hk]
  exact ⟨fun h=>absurd h Q0,fun _=>⟨Q0,rfl⟩⟩
theorem body_is (p : ProgT) (i : IdT) (hs : p.defs.length<=1000000000000000) : IS s53 [pgL p,i.enc] [(aj p i).enc,[vB (decide (dc p i/\¬ bare (aj p i)))]]:=by
 refine w53.is ?_
 unfold g53
 refine ai (xZ p i hs) ?_
 simp only [pmr,pms]
 have e : ∀ b : Bool,b = decide (dc p i/\¬ bare (aj p i))->([(aj p i).enc,[vB b]] : St') = [(aj p i).enc,[vB (decide (dc p i/\¬ bare (aj p i)))]]:=fun b h=>by rw [h]
 unfold bare at e ⊢
 refine ⟨fun h=>⟨fun h0=>e _ (decide_eq_false Q0).symm,fun h0=>e _ ?_⟩,fun h=>e _ (decide_eq_false (fun hh=>h hh.1)).symm⟩
 rw [<-decide_not]
 exact decide_eq_decide.2 ⟨fun h1=>⟨h,Q0⟩,fun h1=>by have:=h1.2;omega⟩
theorem zI (n : Int) : IS s56 [[vI n]] [[vI (dy n)]]:=by
 refine w56.is ?_
 unfold g56
 simp only [pmr]
 rfl
def knE (x : IdT×Int) : List D:=[an x.1.shop,an x.1.seq,an x.1.index,vI x.2]
def knD (kn : List (IdT×Int)) : List D:=[.sl kn.length 4 (kn.flatMap knE)]
theorem rU (x : IdT×Int) (kn : List (IdT×Int)) : (x::kn).flatMap knE = .v (.int .i64 x.1.shop)::.v (.int .i64 x.1.seq)::.v (.int .i64 x.1.index)::([vI x.2]++kn.flatMap knE):=rfl
theorem rT (i : IdT) : ∀ kn : List (IdT×Int),dB 4 i.shop i.seq i.index kn.length (kn.flatMap knE) = (kn.find? fun x=>decide (i = x.1)).map fun x=>[vI x.2]
 | []=>rfl
 | x::kn=>by
  rw [rU,List.length_cons,dB,l9,List.find?_cons]
  by_cases h : i = x.1
  ·rw [decide_eq_true (show (⟨i.shop,i.seq,i.index⟩ : IdT) = x.1 from h)]
   rfl
  ·rw [decide_eq_false (show ¬ (⟨i.shop,i.seq,i.index⟩ : IdT) = x.1 from h)]
   exact rT i kn
theorem F6 (i : IdT) (z : Int) : ∀ kn : List (IdT×Int),(kn.find? fun x=>decide (i = x.1)) = none->eX 4 i.shop i.seq i.index [vI z] kn.length (kn.flatMap knE) = (kn++[(i,z)]).flatMap knE
 | [],_=>rfl
 | x::kn,hf=>by
  rw [List.find?_cons] at hf
  by_cases h : i = x.1
  ·rw [decide_eq_true h] at hf;cases hf
  ·rw [decide_eq_false h] at hf
   have hk:=F6 i z kn hf
   rw [rU,List.length_cons,eX,l9,decide_eq_false (show ¬ (⟨i.shop,i.seq,i.index⟩ : IdT) = x.1 from h)]
   show List.take 4 _++eX 4 i.shop i.seq i.index [vI z] kn.length (kn.flatMap knE) = _
   rw [hk]
   rfl
theorem kn_len (i : IdT) (kn : List (IdT×Int)) (hf : (kn.find? fun x=>decide (i = x.1)) = none) : gT 4 i.shop i.seq i.index kn.length (kn.flatMap knE) = kn.length+1:=by
 unfold gT
 rw [rT,hf]
 rfl
theorem Ch (i : IdT) (z : Int) : ∀ (kn : List (IdT×Int)) (x : IdT×Int),(kn.find? fun x=>decide (i = x.1)) = some x->x.2 = z->eX 4 i.shop i.seq i.index [vI z] kn.length (kn.flatMap knE) = kn.flatMap knE
 | [],_,hf,_=>by cases hf
 | y::kn,x,hf,hz=>by
  rw [List.find?_cons] at hf
  by_cases h : i = y.1
  ·rw [decide_eq_true h] at hf
   simp only [Option.some.injEq] at hf
   subst hf
   rw [rU,List.length_cons,eX,l9,decide_eq_true (show (⟨i.shop,i.seq,i.index⟩ : IdT) = y.1 from h),<-hz]
   rfl
  ·rw [decide_eq_false h] at hf
   have:=Ch i z kn x hf hz
   rw [rU,List.length_cons,eX,l9,decide_eq_false (show ¬ (⟨i.shop,i.seq,i.index⟩ : IdT) = y.1 from h)]
   show List.take 4 _++eX 4 i.shop i.seq i.index [vI z] kn.length (kn.flatMap knE) = _
   rw [this]
   rfl
theorem kn_slen (i : IdT) (kn : List (IdT×Int)) {x : IdT×Int} (hf : (kn.find? fun x=>decide (i = x.1)) = some x) : gT 4 i.shop i.seq i.index kn.length (kn.flatMap knE) = kn.length:=by
 unfold gT
 rw [rT,hf]
 rfl
def uS (p : ProgT) (kn : List (IdT×Int)) : Prop:=∀ x∈kn,x.2 = ee p x.1
def OfIs (p : ProgT) (d : DefT) : Prop:=∀ kn,uS p kn->∃ kn',uS p kn'/\IS s54 [d.enc,knD kn,pgL p] [[vI (ee p d.id)],knD kn',pgL p]
theorem some54 {a : St'} {K : St'->Prop} (h : g54 IS a K) (hu : ∀ r,K r->unpack aM (gM s54) r fun _=>True) : ∃ r,K r/\IS s54 a r:=w54.some h hu
theorem some55 {a : St'} {K : St'->Prop} (h : g55 IS a K) (hu : ∀ r,K r->unpack aM (gM s55) r fun _=>True) : ∃ r,K r/\IS s55 a r:=w55.some h hu
section
variable {p : ProgT} {q : IdT->Prop}
def BdIs (p : ProgT) (e : Ex) : Prop:=∀ kn,uS p kn->∃ kn',uS p kn'/\IS s55 [e.enc,pgL p,knD kn] [[vI (iw (ee p) e)],pgL p,knD kn']
theorem zQ (hl : p.defs.length<=1000000000000000) (hq : ∀ r,q r->OfIs p (aj p r)/\(aj p r).id = r) : ∀ e : Ex,dU q e->e.size<=100000000000->BdIs p e
 | e,hc,hs=>fun kn hkn=>by
  suffices main : g55 IS [e.enc,pgL p,knD kn] (fun r=>∃ kn',uS p kn'/\r = [[vI (iw (ee p) e)],pgL p,knD kn']) by
   obtain ⟨r,⟨kn',h1,rfl⟩,h2⟩:=some55 main (by rintro r ⟨kn',_,rfl⟩;exact trivial)
   exact ⟨kn',h1,h2⟩
  unfold g55
  have hM:=zb p p.defs.length
  rw [D6] at hc
  have he:=bndE_eq (ee p) e
  have h4:=Ex.size_eq e
  have h5:=lK e.kids
  simp only [pmr,knD]
  refine cu [[vI 1],[vI 0],[vB (decide (e.kind = 5\/e.kind = 10))],pgL p,e.enc,knD kn] ?_ ?_
  ·refine ⟨fun h=>by rw [decide_eq_true (.inl h)];rfl,fun h=>?_⟩
   rw [decide_eq_decide.2 (show e.kind = 10↔e.kind = 5\/e.kind = 10 by omega)]
   rfl
  simp only [pmr,knD]
  refine jf (σ:=Nat×Int×Int×List (IdT×Int)) (fun y=>[[vI y.2.1],[vI y.2.2.1],[vB (decide (e.kind = 5\/e.kind = 10))],[.sl e.kids.length 15 (e.kids.flatMap Ex.enc)],[vI (e.kids.length : Nat)],[vI (y.1 : Nat)],pgL p,e.enc,knD y.2.2.2]) (fun y=>e.kids.length - y.1)
   (fun y=>y.1<=e.kids.length/\jW (ee p) e.kind e.kids 0 1 0 = jW (ee p) e.kind (e.kids.drop y.1) y.1 y.2.1 y.2.2.1/\(0<=y.2.1/\y.2.1<=1099511627776)/\(0<=y.2.2.1/\y.2.2.1<=1099511627776)/\uS p y.2.2.2) (0,1,0,kn) ⟨Nat.zero_le _,rfl,(show (0 : Int)<=1/\(1 : Int)<=1099511627776 by decide),(show (0 : Int)<=0/\(0 : Int)<=1099511627776 by decide),hkn⟩ rfl ?_
  rintro ⟨i,a,b,kn1⟩ next ⟨hi,hI,ha,hb,hk1⟩ hn
  dsimp only at hi hI ha hb hk1 hn ⊢
  simp only [pmr,pms,knD]
  refine ⟨fun h=>?_,fun h=>?_⟩
  ·have hk : i < e.kids.length:=Q0
   have hkid:=List.getElem_mem hk
   have hsz:=Ex.dF hkid
   rw [G1 _ _ _ _ hk] at hI
   have hv:=yg (M:=ee p) hM e.kids[i]
   unfold rA at hv
   rw [gY _ hk]
   obtain ⟨kn2,hk2,hcall⟩:=zQ hl hq _ ((mu _ _).1 hc.2 _ hkid) Q0 kn1 hk1
   refine ⟨Q0,ai hcall ?_⟩
   simp only [pmr,knD]
   generalize iw (ee p) e.kids[i] = v at hI hv ⊢
   have okv : okI (a+v)\/v < 0:=by unfold okI;omega
   refine ⟨fun hv0=>?_,fun hv0=>?_⟩
   ·rw [if_pos hv0] at hI
    rw [hI] at he
    refine ⟨kn2,hk2,?_⟩
    rw [he,ite_self]
   ·rw [if_neg hv0] at hI
    have ok:=okv.resolve_right hv0
    have sumC : ¬ (0 < i/\(e.kind = 5\/e.kind = 10))->okI (a+v)/\caK IS s56 [[vI (a+v)]] fun r=>aa (cell (ent r 0) 0) fun z=>okI ((i : Int)+1)/\next [[vI z],[vI b],[vB (decide (e.kind = 5\/e.kind = 10))],[.sl e.kids.length 15 (e.kids.flatMap Ex.enc)],[vI (e.kids.length : Nat)],[vI ((i : Int)+1)],pgL p,e.enc,knD kn2]:=fun hnc=>by
     rw [if_neg hnc] at hI
     refine ⟨ok,ai (zI _) ?_⟩
     have hcl:=uD (z:=a+v) Q0
     exact ⟨Q4,hn (i+1,dy (a+v),b,kn2) (by dsimp only;omega) ⟨hk,hI,hcl,hb,hk2⟩⟩
    have maxC : (0 < i/\(e.kind = 5\/e.kind = 10))->okI ((i : Int)+1)/\next [[vI a],[vI (max b v)],[vB (decide (e.kind = 5\/e.kind = 10))],[.sl e.kids.length 15 (e.kids.flatMap Ex.enc)],[vI (e.kids.length : Nat)],[vI ((i : Int)+1)],pgL p,e.enc,knD kn2]:=fun hc2=>by
     rw [if_pos hc2] at hI
     exact ⟨Q4,hn (i+1,a,max b v,kn2) (by dsimp only;omega) ⟨hk,hI,ha,by dsimp only;omega,hk2⟩⟩
    refine ⟨fun hch=>⟨fun h0=>maxC ⟨Q0,hch⟩,fun h0=>sumC Q0⟩,fun hch=>sumC (fun hh=>hch hh.2)⟩
  ·obtain rfl : i = e.kids.length:=Q0
   rw [List.drop_length,jW] at hI
   rw [hI] at he
   dsimp only at he
   have fin : ∀ (z : Int) (kn2 : List (IdT×Int)),uS p kn2->z = (if e.kind = 3 then ee p e.ref else b)->rA z->(e.kind = 12->∃ kn',uS p kn'/\[[vI (-1)],pgL p,knD kn2] = [[vI (iw (ee p) e)],pgL p,knD kn'])/\(¬ e.kind = 12->(z < 0->∃ kn',uS p kn'/\[[vI (-1)],pgL p,knD kn2] = [[vI (iw (ee p) e)],pgL p,knD kn'])/\(¬ z < 0->okI (a+z)/\caK IS s56 [[vI (a+z)]] fun r=>aa (cell (ent r 0) 0) fun z=>∃ kn',uS p kn'/\[[vI z],pgL p,knD kn2] = [[vI (iw (ee p) e)],pgL p,knD kn'])):=fun z kn2 hk2 hz hzb=>by
    rw [<-hz] at he
    unfold rA at hzb
    refine ⟨fun k12=>⟨kn2,hk2,by rw [he,if_pos k12]⟩,fun k12=>?_⟩
    rw [if_neg k12] at he
    refine ⟨fun hz0=>⟨kn2,hk2,by rw [he,if_pos hz0]⟩,fun hz0=>⟨Q4,ai (zI _) ⟨kn2,hk2,?_⟩⟩⟩
    rw [he,if_neg hz0]
   refine gO ?_
   refine ⟨fun k3=>ai (xZ p e.ref hl) ?_,fun k3=>?_⟩
   ·simp only [pmr]
    obtain ⟨hof,hid⟩:=hq _ (hc.1 k3)
    obtain ⟨kn2,hk2,hcall⟩:=hof kn1 hk1
    rw [hid] at hcall
    refine ai hcall ?_
    simp only [pmr,knD]
    exact fin _ kn2 hk2 (by rw [if_pos k3]) (hM _)
   ·simp only [pmr]
    exact fin b kn1 hk1 (by rw [if_neg k3]) (.inr hb)
 termination_by e=>e.size
end
theorem of_isE {p : ProgT} {d : DefT} (hd : ee p d.id = iw (ee p) d.body) (hb : BdIs p d.body) : OfIs p d:=fun kn hkn=>by
 suffices main : g54 IS [d.enc,knD kn,pgL p] (fun r=>∃ kn',uS p kn'/\r = [[vI (ee p d.id)],knD kn',pgL p]) by
  obtain ⟨r,⟨kn',h1,rfl⟩,h2⟩:=some54 main (by rintro r ⟨kn',_,rfl⟩;exact trivial)
  exact ⟨kn',h1,h2⟩
 unfold g54
 simp only [pmr,pms,knD]
 rw [rT]
 cases hf : kn.find? fun x=>decide (d.id = x.1) with
 | none =>
  show ifK (!false) _ _
  obtain ⟨kn2,hk2,hcall⟩:=hb kn hkn
  refine ai hcall ?_
  simp only [pmr,knD]
  rw [<-hd]
  cases hf2 : kn2.find? fun x=>decide (d.id = x.1) with
  | none =>
   refine ⟨kn2++[(d.id,ee p d.id)],fun y hy=>?_,?_⟩
   ·rcases List.mem_append.1 hy with hy | hy
    ·exact hk2 y hy
    ·rw [List.mem_singleton.1 hy]
   ·rw [kn_len _ _ hf2,F6 _ _ _ hf2,List.length_append]
    rfl
  | some x =>
   have hx : d.id = x.1:=by simpa using List.find?_some hf2
   have hm:=hk2 x (List.mem_of_find?_eq_some hf2)
   refine ⟨kn2,hk2,?_⟩
   rw [kn_slen _ _ hf2,Ch _ _ _ _ hf2 (by rw [hm,hx])]
 | some x =>
  show ifK (!true) _ _
  refine ⟨kn,hkn,?_⟩
  have hx : d.id = x.1:=by simpa using List.find?_some hf
  have hm:=hkn x (List.mem_of_find?_eq_some hf)
  rw [hx,<-hm]
  rfl
end Go.Proofs.YtanbipbiblikbaaDoor

namespace Xe
open Go
abbrev TEnv:=List (IdT×Int×Ty)
def nA (G : TEnv) (r : IdT) (n : Int) : Option Ty:=(G.find? fun x=>decide (x.1 = r/\x.2.1 = n)).map (·.2.2)
inductive WTy (p : ProgT) : TEnv->Ex->Ty->Prop
 | int {G : TEnv} {i r : IdT} {n : Int} {t : Ty} {s : List ByteArray} : InR n->WTy p G (.mk i 0 n r t [] s) ty0
 | bool {G : TEnv} {i r : IdT} {n : Int} {t : Ty} {s : List ByteArray} : 0<=n/\n<=1->WTy p G (.mk i 1 n r t [] s) tyL
 | var {G : TEnv} {i r : IdT} {n : Int} {t u : Ty} {s : List ByteArray} : nA G r n = some u->WTy p G (.mk i 2 n r t [] s) u
 | list {G : TEnv} {i r : IdT} {n : Int} {t : Ty} {s : List ByteArray} {kids : List Ex} : kids.length<=2->(∀ j (h : j < kids.length),WTy p G kids[j] ty0)->WTy p G (.mk i 11 n r t kids s) (bE ty0)
 | kase {G : TEnv} {i : IdT} {t : Ty} {s : List ByteArray} {d : DefT} {k : Nat} {e : Ex} (hd : d∈p.defs) (hk : d.kind = 1) (h : k < d.slots.length) : WTy p G e d.slots[k].ty->WTy p G (.mk i 9 k d.id t [e] s) (ofT d.id)
 | recd {G : TEnv} {i : IdT} {n : Int} {t : Ty} {s : List ByteArray} {d : DefT} {kids : List Ex} (hd : d∈p.defs) (hk : d.kind = 0) (hl : kids.length = d.slots.length) : (∀ j (h : j < kids.length),WTy p G kids[j] (d.slots[j]'Q0).ty)->WTy p G (.mk i 7 n d.id t kids s) (ofT d.id)
 | len {G : TEnv} {i r : IdT} {t : Ty} {s : List ByteArray} {a : Ex} : WTy p G a (bE ty0)->WTy p G (.mk i 4 11 r t [a] s) ty0
 | not {G : TEnv} {i r : IdT} {t : Ty} {s : List ByteArray} {a : Ex} : WTy p G a tyL->WTy p G (.mk i 4 9 r t [a] s) tyL
 | both {G : TEnv} {i r : IdT} {n : Int} {t u v : Ty} {s : List ByteArray} {a b : Ex} : Fq n u v->WTy p G a u->WTy p G b u->WTy p G (.mk i 4 n r t [a,b] s) v
 | ife {G : TEnv} {i r : IdT} {n : Int} {t v : Ty} {s : List ByteArray} {a b e : Ex} : WTy p G a tyL->WTy p G b v->WTy p G e v->WTy p G (.mk i 5 n r t [a,b,e] s) v
 | lete {G : TEnv} {i r : IdT} {n : Int} {t u v : Ty} {s : List ByteArray} {a b : Ex} : WTy p G a u->WTy p ((i,0,u)::G) b v->WTy p G (.mk i 6 n r t [a,b] s) v
 | fold {G : TEnv} {i r : IdT} {n : Int} {t v : Ty} {s : List ByteArray} {a b e : Ex} : WTy p G a (bE ty0)->WTy p G b v->WTy p ((i,1,v)::(i,0,ty0)::G) e v->WTy p G (.mk i 12 n r t [a,b,e] s) v
 | mat {G : TEnv} {i r : IdT} {n : Int} {t v : Ty} {s : List ByteArray} {d : DefT} {a : Ex} {kids : List Ex} (hd : d∈p.defs) (hk : d.kind = 1) (hl : kids.length = d.slots.length) : WTy p G a (ofT d.id) ->
   (∀ j (h : j < kids.length),WTy p ((i,(j : Int),(d.slots[j]'Q0).ty)::G) kids[j] v)->WTy p G (.mk i 10 n r t (a::kids) s) v
 | field {G : TEnv} {i r : IdT} {t : Ty} {s : List ByteArray} {d : DefT} {j : Nat} {a : Ex} (hd : d∈p.defs) (hk : d.kind = 0) (h : j < d.slots.length) : WTy p G a (ofT d.id)->WTy p G (.mk i 8 j r t [a] s) d.slots[j].ty
 | call {G : TEnv} {i : IdT} {n : Int} {t : Ty} {s : List ByteArray} {d : DefT} {kids : List Ex} (hd : d∈p.defs) (hk : ¬ bare d) (hl : kids.length = d.slots.length) : (∀ j (h : j < kids.length),WTy p G kids[j] (d.slots[j]'Q0).ty)->WTy p G (.mk i 3 n d.id t kids s) d.result
def p5 (p : ProgT) : TEnv->Env->Prop
 | [],[]=>True
 | x::G,y::E=>(y.1 = x.1/\y.2.1 = x.2.1/\aB p y.2.2 x.2.2 = true/\y.2.2.size<=256)/\p5 p G E
 | _,_=>False
theorem p5.find {p : ProgT} {r : IdT} {n : Int} {u : Ty} : ∀ {G : TEnv} {E : Env},p5 p G E->nA G r n = some u->aB p (cE E r n) u = true/\(cE E r n).size<=256
 | [],[],_,h=>by simp [nA] at h
 | x::G,y::E,h,hl=>by
  obtain ⟨⟨h1,h2,h3⟩,h4⟩:=h
  unfold nA at hl
  unfold cE
  rw [List.find?_cons] at hl ⊢
  rw [h1,h2]
  by_cases hc : x.1 = r/\x.2.1 = n
  ·rw [decide_eq_true hc] at hl ⊢
   simp only [Option.map_some,Option.some.injEq] at hl
   rw [<-hl]
   exact h3
  ·rw [decide_eq_false hc] at hl ⊢
   exact p5.find h4 hl
 | [],_::_,h,_=>h.elim
 | _::_,[],h,_=>h.elim
theorem ok0 (p : ProgT) : bh p ty0:=by unfold bh;exact (cM Q1 Q1).2 ⟨rfl,rfl,.inl rfl⟩
theorem okL (p : ProgT) : bh p tyL:=by unfold bh;exact (cM Q1 Q1).2 ⟨rfl,rfl,.inr rfl⟩
theorem FC (p : ProgT) : bh p (bE ty0):=by unfold bh;exact (j5 rfl).2 ⟨rfl,ty0,rfl,(cM Q1 Q1).2 ⟨rfl,rfl,.inl rfl⟩⟩
theorem okOf {p : ProgT} {i : IdT} (h : fU p i) : bh p (ofT i):=by unfold bh;exact (gF rfl).2 ⟨h,rfl⟩
theorem fits_int {p : ProgT} {v : Val} : aB p v ty0 = true↔v.kind = 0/\v.kids = []/\InR v.n:=by
 rw [dI,if_pos (show ty0.kind = 0 from rfl)]
 simp [ok0,InR,and_assoc]
theorem fits_bool {p : ProgT} {v : Val} : aB p v tyL = true↔v.kind = 1/\v.kids = []/\(v.n = 0\/v.n = 1):=by
 rw [dI,if_neg (show ¬ tyL.kind = 0 by decide),if_pos (show tyL.kind = 1 from rfl)]
 simp [okL,and_assoc]
theorem iC {p : ProgT} {v : Val} : aB p v (bE ty0) = true↔v.kind = 4/\v.n = 0/\∀ x∈v.kids,aB p x ty0 = true:=by
 rw [dI,if_neg (show ¬ (bE ty0).kind = 0 by decide),if_neg (show ¬ (bE ty0).kind = 1 by decide),if_pos (show (bE ty0).kind = 2 from rfl)]
 simp only [FC,decide_true,Bool.true_and,Bool.and_eq_true,decide_eq_true_eq,mV,and_assoc]
 refine and_congr_right fun _=>and_congr_right fun _=>⟨fun h x hx=>?_,fun h j hj=>h _ (List.getElem_mem _)⟩
 obtain ⟨j,hj,rfl⟩:=List.mem_iff_getElem.1 hx
 exact h j hj
theorem qx {p : ProgT} {v : Val} {i : IdT} (ht : fU p i) (hk : (aj p i).kind = 1) : aB p v (ofT i) = true↔v.kind = 3/\∃ k : Nat,∃ h : k < (aj p i).slots.length,v.n = k/\∃ x,v.kids = [x]/\aB p x (aj p i).slots[k].ty = true:=by
 rw [dI,if_neg (show ¬ (ofT i).kind = 0 from (by decide : ¬ (3 : Int) = 0)),if_neg (show ¬ (ofT i).kind = 1 from (by decide : ¬ (3 : Int) = 1)),if_neg (show ¬ (ofT i).kind = 2 from (by decide : ¬ (3 : Int) = 2)),if_pos (show (aj p (ofT i).df).kind = 1 from hk)]
 simp only [okOf ht,decide_true,Bool.true_and,Bool.and_eq_true,decide_eq_true_eq,mV,and_assoc,List.length_eq_one_iff]
 refine and_congr_right fun _=>⟨fun ⟨h0,h1,⟨x,hx⟩,h2⟩=>?_,fun ⟨k,h,hn,x,hx,h2⟩=>?_⟩
 ·refine ⟨v.n.toNat,by have : (ofT i).df = i:=rfl;rw [this] at h1;omega,Q0,x,hx,?_⟩
  have:=h2 0 (by rw [hx];simp)
  simp only [hx,List.getElem_cons_zero] at this
  rw [List.getD_eq_getElem?_getD,List.getElem?_map,List.getElem?_eq_getElem (by have : (ofT i).df = i:=rfl;rw [this] at h1 ⊢;omega)] at this
  exact this
 ·refine ⟨Q0,by show v.n < ((aj p i).slots.length : Int);omega,⟨x,hx⟩,fun j hj=>?_⟩
  simp only [hx,List.length_singleton] at hj
  obtain rfl : j = 0:=Q0
  simp only [hx,List.getElem_cons_zero]
  rw [hn,Int.toNat_natCast,List.getD_eq_getElem?_getD,List.getElem?_map]
  show aB p x ((Option.map SlotT.ty (aj p i).slots[k]?).getD ty0) = true
  rw [List.getElem?_eq_getElem h]
  exact h2
theorem tV {p : ProgT} {v : Val} {i : IdT} (ht : fU p i) (hk : (aj p i).kind = 0) : aB p v (ofT i) = true↔v.kind = 2/\v.n = 0/\∃ hl : v.kids.length = (aj p i).slots.length,∀ j (h : j < v.kids.length),aB p v.kids[j] ((aj p i).slots[j]'Q0).ty = true:=by
 rw [dI,if_neg (show ¬ (ofT i).kind = 0 from (by decide : ¬ (3 : Int) = 0)),if_neg (show ¬ (ofT i).kind = 1 from (by decide : ¬ (3 : Int) = 1)),if_neg (show ¬ (ofT i).kind = 2 from (by decide : ¬ (3 : Int) = 2)),if_neg (show ¬ (aj p (ofT i).df).kind = 1 by show ¬ (aj p i).kind = 1;omega)]
 simp only [okOf ht,decide_true,Bool.true_and,Bool.and_eq_true,decide_eq_true_eq,and_assoc]
 refine and_congr_right fun _=>and_congr_right fun _=>⟨fun ⟨hl,h⟩=>⟨hl,fun j hj=>?_⟩,fun ⟨hl,h⟩=>⟨hl,?_⟩⟩
 ·have hl' : v.kids.length = (aj p i).slots.length:=hl
  have:=(mU (by rw [List.length_map];exact hl)).1 h j hj (by rw [List.length_map];show j < (aj p i).slots.length;omega)
  rw [List.getElem_map] at this
  exact this
 ·refine (mU (by rw [List.length_map];exact hl)).2 fun j hj hj2=>?_
  have:=h j hj
  rw [List.getElem_map]
  exact this
def yJ (d : DefT) : TEnv:=(d.slots.map fun s=>(s.id,(0 : Int),s.ty)).reverse
structure TyP (p : ProgT) : Prop where
 body : ∀ d∈p.defs,¬ bare d->WTy p (yJ d) d.body d.result
 the : ∀ d∈p.defs,aj p d.id = d
 few : ∀ d∈p.defs,d.slots.length<=1000
def jh (p : ProgT) (t : Ty) (B : Nat) (s : Int) : EO->Prop
 | .ok v s'=>aB p v t = true/\v.size<=B/\s<=s'
 | .err k=>k = 18\/k = 4
 | .bad=>False
def Hq (p : ProgT) (ts : Nat->Ty) (n : Nat) (s : Int) : AE->Prop
 | .ok l s'=>l.length = n/\(∀ j (h : j < l.length),aB p l[j] (ts j) = true/\l[j].size<=256)/\s<=s'
 | .err k=>k = 18\/k = 4
 | .bad=>False
theorem jh.le {p : ProgT} {t : Ty} {B B' : Nat} {s s0 : Int} {r : EO} (h : jh p t B s r) (hB : B<=B') (hs : s0<=s) : jh p t B' s0 r:=by
 cases r with
 | ok v s'=>exact ⟨h.1,Nat.le_trans h.2.1 hB,Int.le_trans hs h.2.2⟩
 | err k=>exact h
 | bad=>exact h
theorem jh.bind {p : ProgT} {t u : Ty} {B C : Nat} {s s0 : Int} {r : EO} {k : Val->Int->EO} (h : jh p t B s r) (hk : ∀ v s',aB p v t = true->v.size<=B->s<=s'->jh p u C s0 (k v s')) : jh p u C s0 (r.bind k):=by
 cases r with
 | ok v s'=>exact hk v s' h.1 h.2.1 h.2.2
 | err k=>exact h
 | bad=>exact h.elim
theorem Hq.bind {p : ProgT} {ts : Nat->Ty} {n : Nat} {u : Ty} {C : Nat} {s s0 : Int} {r : AE} {k : List Val->Int->EO} (h : Hq p ts n s r) (hk : ∀ l s',l.length = n->(∀ j (h : j < l.length),aB p l[j] (ts j) = true/\l[j].size<=256)->s<=s'->jh p u C s0 (k l s')) : jh p u C s0 (r.bind k):=by
 cases r with
 | ok v s'=>exact hk v s' h.1 h.2.1 h.2.2
 | err k=>exact h
 | bad=>exact h.elim
theorem jh.chk {p : ProgT} {t : Ty} {s : Int} {v : Val} {s' : Int} (h : aB p v t = true) (hB : v.size<=1152921504606846976) (hs : s<=s') : jh p t 256 s (rF v s'):=by
 by_cases hc : 256 < v.size\/24 < v.depth
 ·rw [mq hB hc];exact .inr rfl
 ·rw [yc hc];exact ⟨h,Q0,hs⟩
theorem uO {p : ProgT} {g : Ex->Int->EO} {F : Int} {m : Nat} : ∀ {l : List Ex} {ts : Nat->Ty} {s : Int},(∀ j (h : j < l.length) s',s<=s'->jh p (ts j) 256 s' (g l[j] s'))->Hq p ts l.length s (eV g l s)
 | [],ts,s,_=>by rw [eV];exact ⟨rfl,fun j h=>absurd h (Nat.not_lt_zero _),Int.le_refl _⟩
 | e::es,ts,s,h=>by
  rw [eV]
  have h0:=h 0 Q2 s (Int.le_refl _)
  simp only [List.getElem_cons_zero] at h0
  cases he : g e s with
  | bad=>rw [he] at h0;exact h0.elim
  | err k=>rw [he] at h0;exact h0
  | ok v s1 =>
   rw [he] at h0
   have h1:=uO (F:=F) (m:=m) (l:=es) (ts:=fun j=>ts (j+1)) (s:=s1) fun j hj s' hs=>by
    have:=h (j+1) (by simpa using hj) s' (Int.le_trans h0.2.2 hs)
    simpa using this
   dsimp only
   cases ha : eV g es s1 with
   | bad=>rw [ha] at h1;exact h1.elim
   | err k=>rw [ha] at h1;exact h1
   | ok l s2 =>
    rw [ha] at h1
    refine ⟨by simp [h1.1],fun j hj=>?_,Int.le_trans h0.2.2 h1.2.2⟩
    cases j with
    | zero=>exact ⟨h0.1,h0.2.1⟩
    | succ j=>exact h1.2.1 j (by simpa using hj)
theorem cF {p : ProgT} (c : Prop) [Decidable c] : aB p (cQ c) tyL = true/\(cQ c).size = 1:=by
 unfold cQ
 split
 ·exact ⟨fits_bool.2 ⟨rfl,rfl,.inr rfl⟩,rfl⟩
 ·exact ⟨fits_bool.2 ⟨rfl,rfl,.inl rfl⟩,rfl⟩
theorem BV {a b : Int} (hb : InR b) : InR (iQ a b):=by
 by_cases h0 : b = 0
 ·unfold iQ;rw [if_pos h0];unfold InR;omega
 ·have:=Dc (a:=a) h0
  unfold InR at *
  omega
theorem B7 {p : ProgT} {n : Int} {u t : Ty} {x y : Val} (h : Fq n u t) (hx : aB p x u = true) (hy : aB p y u = true) (h1 : x.size<=256) (h2 : y.size<=256) : ∃ v,opV n [x,y] = some v/\aB p v t = true/\v.size<=1000:=by
 show ∃ v,fS n x y = some v/\_
 unfold fS
 rcases h with ⟨h0,h4,rfl,rfl⟩ | ⟨rfl,rfl,rfl⟩ | ⟨rfl,rfl⟩ | ⟨h,rfl,rfl⟩ | ⟨rfl,rfl,rfl⟩
 ·have hx:=(fits_int.1 hx).2.2
  have hy:=(fits_int.1 hy).2.2
  rw [if_pos Q0,if_pos ⟨hx,hy⟩]
  refine ⟨_,rfl,fits_int.2 ⟨rfl,rfl,?_⟩,by rw [Val.size_eq];show 1+0<=1000;omega⟩
  show InR (tw n x.n y.n)
  unfold tw
  split
  ·exact sj _
  ·split
   ·exact sj _
   ·split
    ·exact yG _ _
    ·split
     ·exact div_in hx
     ·exact BV hy
 ·rw [if_neg Q0,if_pos rfl]
  exact ⟨_,rfl,(cF _).1,by rw [(cF (p:=p) _).2];omega⟩
 ·rw [if_neg Q0,if_neg Q0,if_pos rfl]
  exact ⟨_,rfl,(cF _).1,by rw [(cF (p:=p) _).2];omega⟩
 ·rw [if_neg Q0,if_neg Q0,if_neg Q0]
  rcases h with rfl | rfl
  ·rw [if_pos rfl]
   exact ⟨_,rfl,(cF _).1,by rw [(cF (p:=p) _).2];omega⟩
  ·rw [if_neg Q0,if_pos rfl]
   exact ⟨_,rfl,(cF _).1,by rw [(cF (p:=p) _).2];omega⟩
 ·rw [if_neg Q0,if_neg Q0,if_neg Q0,if_neg Q0,if_neg Q0,if_pos rfl]
  refine ⟨_,rfl,iC.2 ⟨rfl,rfl,fun z hz=>?_⟩,?_⟩
  ·rcases List.mem_append.1 hz with hz | hz
   ·exact (iC.1 hx).2.2 z hz
   ·exact (iC.1 hy).2.2 z hz
  ·rw [Val.size_eq] at h1 h2 ⊢
   show 1+Val.sizes (x.kids++y.kids)<=1000
   rw [Val.dQ]
   omega
section
variable {p : ProgT} {g : Ex->Env->Int->EO} {i r : IdT} {n : Int} {t : Ty} {l : List Ex} {ns : List ByteArray} {env : Env} {s : Int}
theorem vF0 : bT p g (.mk i 0 n r t l ns) env s = .ok (.mk 0 n []) s:=rfl
theorem vF1 : bT p g (.mk i 1 n r t l ns) env s = .ok (cQ (n ≠ 0)) s:=rfl
theorem vF2 : bT p g (.mk i 2 n r t l ns) env s = .ok (cE env r n) s:=rfl
theorem vF3 : bT p g (.mk i 3 n r t l ns) env s = (jD (fun x s=>g x env s) l s).bind fun l s1=>(match cH (aj p r).slots l [] with
  | some env2=>g (aj p r).body env2 s1
  | none=>.bad):=rfl
theorem vF4 : bT p g (.mk i 4 n r t l ns) env s = (jD (fun x s=>g x env s) l s).bind fun l s1=>tj (opV n l) s1:=rfl
theorem vF7 : bT p g (.mk i 7 n r t l ns) env s = (jD (fun x s=>g x env s) l s).bind fun l s1=>.ok (.mk 2 0 l) s1:=rfl
theorem vF9 : bT p g (.mk i 9 n r t l ns) env s = (jD (fun x s=>g x env s) l s).bind fun l s1=>.ok (.mk 3 n l) s1:=rfl
theorem vF11 : bT p g (.mk i 11 n r t l ns) env s = (jD (fun x s=>g x env s) l s).bind fun l s1=>.ok (.mk 4 0 l) s1:=rfl
theorem vF5 {a b e : Ex} : bT p g (.mk i 5 n r t [a,b,e] ns) env s = (g a env s).bind fun v s1=>if v.n ≠ 0 then g b env s1 else g e env s1:=rfl
theorem vF6 {a b : Ex} : bT p g (.mk i 6 n r t [a,b] ns) env s = (g a env s).bind fun v s1=>g b ((i,0,v)::env) s1:=rfl
theorem vF8 {a : Ex} : bT p g (.mk i 8 n r t [a] ns) env s = (g a env s).bind fun v s1=>if 0<=n then tj v.kids[n.toNat]? s1 else .bad:=rfl
theorem vF10 {a : Ex} : bT p g (.mk i 10 n r t (a::l) ns) env s = (g a env s).bind fun v s1=>match v.kids[0]? with
  | some x=>if -4611686018427387904<=v.n/\v.n<=4611686018427387904 then lu g (a::l) (1+v.n) ((i,v.n,x)::env) s1 else .bad
  | none=>.bad:=rfl
theorem vF12 {a b e : Ex} : bT p g (.mk i 12 n r t [a,b,e] ns) env s = (g a env s).bind fun v s1=>(g b env s1).bind fun acc s2=>gh (fun x a s3=>g e ((i,1,a)::(i,0,x)::env) s3) v.kids acc s2:=rfl
end
theorem je {p : ProgT} {g : Ex->Int->EO} {l : List Ex} {ts : Nat->Ty} {s : Int} (hl : l.length<=1000) (h : ∀ j (h : j < l.length) s',s<=s'->jh p (ts j) 256 s' (g l[j] s')) : Hq p ts l.length s (jD g l s):=by
 unfold jD
 rw [if_neg Q0]
 exact uO (F:=0) (m:=0) h
theorem vz {l : List Val} (h : ∀ j (h : j < l.length),l[j].size<=256) : Val.sizes l<=256 * l.length:=by
 induction l with
 | nil=>simp [Val.sizes]
 | cons x xs ih =>
  have h0:=h 0 Q2
  have h1:=ih fun j hj=>by have:=h (j+1) (by simpa using hj);simpa using this
  simp only [List.getElem_cons_zero] at h0
  rw [Val.sizes,List.length_cons]
  omega
theorem cv : ∀ l : List Val,l.length<=Val.sizes l
 | []=>by simp
 | x::xs=>by have:=cv xs;have:=Val.size_pos x;rw [Val.sizes,List.length_cons];omega
theorem lZ {v x : Val} (h : x∈v.kids) : x.size<=v.size:=by
 have:=Val.bz h
 rw [Val.size_eq v]
 omega
theorem wQ {p : ProgT} : ∀ {ss : List SlotT} {al : List Val} {G : TEnv} {E : Env},al.length = ss.length->(∀ j (h : j < al.length) (h2 : j < ss.length),aB p al[j] ss[j].ty = true/\al[j].size<=256)->p5 p G E->∃ E2,cH ss al E = some E2/\p5 p ((ss.map fun s=>(s.id,(0 : Int),s.ty)).reverse++G) E2
 | [],[],G,E,_,_,h=>⟨E,rfl,h⟩
 | x::ss,a::al,G,E,hl,ha,h=>by
  have h0:=ha 0 Q2 Q2
  obtain ⟨E2,h1,h2⟩:=wQ (p:=p) (ss:=ss) (al:=al) (G:=(x.id,0,x.ty)::G) (E:=(x.id,0,a)::E) (by simpa using hl) (fun j hj hj2=>by have:=ha (j+1) (by simpa using hj) (by simpa using hj2);simpa using this) ⟨⟨rfl,rfl,h0.1,h0.2⟩,h⟩
  refine ⟨E2,h1,?_⟩
  simp only [List.map_cons,List.reverse_cons,List.append_assoc,List.singleton_append]
  exact h2
theorem sL {p : ProgT} {d : DefT} {al : List Val} (hl : al.length = d.slots.length) (ha : ∀ j (h : j < al.length),aB p al[j] (d.slots[j]'Q0).ty = true/\al[j].size<=256) : ∃ E,cH d.slots al [] = some E/\p5 p (yJ d) E:=by
 obtain ⟨E,h1,h2⟩:=wQ (p:=p) (ss:=d.slots) (al:=al) (G:=[]) (E:=[]) hl (fun j h _=>ha j h) trivial
 rw [List.append_nil] at h2
 exact ⟨E,h1,h2⟩
theorem we {p : ProgT} {g : Val->Val->Int->EO} {t : Ty} : ∀ {l : List Val} {acc : Val} {s : Int},aB p acc t = true->acc.size<=256->(∀ x∈l,∀ a s',s<=s'->aB p a t = true->a.size<=256->jh p t 256 s' (g x a s'))->jh p t 256 s (gh g l acc s)
 | [],acc,s,h1,h2,_=>by rw [gh];exact ⟨h1,h2,Int.le_refl _⟩
 | x::xs,acc,s,h1,h2,h=>by
  rw [gh]
  exact (h x (List.mem_cons_self ..) acc s (Int.le_refl _) h1 h2).bind fun v s' k1 k2 k3=>(we k1 k2 fun y hy a s2 hs=>h y (List.mem_cons_of_mem _ hy) a s2 (Int.le_trans k3 hs)).le (Nat.le_refl _) k3
theorem sy {p : ProgT} (hp : TyP p) {g : Ex->Env->Int->EO} {s : Int} (ih : ∀ {e : Ex} {G : TEnv} {E : Env} {t : Ty} {s' : Int},WTy p G e t->p5 p G E->s<=s'->jh p t 256 s' (g e E s')) {e : Ex} {G : TEnv} {E : Env} {t : Ty} (h : WTy p G e t) (hE : p5 p G E) : jh p t 1000000 s (bT p g e E s):=by
 have tyd : ∀ {d : DefT},d∈p.defs->d.kind = 0\/d.kind = 1->fU p d.id:=fun {d} hd hk=>⟨⟨d,hd,rfl⟩,by rw [hp.the d hd];exact hk⟩
 cases h with
 | int hn=>rw [vF0];exact ⟨fits_int.2 ⟨rfl,rfl,hn⟩,by rw [Val.size_eq];show 1+0<=_;omega,Int.le_refl _⟩
 | bool hn=>rw [vF1];exact ⟨(cF _).1,by rw [(cF (p:=p) _).2];omega,Int.le_refl _⟩
 | var hl=>rw [vF2];have:=hE.find hl;exact ⟨this.1,Q0,Int.le_refl _⟩
 | list hl hk =>
  rw [vF11]
  refine (je Q0 fun j hj s' hs=>ih (hk j hj) hE hs).bind fun l s' h1 h2 hs=>⟨iC.2 ⟨rfl,rfl,fun x hx=>?_⟩,?_,hs⟩
  ·obtain ⟨j,hj,rfl⟩:=List.mem_iff_getElem.1 hx
   exact (h2 j hj).1
  ·have:=vz fun j hj=>(h2 j hj).2
   rw [Val.size_eq];show 1+Val.sizes l<=_;omega
 | @kase _ _ _ _ d k a hd hk hlt ha =>
  rw [vF9]
  refine (je (l:=[a]) (ts:=fun _=>d.slots[k].ty) Q2 fun j hj s' hs=>?_).bind fun l s' h1 h2 hs=>?_
  ·simp only [List.length_singleton] at hj
   obtain rfl : j = 0:=Q0
   exact ih ha hE hs
  ·obtain ⟨x,rfl⟩:=List.length_eq_one_iff.1 h1
   have h0:=h2 0 Q2
   have htd:=tyd hd (.inr hk)
   have hth:=hp.the d hd
   refine ⟨(qx htd (by rw [hth];exact hk)).2 ⟨rfl,k,by rw [hth];exact hlt,rfl,x,rfl,?_⟩,?_,hs⟩
   ·simp only [hth];exact h0.1
   ·rw [Val.size_eq];show 1+(x.size+0)<=_;have:=h0.2;simp only [List.getElem_cons_zero] at this;omega
 | @recd _ _ _ _ _ d kids hd hk hl hm =>
  rw [vF7]
  have hf:=hp.few d hd
  refine (je (ts:=fun j=>(d.slots.getD j default).ty) Q0 fun j hj s' hs=>?_).bind fun l s' h1 h2 hs=>?_
  ·rw [List.getD_eq_getElem?_getD,List.getElem?_eq_getElem (show j < d.slots.length by omega)]
   exact ih (hm j hj) hE hs
  ·have htd:=tyd hd (.inl hk)
   have hth:=hp.the d hd
   refine ⟨(tV htd (by rw [hth];exact hk)).2 ⟨rfl,rfl,by rw [hth];show l.length = _;omega,fun j hj=>?_⟩,?_,hs⟩
   ·have:=(h2 j hj).1
    rw [List.getD_eq_getElem?_getD,List.getElem?_eq_getElem (show j < d.slots.length by have : j < l.length:=hj;omega)] at this
    simp only [hth]
    exact this
   ·have:=vz fun j hj=>(h2 j hj).2
    rw [Val.size_eq];show 1+Val.sizes l<=_;omega
 | @len _ _ _ _ _ a ha =>
  rw [vF4]
  refine (je (l:=[a]) (ts:=fun _=>bE ty0) Q2 fun j hj s' hs=>?_).bind fun l s' h1 h2 hs=>?_
  ·simp only [List.length_singleton] at hj
   obtain rfl : j = 0:=Q0
   exact ih ha hE hs
  ·obtain ⟨x,rfl⟩:=List.length_eq_one_iff.1 h1
   have h0:=h2 0 Q2
   refine ⟨fits_int.2 ⟨rfl,rfl,?_⟩,by rw [Val.size_eq];show 1+0<=_;omega,hs⟩
   have hx : x.size<=256:=h0.2
   have : x.kids.length<=Val.sizes x.kids:=cv _
   rw [Val.size_eq] at hx
   show InR (x.kids.length : Int)
   unfold InR;omega
 | @not _ _ _ _ _ a ha =>
  rw [vF4]
  refine (je (l:=[a]) (ts:=fun _=>tyL) Q2 fun j hj s' hs=>?_).bind fun l s' h1 h2 hs=>?_
  ·simp only [List.length_singleton] at hj
   obtain rfl : j = 0:=Q0
   exact ih ha hE hs
  ·obtain ⟨x,rfl⟩:=List.length_eq_one_iff.1 h1
   exact ⟨(cF _).1,by show (cQ _).size<=_;rw [(cF (p:=p) _).2];omega,hs⟩
 | @both _ _ _ _ _ u _ _ a b ho ha hb =>
  rw [vF4]
  refine (je (l:=[a,b]) (ts:=fun _=>u) Q2 fun j hj s' hs=>?_).bind fun l s' h1 h2 hs=>?_
  ·match j,hj with
   | 0,_=>exact ih ha hE hs
   | 1,_=>exact ih hb hE hs
  ·obtain ⟨x,y,rfl⟩ : ∃ x y,l = [x,y]:=by
    match l,h1 with
    | [x,y],_=>exact ⟨x,y,rfl⟩
   have h0:=h2 0 Q2
   have h1:=h2 1 Q2
   obtain ⟨v,k1,k2,k3⟩:=B7 (x:=x) (y:=y) ho h0.1 h1.1 h0.2 h1.2
   rw [k1]
   exact ⟨k2,Q0,hs⟩
 | ife ha hb he =>
  rw [vF5]
  refine (ih ha hE (Int.le_refl _)).bind fun v s' _ _ hs=>?_
  split
  ·exact (ih hb hE hs).le Q0 hs
  ·exact (ih he hE hs).le Q0 hs
 | lete ha hb =>
  rw [vF6]
  refine (ih ha hE (Int.le_refl _)).bind fun v s' h1 h2 hs=>(ih (E:=(_,0,v)::E) hb ⟨⟨rfl,rfl,h1,h2⟩,hE⟩ hs).le Q0 hs
 | fold ha hb he =>
  rw [vF12]
  refine (ih ha hE (Int.le_refl _)).bind fun v s' h1 h2 hs=>(ih hb hE hs).bind fun acc s2 k1 k2 k3=>?_
  have hs2:=Int.le_trans hs k3
  refine (we k1 k2 fun x hx a s3 h3 h4 h5=>?_).le Q0 hs2
  have hxs:=lZ hx
  exact ih (E:=(_,1,a)::(_,0,x)::E) he ⟨⟨rfl,rfl,h4,h5⟩,⟨rfl,rfl,(iC.1 h1).2.2 x hx,Nat.le_trans hxs h2⟩,hE⟩ Q0
 | @mat _ _ _ _ _ _ _ d a kids hd hk hl ha hm =>
  rw [vF10]
  refine (ih ha hE (Int.le_refl _)).bind fun v s' h1 h2 hs=>?_
  have hth:=hp.the d hd
  obtain ⟨_,k,hlt,hn,x,hx,hf⟩:=(qx (tyd hd (.inr hk)) (by rw [hth];exact hk)).1 h1
  have hf':=hp.few d hd
  simp only [hth] at hlt hf
  have hk' : k < kids.length:=Q0
  rw [hx]
  dsimp only [List.getElem?_cons_zero]
  rw [hn,if_pos Q0,lu,if_pos Q0,show (1+(k : Int)).toNat = k+1 by omega,List.getElem?_cons_succ,List.getElem?_eq_getElem hk']
  have hxs:=lZ (v:=v) (x:=x) (by rw [hx];simp)
  exact (ih (E:=(_,(k : Int),x)::E) (hm k hk') ⟨⟨rfl,rfl,hf,Nat.le_trans hxs h2⟩,hE⟩ hs).le Q0 hs
 | @field _ _ _ _ _ d j a hd hk hlt ha =>
  rw [vF8]
  refine (ih ha hE (Int.le_refl _)).bind fun v s' h1 h2 hs=>?_
  have hth:=hp.the d hd
  obtain ⟨_,_,hl,hf⟩:=(tV (tyd hd (.inl hk)) (by rw [hth];exact hk)).1 h1
  simp only [hth] at hl hf
  rw [if_pos Q0,Int.toNat_natCast,List.getElem?_eq_getElem Q0]
  have:=lZ (v:=v) (x:=v.kids[j]'Q0) (List.getElem_mem _)
  exact ⟨hf j Q0,Q0,hs⟩
 | @call _ _ _ _ _ d kids hd hb hl hm =>
  rw [vF3]
  have hf:=hp.few d hd
  refine (je (ts:=fun j=>(d.slots.getD j default).ty) Q0 fun j hj s' hs=>?_).bind fun l s' h1 h2 hs=>?_
  ·rw [List.getD_eq_getElem?_getD,List.getElem?_eq_getElem (show j < d.slots.length by omega)]
   exact ih (hm j hj) hE hs
  ·rw [hp.the d hd]
   obtain ⟨E2,h3,h4⟩:=sL (p:=p) (d:=d) (al:=l) Q0 fun j hj=>by
    have:=h2 j hj
    rw [List.getD_eq_getElem?_getD,List.getElem?_eq_getElem (show j < d.slots.length by omega)] at this
    exact this
   rw [h3]
   exact (ih (hp.body d hd hb) h4 hs).le Q0 hs
theorem mX {p : ProgT} (hp : TyP p) {F : Int} : ∀ (g : Nat) {e : Ex} {G : TEnv} {E : Env} {t : Ty} {s : Int},WTy p G e t->p5 p G E->F<=s+g->jh p t 256 s (aK p F g e E s)
 | 0,e,G,E,t,s,_,_,h=>by rw [aK,if_pos Q0];exact .inl rfl
 | g+1,e,G,E,t,s,hw,hE,h=>by
  rw [aK]
  split
  ·exact .inl rfl
  ·exact (sy hp (s:=s+1) (fun hw hE hs=>mX hp g hw hE Q0) hw hE).bind fun v s' h1 h2 hs=>jh.chk h1 Q0 Q0
def Rng (a b : Int) (l : List Int) : Prop:=l.Nodup/\∀ x∈l,a<=x/\x < b
theorem Rng.nil {a b : Int} : Rng a b []:=⟨List.nodup_nil,fun x h=>by simp at h⟩
theorem Rng.app {a b c : Int} {l m : List Int} (h : Rng a b l) (k : Rng b c m) (h1 : a<=b) (h2 : b<=c) : Rng a c (l++m):=by
 refine ⟨List.nodup_append.2 ⟨h.1,k.1,fun x hx y hy e=>?_⟩,fun x hx=>?_⟩
 ·have:=h.2 x hx;have:=k.2 y hy;omega
 ·rcases List.mem_append.1 hx with hx | hx
  ·have:=h.2 x hx;omega
  ·have:=k.2 x hx;omega
theorem Rng.one {a : Int} : Rng a (a+1) [a]:=⟨Q2,fun x h=>by simp at h;omega⟩
theorem Rng.mono {a b c d : Int} {l : List Int} (h : Rng b c l) (h1 : a<=b) (h2 : c<=d) : Rng a d l:=⟨h.1,fun x hx=>by have:=h.2 x hx;omega⟩
theorem vJ {Ts : Nat->Int} : ∀ (l : List Ex) (k : Nat),(∀ i (h : i < l.length),Rng (Ts (k+i)) (Ts (k+i+1)) l[i].post/\Ts (k+i) < Ts (k+i+1))->Rng (Ts k) (Ts (k+l.length)) (Ex.cZ l)/\Ts k<=Ts (k+l.length)
 | [],k,_=>by rw [Ex.cZ];exact ⟨Rng.nil,Q2⟩
 | e::es,k,h=>by
  have h0:=h 0 Q2
  have h1:=vJ es (k+1) fun i hi=>by
   have:=h (i+1) (by simpa using hi)
   rw [show k+1+i = k+(i+1) by omega]
   simpa using this
  simp only [List.getElem_cons_zero,Nat.add_zero] at h0
  rw [Ex.cZ,List.length_cons,show k+(es.length+1) = k+1+es.length by omega]
  exact ⟨h0.1.app h1.1 Q0 h1.2,Q0⟩
theorem Mk.cZ {c : MkC} {t : Ty} {env : List Bnd} {T T' : Int} {e : Ex} (h : Mk c t env T e T') : Rng T T' e.post:=by
 have row : ∀ {l : List Ex} {Ts : Nat->Int},(∀ i (h : i < l.length),Rng (Ts i) (Ts (i+1)) l[i].post/\Ts i < Ts (i+1))->Rng (Ts 0) (Ts l.length) (Ex.cZ l)/\Ts 0<=Ts l.length:=fun {l Ts} h=>by
  have:=vJ (Ts:=Ts) l 0 fun i hi=>by rw [Nat.zero_add];exact h i hi
  rwa [Nat.zero_add] at this
 induction h with
 | int _=>exact Rng.one
 | bool _=>exact Rng.one
 | var _=>exact Rng.one
 | @list env T kids Ts _ h0 hm ih =>
  have:=row fun i hi=>⟨ih i hi,(hm i hi).lt⟩
  rw [Ex.dR,<-h0]
  exact this.1.app Rng.one this.2 Q0
 | @kase env T T1 d k e _ _ _ hm ih =>
  rw [Ex.dR]
  have:=hm.lt
  show Rng _ _ (e.post++[]++[T1])
  rw [List.append_nil]
  exact ih.app Rng.one Q0 Q0
 | @recd env T d kids _ _ Ts _ h0 hm ih =>
  have:=row fun i hi=>⟨ih i hi,(hm i hi).lt⟩
  rw [Ex.dR,<-h0]
  exact this.1.app Rng.one this.2 Q0
 | @len env T T1 a hm ih =>
  rw [Ex.dR]
  have:=hm.lt
  show Rng _ _ (a.post++[]++[T1])
  rw [List.append_nil]
  exact ih.app Rng.one Q0 Q0
 | @not env T T1 a hm ih =>
  rw [Ex.dR]
  have:=hm.lt
  show Rng _ _ (a.post++[]++[T1])
  rw [List.append_nil]
  exact ih.app Rng.one Q0 Q0
 | @both t u env T T1 T2 n a b _ ha hb ih1 ih2 =>
  rw [Ex.dR]
  have:=ha.lt
  have:=hb.lt
  show Rng _ _ (a.post++(b.post++[])++[T2])
  rw [List.append_nil]
  exact (ih1.app ih2 Q0 Q0).app Rng.one Q0 Q0
 | @ife t env T T1 T2 T3 a b e ha hb he ih1 ih2 ih3 =>
  rw [Ex.dR]
  have:=ha.lt
  have:=hb.lt
  have:=he.lt
  show Rng _ _ (a.post++(b.post++(e.post++[]))++[T3])
  rw [List.append_nil]
  exact (ih1.app (ih2.app ih3 Q0 Q0) Q0 Q0).app Rng.one Q0 Q0
 | @lete t u env T T1 T2 a b m ha hb ih1 ih2 =>
  rw [Ex.dR]
  have:=ha.lt
  have:=hb.lt
  show Rng _ _ (a.post++(b.post++[])++[T1])
  rw [List.append_nil]
  refine ⟨List.nodup_append.2 ⟨(ih1.app (ih2.mono (show T1<=T1+1 by omega) (Int.le_refl _)) Q0 Q0).1,Q2,fun x hx y hy e=>?_⟩,fun x hx=>?_⟩
  ·simp only [List.mem_singleton] at hy
   rcases List.mem_append.1 hx with hx | hx
   ·have:=ih1.2 x hx;omega
   ·have:=ih2.2 x hx;omega
  ·rcases List.mem_append.1 hx with hx | hx
   ·rcases List.mem_append.1 hx with hx | hx
    ·have:=ih1.2 x hx;omega
    ·have:=ih2.2 x hx;omega
   ·simp only [List.mem_singleton] at hx;omega
 | @fold t env T T1 T2 T3 a b e m m2 ha hb he ih1 ih2 ih3 =>
  rw [Ex.dR]
  have:=ha.lt
  have:=hb.lt
  have:=he.lt
  show Rng _ _ (a.post++(b.post++(e.post++[]))++[T2])
  rw [List.append_nil]
  refine ⟨List.nodup_append.2 ⟨(ih1.app (ih2.app (ih3.mono (show T2<=T2+1 by omega) (Int.le_refl _)) Q0 Q0) Q0 Q0).1,Q2,fun x hx y hy e=>?_⟩,fun x hx=>?_⟩
  ·simp only [List.mem_singleton] at hy
   rcases List.mem_append.1 hx with hx | hx
   ·have:=ih1.2 x hx;omega
   ·rcases List.mem_append.1 hx with hx | hx
    ·have:=ih2.2 x hx;omega
    ·have:=ih3.2 x hx;omega
  ·rcases List.mem_append.1 hx with hx | hx
   ·rcases List.mem_append.1 hx with hx | hx
    ·have:=ih1.2 x hx;omega
    ·rcases List.mem_append.1 hx with hx | hx
     ·have:=ih2.2 x hx;omega
     ·have:=ih3.2 x hx;omega
   ·simp only [List.mem_singleton] at hx;omega
 | @mat t env T T1 d a kids ms _ _ Ts _ _ ha h0 hm ih1 ih =>
  rw [Ex.dR]
  have hr:=row fun i hi=>⟨ih i hi,(hm i hi).lt⟩
  rw [h0] at hr
  have:=ha.lt
  show Rng _ _ (a.post++Ex.cZ kids++[T1])
  refine ⟨List.nodup_append.2 ⟨(ih1.app (hr.1.mono (show T1<=T1+1 by omega) (Int.le_refl _)) Q0 Q0).1,Q2,fun x hx y hy e=>?_⟩,fun x hx=>?_⟩
  ·simp only [List.mem_singleton] at hy
   rcases List.mem_append.1 hx with hx | hx
   ·have:=ih1.2 x hx;omega
   ·have:=hr.1.2 x hx;omega
  ·rcases List.mem_append.1 hx with hx | hx
   ·rcases List.mem_append.1 hx with hx | hx
    ·have:=ih1.2 x hx;omega
    ·have:=hr.1.2 x hx;omega
   ·simp only [List.mem_singleton] at hx;omega
 | @field env T T1 d j a _ _ _ hm ih =>
  rw [Ex.dR]
  have:=hm.lt
  show Rng _ _ (a.post++[]++[T1])
  rw [List.append_nil]
  exact ih.app Rng.one Q0 Q0
 | @call env T k kids _ _ _ Ts _ h0 hm ih =>
  have:=row fun i hi=>⟨ih i hi,(hm i hi).lt⟩
  rw [Ex.dR,<-h0]
  exact this.1.app Rng.one this.2 Q0
theorem oS : ∀ {ks : List Int} {ids : List IdT} {nx x : Int},0<=x->(∀ k∈ks,0<=k)->x ∉ ks->gP (bA ids ks nx) x = gP ids x
 | [],ids,nx,x,_,_,_=>by rw [bA]
 | k::ks,ids,nx,x,h0,hk,hx=>by
  have hk0:=hk k (List.mem_cons_self ..)
  have hne : x ≠ k:=fun e=>hx (by rw [e];exact List.mem_cons_self ..)
  rw [bA,oS h0 (fun j hj=>hk j (List.mem_cons_of_mem _ hj)) (fun h=>hx (List.mem_cons_of_mem _ h))]
  unfold gP
  rw [List.getD_eq_getElem?_getD,List.getD_eq_getElem?_getD,List.getElem?_set_ne Q0]
theorem kj : ∀ {ks : List Int} {ids : List IdT} {nx : Int},(∀ k∈ks,0<=k/\k < ids.length)->ks.Nodup->∀ j (h : j < ks.length),gP (bA ids ks nx) ks[j] = idK (nx+j)
 | k::ks,ids,nx,hk,hn,0,_=>by
  have hk0:=hk k (List.mem_cons_self ..)
  have hn:=List.nodup_cons.1 hn
  rw [List.getElem_cons_zero,bA,oS hk0.1 (fun j hj=>(hk j (List.mem_cons_of_mem _ hj)).1) hn.1]
  unfold gP
  rw [List.getD_eq_getElem?_getD,List.getElem?_set_self Q0]
  simp
 | k::ks,ids,nx,hk,hn,j+1,h=>by
  have hn:=List.nodup_cons.1 hn
  rw [List.getElem_cons_succ,bA,kj (fun i hi=>by rw [List.length_set];exact hk i (List.mem_cons_of_mem _ hi)) hn.2 j (by simpa using h)]
  congr 1
  push_cast
  omega
theorem AA {ks : List Int} {ids : List IdT} {nx : Int} (hk : ∀ k∈ks,0<=k/\k < ids.length) (hn : ks.Nodup) (h0 : 0<=nx) {x y : Int} (hx : x∈ks) (hy : y∈ks) (h : gP (bA ids ks nx) x = gP (bA ids ks nx) y) : x = y:=by
 obtain ⟨i,hi,rfl⟩:=List.mem_iff_getElem.1 hx
 obtain ⟨j,hj,rfl⟩:=List.mem_iff_getElem.1 hy
 rw [kj hk hn i hi,kj hk hn j hj] at h
 have : i = j:=by
  by_cases e : (nx+i : Int) = nx+j
  ·omega
  ·exact absurd h (qo Q0 Q0 e)
 subst this
 rfl
def sg (ids : List IdT) (i : IdT) : IdT:=if i.seq = 0 then gP ids i.index else i
def gOf (ids : List IdT) (env : List Bnd) : TEnv:=(env.map fun b=>(sg ids b.id,b.n,b.ty)).reverse
theorem pz (ids : List IdT) (env : List Bnd) (b : Bnd) : gOf ids (env++[b]) = (sg ids b.id,b.n,b.ty)::gOf ids env:=by unfold gOf;simp
structure Nm (ids : List IdT) (S : List Int) (Q : IdT->Prop) : Prop where
 inj : ∀ x y,x∈S->y∈S->gP ids x = gP ids y->x = y
 sep : ∀ x∈S,∀ q,Q q->q ≠ gP ids x
structure EnvI (ids : List IdT) (S : List Int) (Q : IdT->Prop) (env : List Bnd) (T : Int) : Prop where
 is : ∀ b∈env,(b.id.seq = 0/\b.id.index∈S/\b.id.index < T)\/(b.id.seq ≠ 0/\Q b.id)
 look : ∀ b∈env,nA (gOf ids env) (sg ids b.id) b.n = some b.ty
variable {ids : List IdT} {S : List Int} {Q : IdT->Prop} {env : List Bnd} {T T1 : Int}
theorem EnvI.mono (h : EnvI ids S Q env T) (hT : T<=T1) : EnvI ids S Q env T1:=⟨fun b hb=>(h.is b hb).imp (fun k=>⟨k.1,k.2.1,Q0⟩) id,h.look⟩
theorem EnvI.fresh (h : EnvI ids S Q env T) (hn : Nm ids S Q) (hT : T<=T1) (hS : T1∈S) : ∀ b∈env,sg ids b.id ≠ gP ids T1:=fun b hb e=>by
 unfold sg at e
 rcases h.is b hb with ⟨h1,h2,h3⟩ | ⟨h1,h2⟩
 ·rw [if_pos h1] at e
  have:=hn.inj _ _ h2 hS e
  omega
 ·rw [if_neg h1] at e
  exact hn.sep _ hS _ h2 e
theorem EnvI.add (h : EnvI ids S Q env T) {k : Int} {u : Ty} {T2 : Int} (hT : T<=T2) (hS : T1∈S) (h2 : T1 < T2) (hne : ∀ b∈env,¬ (sg ids b.id = gP ids T1/\b.n = k)) : EnvI ids S Q (env++[⟨⟨0,0,T1⟩,k,u⟩]) T2:=by
 refine ⟨fun b hb=>?_,fun b hb=>?_⟩
 ·rcases List.mem_append.1 hb with hb | hb
  ·exact (h.mono hT).is b hb
  ·simp only [List.mem_singleton] at hb
   subst hb
   exact .inl ⟨rfl,hS,h2⟩
 ·rw [pz]
  have e : sg ids (⟨⟨0,0,T1⟩,k,u⟩ : Bnd).id = gP ids T1:=rfl
  rcases List.mem_append.1 hb with hb | hb
  ·unfold nA
   have hc : ¬ (sg ids (⟨⟨0,0,T1⟩,k,u⟩ : Bnd).id = sg ids b.id/\k = b.n):=fun hc=>hne b hb ⟨hc.1.symm.trans e,hc.2.symm⟩
   rw [List.find?_cons,decide_eq_false hc]
   exact h.look b hb
  ·simp only [List.mem_singleton] at hb
   subst hb
   unfold nA
   rw [List.find?_cons,decide_eq_true ⟨rfl,rfl⟩]
   rfl
end Xe

namespace Xe
open Go
theorem sW {ids : List IdT} {k : Int} {r : IdT} (h : k ≠ 2) : jl ids k r = r:=by unfold jl;rw [if_neg (fun c=>h c.1)]
theorem De (ids : List IdT) (r : IdT) : jl ids 2 r = sg ids r:=by
 unfold jl sg
 by_cases h : r.seq = 0
 ·rw [if_pos ⟨rfl,h⟩,if_pos h]
 ·rw [if_neg (fun c=>h c.2),if_neg h]
theorem fz (ids : List IdT) (i : IdT) (k n : Int) (r : IdT) (t : Ty) (l : List Ex) (s : List ByteArray) : eS ids (.mk i k n r t l s) = .mk (gP ids i.index) k n (jl ids k r) t (l.map (eS ids)) s:=by rw [eS,sV]
theorem vK : ∀ {l : List Ex} {e : Ex} {x : Int},e∈l->x∈e.post->x∈Ex.cZ l
 | a::l,e,x,he,hx=>by
  rw [Ex.cZ]
  rcases List.mem_cons.1 he with rfl | he
  ·exact List.mem_append_left _ hx
  ·exact List.mem_append_right _ (vK he hx)
theorem bZ {e k : Ex} {x : Int} (hk : k∈e.kids) (hx : x∈k.post) : x∈e.post:=by rw [Ex.dR];exact List.mem_append_left _ (vK hk hx)
theorem th (e : Ex) : e.id.index∈e.post:=by rw [Ex.dR];simp
theorem lX {a : List DefT} {p : ProgT} (hl : dN a p.defs) {d : DefT} (hd : d∈a) : ∃ d'∈p.defs,d.id = d'.id/\d.kind = d'.kind/\d.slots = d'.slots/\d.result = d'.result:=by
 obtain ⟨e,he,hs⟩:=hl.mem hd
 have:=cT hs
 exact ⟨e,he,this.1,this.2.1,this.2.2.2.2.1,this.2.2.2.2.2.1⟩
theorem Mk.wty {c : MkC} {p : ProgT} (hl : dN c.p.defs p.defs) {ids : List IdT} {S : List Int} {Q : IdT->Prop} (hn : Nm ids S Q) {t : Ty} {env : List Bnd} {T T' : Int} {e : Ex} (h : Mk c t env T e T') : (∀ x∈e.post,x∈S)->EnvI ids S Q env T->WTy p (gOf ids env) (eS ids e) t:=by
 induction h with
 | int hi=>intro _ _;rw [cU,fz];exact WTy.int hi
 | bool hi=>intro _ _;rw [cU,fz];exact WTy.bool hi
 | @var env T b hb=>intro _ hE;show WTy _ _ (eS ids (.mk _ 2 _ _ _ [] _)) _;rw [fz,De];exact WTy.var (hE.look b hb)
 | @list env T kids Ts hk h0 hm ih =>
  intro hS hE
  show WTy _ _ (eS ids (.mk _ 11 _ _ _ kids _)) _
  rw [fz]
  refine WTy.list (by simpa using hk) fun j hj=>?_
  rw [List.length_map] at hj
  rw [List.getElem_map]
  refine ih j hj (fun x hx=>hS x (bZ (e:=.mk _ 11 _ _ _ kids _) (List.getElem_mem hj) hx)) (hE.mono ?_)
  ·rw [<-h0];exact (dj (Ts:=Ts) _ (fun i hi=>(hm i hi).lt) j Q0).1
 | @kase env T T1 d k e hd hk hlt hm ih =>
  intro hS hE
  obtain ⟨d',hd',e1,e2,e3,e4⟩:=lX hl hd
  show WTy _ _ (eS ids (.mk _ 9 _ _ _ [e] _)) _
  rw [fz,sW Q1,e1]
  refine WTy.kase hd' Q0 (by rw [<-e3];exact hlt) ?_
  simp only [<-e3]
  exact ih (fun x hx=>hS x (bZ (k:=e) (List.mem_cons_self ..) hx)) hE
 | @recd env T d kids hd hk Ts hkl h0 hm ih =>
  intro hS hE
  obtain ⟨d',hd',e1,e2,e3,e4⟩:=lX hl hd
  show WTy _ _ (eS ids (.mk _ 7 _ _ _ kids _)) _
  rw [fz,sW Q1,e1]
  refine WTy.recd hd' Q0 (by rw [List.length_map,<-e3];exact hkl) fun j hj=>?_
  rw [List.length_map] at hj
  rw [List.getElem_map]
  simp only [<-e3]
  refine ih j hj (fun x hx=>hS x (bZ (e:=.mk _ 7 _ _ _ kids _) (List.getElem_mem hj) hx)) (hE.mono ?_)
  rw [<-h0];exact (dj (Ts:=Ts) _ (fun i hi=>(hm i hi).lt) j Q0).1
 | @len env T T1 a hm ih =>
  intro hS hE
  show WTy _ _ (eS ids (.mk _ 4 _ _ _ [a] _)) _
  rw [fz]
  exact WTy.len (ih (fun x hx=>hS x (bZ (k:=a) (List.mem_cons_self ..) hx)) hE)
 | @not env T T1 a hm ih =>
  intro hS hE
  show WTy _ _ (eS ids (.mk _ 4 _ _ _ [a] _)) _
  rw [fz]
  exact WTy.not (ih (fun x hx=>hS x (bZ (k:=a) (List.mem_cons_self ..) hx)) hE)
 | @both t u env T T1 T2 n a b ho ha hb ih1 ih2 =>
  intro hS hE
  show WTy _ _ (eS ids (.mk _ 4 _ _ _ [a,b] _)) _
  rw [fz]
  exact WTy.both ho (ih1 (fun x hx=>hS x (bZ (k:=a) (by simp [cU,Ex.kids]) hx)) hE) (ih2 (fun x hx=>hS x (bZ (k:=b) (by simp [cU,Ex.kids]) hx)) (hE.mono (by have:=ha.lt;omega)))
 | @ife t env T T1 T2 T3 a b e ha hb he ih1 ih2 ih3 =>
  intro hS hE
  have:=ha.lt
  have:=hb.lt
  show WTy _ _ (eS ids (.mk _ 5 _ _ _ [a,b,e] _)) _
  rw [fz]
  exact WTy.ife (ih1 (fun x hx=>hS x (bZ (k:=a) (by simp [cU,Ex.kids]) hx)) hE) (ih2 (fun x hx=>hS x (bZ (k:=b) (by simp [cU,Ex.kids]) hx)) (hE.mono Q0)) (ih3 (fun x hx=>hS x (bZ (k:=e) (by simp [cU,Ex.kids]) hx)) (hE.mono Q0))
 | @lete t u env T T1 T2 a b m ha hb ih1 ih2 =>
  intro hS hE
  have:=ha.lt
  have hT1 : T1∈S:=hS T1 (th ((cU 6 0 [] T1).cX [a,b] [m]))
  show WTy _ _ (eS ids (.mk ⟨0,0,T1⟩ 6 _ _ _ [a,b] _)) _
  rw [fz]
  have h2:=ih2 (fun x hx=>hS x (bZ (k:=b) (by simp [cU,Ex.cX,Ex.kids]) hx)) (hE.add Q0 hT1 Q0 fun b hb hc=>hE.fresh hn Q0 hT1 b hb hc.1)
  rw [pz] at h2
  exact WTy.lete (ih1 (fun x hx=>hS x (bZ (k:=a) (by simp [cU,Ex.cX,Ex.kids]) hx)) hE) h2
 | @fold t env T T1 T2 T3 a b e m m2 ha hb he ih1 ih2 ih3 =>
  intro hS hE
  have:=ha.lt
  have:=hb.lt
  have hT2 : T2∈S:=hS T2 (th ((cU 12 0 [] T2).cX [a,b,e] [m,m2]))
  show WTy _ _ (eS ids (.mk ⟨0,0,T2⟩ 12 _ _ _ [a,b,e] _)) _
  rw [fz]
  have hf:=hE.fresh hn (show T<=T2 by omega) hT2
  have hE1:=hE.add (k:=0) (u:=ty0) (show T<=T2+1 by omega) hT2 Q0 fun b hb hc=>hf b hb hc.1
  have hE2:=hE1.add (k:=1) (u:=t) (show T2+1<=T2+1 by omega) hT2 Q0 fun b hb hc=>by
   rcases List.mem_append.1 hb with hb | hb
   ·exact hf b hb hc.1
   ·simp only [List.mem_singleton] at hb
    subst hb
    exact absurd hc.2 (show ¬ (0 : Int) = 1 by decide)
  have h3:=ih3 (fun x hx=>hS x (bZ (k:=e) (by simp [cU,Ex.cX,Ex.kids]) hx)) hE2
  rw [pz,pz] at h3
  exact WTy.fold (ih1 (fun x hx=>hS x (bZ (k:=a) (by simp [cU,Ex.cX,Ex.kids]) hx)) hE) (ih2 (fun x hx=>hS x (bZ (k:=b) (by simp [cU,Ex.cX,Ex.kids]) hx)) (hE.mono Q0)) h3
 | @mat t env T T1 d a kids ms hd hk Ts hkl hml ha h0 hm ih1 ih =>
  intro hS hE
  obtain ⟨d',hd',e1,e2,e3,e4⟩:=lX hl hd
  have:=ha.lt
  have hT1 : T1∈S:=hS T1 (th (((cU 10 0 [] T1).setRef d.id).cX (a::kids) ms))
  show WTy _ _ (eS ids (.mk ⟨0,0,T1⟩ 10 _ _ _ (a::kids) _)) _
  rw [fz,List.map_cons]
  refine WTy.mat hd' Q0 (by rw [List.length_map,<-e3];exact hkl) (by rw [<-e1];exact ih1 (fun x hx=>hS x (bZ (k:=a) (List.mem_cons_self ..) hx)) hE) fun j hj=>?_
  rw [List.length_map] at hj
  rw [List.getElem_map]
  simp only [<-e3]
  have hstep:=(dj (Ts:=Ts) _ (fun i hi=>(hm i hi).lt) j Q0).1
  have h2:=ih j hj (fun x hx=>hS x (bZ (e:=((cU 10 0 [] T1).setRef d.id).cX (a::kids) ms) (List.mem_cons_of_mem _ (List.getElem_mem hj)) hx)) (hE.add Q0 hT1 Q0 fun b hb hc=>hE.fresh hn Q0 hT1 b hb hc.1)
  rw [pz] at h2
  exact h2
 | @field env T T1 d j a hd hk hlt hm ih =>
  intro hS hE
  obtain ⟨d',hd',e1,e2,e3,e4⟩:=lX hl hd
  show WTy _ _ (eS ids (.mk _ 8 _ _ _ [a] _)) _
  rw [fz]
  have:=WTy.field (i:=gP ids T1) (r:=jl ids 8 d.id) (t:=ty0) (s:=[]) hd' Q0 (show j < d'.slots.length by rw [<-e3];exact hlt) (by rw [<-e1];exact ih (fun x hx=>hS x (bZ (k:=a) (List.mem_cons_self ..) hx)) hE)
  simp only [<-e3] at this
  exact this
 | @call env T k kids hd hk hv Ts hkl h0 hm ih =>
  intro hS hE
  obtain ⟨d',hd',e1,e2,e3,e4⟩:=lX hl (List.getElem_mem hd)
  show WTy _ _ (eS ids (.mk _ 3 _ _ _ kids _)) _
  rw [fz,sW Q1,e1,e4]
  refine WTy.call hd' (by unfold bare;omega) (by rw [List.length_map,<-e3];exact hkl) fun j hj=>?_
  rw [List.length_map] at hj
  rw [List.getElem_map]
  simp only [<-e3]
  refine ih j hj (fun x hx=>hS x (bZ (e:=.mk _ 3 _ _ _ kids _) (List.getElem_mem hj) hx)) (hE.mono ?_)
  rw [<-h0];exact (dj (Ts:=Ts) _ (fun i hi=>(hm i hi).lt) j Q0).1
theorem Dp (ps : List PlanT) {j : Nat} (hj : j < ps.length) : dK (ps.take j)+ps[j].types.length<=dK ps:=by
 have e : ps = ps.take j++(ps[j]::ps.drop (j+1)):=by rw [<-List.drop_eq_getElem_cons hj,List.take_append_drop]
 have:=congrArg dK e
 rw [qV,mQ] at this
 omega
theorem Dr (q : PlanT) (nx : Int) (k : Nat) (hk : k < (dG q nx).length) : (dG q nx)[k].id = idK (nx+k):=by
 simp [dG]
theorem vt (l : List Int) : ∀ d∈aX l,∃ m : Int,0<=m/\m+d.slots.length<=iU l/\∀ j (h : j < d.slots.length),d.slots[j].id = idK (m+j):=by
 intro d hd
 have hn : 1<=ax l:=by rcases jM l with h | h <;> omega
 obtain ⟨j,hj,rfl⟩:=List.mem_iff_getElem.1 hd
 unfold aX at hj ⊢
 rw [cC] at hj
 rw [dg _ _ _ hj]
 refine ⟨ax l+(gL l).length+dK ((gL l).take j),Q0,?_,fun k hk=>?_⟩
 ·have:=Dp (gL l) hj
  show _+((dG _ _).length : Int)<=_
  rw [bY]
  unfold iU
  omega
 ·exact Dr _ _ _ hk
theorem few0 (l : List Int) : ∀ d∈aX l,(d.slots.length : Int)<=100:=fun d hd=>by
 obtain ⟨m,h0,h1,_⟩:=vt l d hd
 have:=tC l
 omega
theorem AR {ids : List IdT} {m : Int} : ∀ (ss : List SlotT),(∀ s∈ss,s.id.seq ≠ 0)->(∀ i j (hi : i < ss.length) (hj : j < ss.length),ss[i].id = ss[j].id->i = j)->∀ s∈ss,nA (gOf ids (ss.map fun x=>⟨x.id,0,x.ty⟩)) s.id 0 = some s.ty:=by
 intro ss hq hi s hs
 unfold nA
 obtain ⟨k,hk,rfl⟩:=List.mem_iff_getElem.1 hs
 have hg : gOf ids (ss.map fun x=>(⟨x.id,0,x.ty⟩ : Bnd)) = (ss.map fun x=>(x.id,(0 : Int),x.ty)).reverse:=by
  unfold gOf
  rw [List.map_map]
  congr 1
  refine List.map_congr_left fun x hx=>?_
  show (sg ids x.id,(0 : Int),x.ty) = _
  unfold sg
  rw [if_neg (hq x hx)]
 rw [hg]
 have : ((ss.map fun x=>(x.id,(0 : Int),x.ty)).reverse.find? fun x=>decide (x.1 = ss[k].id/\x.2.1 = 0)) = some (ss[k].id,0,ss[k].ty):=by
  rw [List.find?_eq_some_iff_getElem]
  refine ⟨Q2,ss.length - 1 - k,Qc,?_,fun j hj=>?_⟩
  ·rw [List.getElem_reverse,List.getElem_map]
   simp only [List.length_map,show ss.length - 1 - (ss.length - 1 - k) = k by omega]
  ·rw [List.getElem_reverse,List.getElem_map]
   simp only [List.length_map,Bool.not_eq_true',decide_eq_false_iff_not,and_true]
   intro e
   have:=hi _ _ Q0 hk e
   omega
 rw [this]
 rfl
theorem nW (l : List Int) : TyP (aJ l):=by
 obtain ⟨N,hN,hlk,hnm⟩:=ko l
 have hb0 : Names (aJ l):=(tD l).like hlk
 have hget : ∀ d∈(aJ l).defs,∃ e∈aX l,d.slots = e.slots:=fun d hd=>by
  obtain ⟨e,he,hs⟩:=hlk.mem hd
  exact ⟨e,he,(cT hs).2.2.2.2.1⟩
 have hn0:=tC l
 refine ⟨fun d hd hnb=>?_,fun d hd=>hb0.the hd,fun d hd=>?_⟩
 ·obtain ⟨k,hk,rfl⟩:=List.mem_iff_getElem.1 hd
  obtain ⟨e,T,T',ids,nx,⟨c,hc1,hc2,hc3,hc4,hc5,hT,hmk⟩,hTN,hlen,hnx,hnx2,hbody⟩:=hnm k hk hnb
  obtain ⟨d0,hd0,hsl⟩:=hget _ hd
  obtain ⟨m,hm0,hm1,hm2⟩:=vt l d0 hd0
  have hseq:=nR l d0 hd0
  rw [<-hsl] at hm1 hm2 hseq
  generalize (aJ l).defs[k] = d at hm1 hm2 hseq hbody hmk hnb
  have hp:=hmk.cZ
  have hks : ∀ x∈e.post,0<=x/\x < ids.length:=fun x hx=>by have:=hp.2 x hx;omega
  have hN' : Nm (bA ids e.post nx) e.post (fun q=>∃ s∈d.slots,s.id = q):=by
   refine ⟨fun x y hx hy h=>AA hks hp.1 Q0 hx hy h,?_⟩
   rintro x hx _ ⟨s,hs,rfl⟩ h
   obtain ⟨j,hj,rfl⟩:=List.mem_iff_getElem.1 hs
   obtain ⟨i,hi,rfl⟩:=List.mem_iff_getElem.1 hx
   rw [kj hks hp.1 i hi,hm2 j hj] at h
   exact qo Q0 Q0 Q0 h
  have hinj : ∀ i j (hi : i < d.slots.length) (hj : j < d.slots.length),d.slots[i].id = d.slots[j].id->i = j:=fun i j hi hj h=>by
   rw [hm2 i hi,hm2 j hj] at h
   by_cases hij : (m+i : Int) = m+j
   ·omega
   ·exact absurd h (qo Q0 Q0 hij)
  have hE : EnvI (bA ids e.post nx) e.post (fun q=>∃ s∈d.slots,s.id = q) (bS d) T:=by
   refine ⟨fun b hb=>?_,fun b hb=>?_⟩ <;> obtain ⟨s,hs,rfl⟩:=iE hb
   ·exact .inr ⟨hseq s hs,s,hs,rfl⟩
   ·have:=AR (ids:=bA ids e.post nx) (m:=0) d.slots hseq hinj s hs
    show nA _ (sg _ s.id) 0 = _
    unfold sg
    rw [if_neg (hseq s hs)]
    exact this
  have hw:=hmk.wty (p:=aJ l) (hc2.trans hlk.symm) hN' (fun x hx=>hx) hE
  rw [hbody]
  have hg : gOf (bA ids e.post nx) (bS d) = yJ d:=by
   unfold gOf bS yJ
   rw [List.map_map]
   congr 1
   refine List.map_congr_left fun x hx=>?_
   show (sg _ x.id,(0 : Int),x.ty) = _
   unfold sg
   rw [if_neg (hseq x hx)]
  rw [<-hg]
  exact hw
 ·obtain ⟨e,he,hs⟩:=hget d hd
  rw [hs]
  have:=few0 l e he
  omega
end Xe

namespace Go.Proofs.YtanbipbiblikbaaDoor
open Xe Pm
def vlK (l : List Val) : D:=.sl l.length 3 (l.flatMap Val.enc)
mutual
theorem dep_le : ∀ v : Val,v.depth<=v.size
 | .mk k n l=>by rw [Val.depth,Val.size];have:=xY l;omega
theorem xY : ∀ l : List Val,Val.aY l<=Val.sizes l
 | []=>by simp [Val.aY]
 | v::vs=>by rw [Val.aY,Val.sizes];have:=dep_le v;have:=xY vs;omega
end
theorem GA (v : Val) : v.size<=1152921504606846976->IS xj [v.enc] [[vI (v.size : Int)]]:=by
 refine Val.sX (p:=fun v=>v.size<=1152921504606846976->IS xj [v.enc] [[vI (v.size : Int)]]) (fun v ih hv=>?_) v
 refine w103.is ?_
 unfold g103
 rw [Val.ay]
 have he:=Val.size_eq v
 have h3:=cv v.kids
 simp only [pmr]
 refine cg v.kids.length (fun j=>[[vI (1+(Val.sizes (v.kids.take j) : Int))],[vlK v.kids],[vI (v.kids.length : Int)],[vI (j : Int)]]) (fun _=>True) trivial (by simp [Val.sizes];rfl) fun j next hj _ hn=>?_
 unfold vlK at hn ⊢
 simp only [pmr]
 refine ⟨fun h=>⟨Q0,?_⟩,fun h=>?_⟩
 ·have hlt : j < v.kids.length:=Q0
  have hm:=Val.bz (List.getElem_mem hlt)
  have h1:=Val.iL v.kids j hlt
  have h2:=Val.fq v.kids (j+1)
  rw [ek _ hlt]
  refine ai (ih _ (List.getElem_mem hlt) Q0) ?_
  simp only [pmr]
  unfold okI
  refine ⟨Q0,Q0,?_⟩
  have:=hn hlt trivial
  rw [h1] at this
  push_cast at this
  rw [<-Int.add_assoc] at this
  exact this
 ·have : j = v.kids.length:=Q0
  subst this
  rw [List.take_length,he]
  push_cast
  rfl
theorem edep_is (v : Val) : v.size<=1152921504606846976->IS C9 [v.enc] [[vI (v.depth : Int)]]:=by
 refine Val.sX (p:=fun v=>v.size<=1152921504606846976->IS C9 [v.enc] [[vI (v.depth : Int)]]) (fun v ih hv=>?_) v
 refine w104.is ?_
 unfold g104
 rw [Val.ay]
 have he:=Val.size_eq v
 have hd:=Val.uy v
 have h3:=cv v.kids
 have hds : Val.aY v.kids<=Val.sizes v.kids:=xY v.kids
 simp only [pmr]
 refine cg v.kids.length (fun j=>[[vI (Val.aY (v.kids.take j) : Int)],[vlK v.kids],[vI (v.kids.length : Int)],[vI (j : Int)]]) (fun _=>True) trivial (by simp [Val.aY];rfl) fun j next hj _ hn=>?_
 unfold vlK at hn ⊢
 simp only [pmr]
 refine ⟨fun h=>⟨Q0,?_⟩,fun h=>?_⟩
 ·have hlt : j < v.kids.length:=Q0
  have hm:=Val.bz (List.getElem_mem hlt)
  have h1:=Val.q9 v.kids j hlt
  rw [ek _ hlt]
  refine ai (ih _ (List.getElem_mem hlt) Q0) ?_
  simp only [pmr]
  unfold okI
  refine ⟨Q0,?_⟩
  have:=hn hlt trivial
  rw [h1] at this
  rw [show max ((Val.aY (v.kids.take j) : Nat) : Int) ((v.kids[j].depth : Nat) : Int) = ((max (Val.aY (v.kids.take j)) v.kids[j].depth : Nat) : Int) by omega]
  exact this
 ·have : j = v.kids.length:=Q0
  subst this
  rw [List.take_length,hd]
  unfold okI
  exact ⟨Q0,rfl⟩
theorem FI (z : Int) : IS E4 [[vI z]] [[vB false]]:=by
 refine w100.is ?_
 unfold g100
 simp only [pmr,decide_true,Bool.not_true]
theorem x9 (a b : Int) : IS s69 [[vI a],[vI b]] [[vI (eY a b)]]:=by
 refine w69.is ?_
 unfold g69
 simp only [pmr]
 refine ai (FI a) ?_
 simp only [pmr]
 refine ai (FI b) ?_
 simp only [pmr]
 unfold eY
 exact ⟨fun h=>by rw [if_pos h],fun h=>⟨fun h2=>by rw [if_neg h,if_pos h2],fun h2=>by rw [if_neg h,if_neg h2]⟩⟩
theorem or_is (a b c : Int) : IS s68 [[.sl 3 1 [vI a,vI b,vI c]]] [[vI (if a ≠ 0 then a else if b ≠ 0 then b else c)]]:=by
 refine w68.is ?_
 unfold g68
 simp only [pmr]
 refine cg 3 (fun j=>[[vI 0],[.sl 3 1 [vI a,vI b,vI c]],[vI 3],[vI (j : Int)]]) (fun j=>(0 < j->a = 0)/\(1 < j->b = 0)/\(2 < j->c = 0)) ⟨fun h=>by omega,fun h=>by omega,fun h=>by omega⟩ rfl fun j next hj hI hn=>?_
 simp only [pmr]
 have e0 : el [vI a,vI b,vI c] 1 0 = [vI a]:=rfl
 have e1 : el [vI a,vI b,vI c] 1 1 = [vI b]:=rfl
 have e2 : el [vI a,vI b,vI c] 1 2 = [vI c]:=rfl
 refine ⟨fun h=>⟨Q0,?_⟩,fun h=>?_⟩
 ·have : j = 0\/j = 1\/j = 2:=Q0
  rcases this with rfl | rfl | rfl
  ·rw [e0]
   simp only [pmr,pms]
   exact ⟨fun z=>⟨Q4,hn Q0 ⟨fun _=>z,fun h=>by omega,fun h=>by omega⟩⟩,fun z=>by rw [if_pos z]⟩
  ·rw [e1]
   simp only [pmr,pms]
   have ha:=hI.1 Q0
   exact ⟨fun z=>⟨Q4,hn Q0 ⟨fun _=>ha,fun _=>z,fun h=>by omega⟩⟩,fun z=>by rw [if_neg Q0,if_pos z]⟩
  ·rw [e2]
   simp only [pmr,pms]
   have ha:=hI.1 Q0
   have hb:=hI.2.1 Q0
   exact ⟨fun z=>⟨Q4,hn Q0 ⟨fun _=>ha,fun _=>hb,fun _=>z⟩⟩,fun z=>by rw [if_neg Q0,if_neg Q0]⟩
 ·rw [hI.1 Q0,hI.2.1 Q0,hI.2.2 Q0]
  rfl
theorem ecmp_is (a : Val) : ∀ b : Val,a.size<=1000000000000000->IS s32 [a.enc,b.enc] [[vI (jT a b)]]:=by
 refine Val.sX (p:=fun a=>∀ b : Val,a.size<=1000000000000000->IS s32 [a.enc,b.enc] [[vI (jT a b)]]) (fun a ih b ha=>?_) a
 refine w32.is ?_
 unfold g32
 have hc:=x5 a b
 rw [Val.ay a,Val.ay b]
 simp only [pmr]
 refine ai (x9 _ _) ?_
 simp only [pmr]
 refine ai (x9 _ _) ?_
 simp only [pmr]
 refine ai (x9 _ _) ?_
 simp only [pmr]
 refine ai (or_is _ _ _) ?_
 simp only [pmr,pms]
 have hls:=cv a.kids
 have hse:=Val.size_eq a
 refine ⟨fun h=>?_,fun h=>?_⟩
 ·have z : eY a.kind b.kind = 0/\eY a.n b.n = 0/\eY a.kids.length b.kids.length = 0:=by
   split at h
   ·exact absurd h ‹_›
   ·split at h
    ·exact absurd h ‹_›
    ·exact ⟨Q0,Q0,h⟩
  rw [z.1,z.2.1,z.2.2,if_neg Q1,if_neg Q1,if_neg Q1] at hc
  have hl : a.kids.length = b.kids.length:=by
   have:=z.2.2
   unfold eY at this
   split at this
   ·omega
   ·split at this <;> omega
  suffices hk : IS s70 [[vlK a.kids],[vlK b.kids]] [[vI (g9 a.kids b.kids)]] by
   refine ai hk ?_
   rw [<-hc]
   rfl
  refine w70.is ?_
  unfold g70 vlK
  simp only [pmr]
  refine cg a.kids.length (fun j=>[[vlK a.kids],[vlK b.kids],[vlK a.kids],[vI (a.kids.length : Int)],[vI (j : Int)]]) (fun j=>∀ i (h : i < a.kids.length) (h2 : i < b.kids.length),i < j->jT a.kids[i] b.kids[i] = 0) (fun _ _ _ h=>absurd h (Nat.not_lt_zero _)) rfl fun j next hj hI hn=>?_
  unfold vlK at hn ⊢
  simp only [pmr]
  refine ⟨fun h=>?_,fun h=>?_⟩
  ·have hlt : j < a.kids.length:=Q0
   have hlt' : j < b.kids.length:=Q0
   have hm:=Val.bz (List.getElem_mem hlt)
   refine ⟨Q0,fun c=>absurd c Q0,fun _=>⟨Q0,?_⟩⟩
   rw [ek _ hlt,ek _ hlt']
   refine ai (ih _ (List.getElem_mem hlt) _ Q0) ?_
   simp only [pmr,pms]
   refine ⟨fun h0=>⟨Q4,hn hlt fun i h1 h2 h3=>?_⟩,fun h0=>?_⟩
   ·by_cases e : i = j
    ·subst e;exact h0
    ·exact hI i h1 h2 Q0
   ·rw [qD hlt hlt' (fun i h1 h2 h3=>hI i h1 h2 h3) h0]
  ·rw [oA hl fun i h1 h2=>hI i h1 h2 Q0]
   exact ⟨fun c=>absurd c Q0,fun _=>rfl⟩
 ·rw [hc]
  split
  ·rfl
  ·split
   ·rfl
   ·split
    ·rfl
    ·rename_i h1 h2 h3
     rw [if_neg h1,if_neg h2] at h
     exact absurd h h3
theorem jV {p : Prop} [Decidable p] {b : Bool} (h : b = true↔p) : ([[vB b]] : St') = [[vB (decide p)]]:=by cases b <;> simp_all
theorem tO (v : Val) : cell v.enc 0 = an v.kind:=by rw [Val.ay];rfl
theorem tE (v : Val) : cell v.enc 1 = an v.n:=by rw [Val.ay];rfl
theorem gv (v : Val) : cell v.enc 2 = vlK v.kids:=by rw [Val.ay];rfl
theorem CP {v : Val} {d s : Int} (h0 : 0<=s) (h : (cP v d s).1 = true) : 0<=(cP v d s).2/\(cP v d s).2<=s:=by
 have h1:=nI v d s h0
 have h2:=h1.1.1 h
 have h3:=h1.2 h
 omega
theorem Ew (v : Val) : ∀ (d s : Int),v.size<=1000000000000000->0<=s->s<=1000000->0<=d->d<=25->IS s95 [v.enc,[vI d],[vI s]] [[vB (cP v d s).1],[vI (cP v d s).2]]:=by
 refine Val.sX (p:=fun v=>∀ (d s : Int),v.size<=1000000000000000->0<=s->s<=1000000->0<=d->d<=25->IS s95 [v.enc,[vI d],[vI s]] [[vB (cP v d s).1],[vI (cP v d s).2]]) (fun v ih d s hv h0 h1 h2 h3=>?_) v
 have hse:=Val.size_eq v
 have hls:=cv v.kids
 rw [CQ]
 have not_is : ∀ x∈v.kids,∀ s,0<=s->s<=1000000->d<=24->IS s97 [x.enc,[vI d],[vI s]] [[vB (!(cP x (d+1) s).1)],[vI d],[vI (cP x (d+1) s).2]]:=fun x hx s h0 h1 h4=>by
  have hm:=Val.bz hx
  refine w97.is ?_
  unfold g97
  simp only [pmr]
  refine ⟨Q4,ai (ih x hx (d+1) s Q0 h0 h1 Q0 Q0) ?_⟩
  simp only [pmr]
 have ix_is : ∀ s,0<=s->s<=1000000->d<=24->∃ r,(∃ k : Int,(0<=k↔(dA v.kids (d+1) s).1 = false)/\r = [[vI k],[vI d],[vI (dA v.kids (d+1) s).2]])/\IS s109 [[vlK v.kids],[vI d],[vI s]] r:=fun s h0 h1 h4=>by
  refine w109.some ?_ (by rintro r ⟨k,_,rfl⟩;exact trivial)
  unfold g109 vlK
  simp only [pmr]
  refine jf (σ:=Nat×Int) (fun x=>[[vlK v.kids],[vI (v.kids.length : Int)],[vI (x.1 : Int)],[vI d],[vI x.2]]) (fun x=>v.kids.length - x.1) (fun x=>x.1<=v.kids.length/\0<=x.2/\x.2<=1000000/\dA v.kids (d+1) s = dA (v.kids.drop x.1) (d+1) x.2) (0,s) ⟨Nat.zero_le _,h0,h1,rfl⟩ rfl ?_
  rintro ⟨j,s1⟩ next ⟨q1,q2,q3,q4⟩ hn
  dsimp only at q1 q2 q3 q4 hn
  unfold vlK at hn ⊢
  simp only [pmr]
  refine ⟨fun h=>?_,fun h=>?_⟩
  ·have hlt : j < v.kids.length:=Q0
   rw [ek _ hlt]
   rw [List.drop_eq_getElem_cons hlt,dA] at q4
   refine ⟨Q0,ai (not_is _ (List.getElem_mem hlt) s1 q2 q3 h4) ?_⟩
   simp only [pmr]
   cases hb : (cP v.kids[j] (d+1) s1).1 with
   | true =>
    rw [hb,if_pos rfl] at q4
    have:=CP q2 hb
    exact ⟨Q4,hn (j+1,(cP v.kids[j] (d+1) s1).2) (by show v.kids.length - (j+1) < v.kids.length - j;omega) ⟨by show j+1<=_;omega,this.1,by show (cP v.kids[j] (d+1) s1).2<=_;omega,q4⟩⟩
   | false =>
    rw [hb,if_neg Q1] at q4
    rw [q4]
    exact ⟨j,⟨fun _=>rfl,fun _=>by omega⟩,rfl⟩
  ·obtain rfl : j = v.kids.length:=Q0
   rw [List.drop_length,dA] at q4
   rw [q4]
   exact ⟨-1,⟨fun h=>absurd h Q1,fun h=>by cases h⟩,rfl⟩
 refine w95.is ?_
 unfold g95
 simp only [pmr,gv]
 refine ⟨Q4,fun c1=>⟨fun c2=>?_,fun c2=>by rw [if_neg (fun c=>c2 c.2)]⟩,fun c1=>by rw [if_neg (fun c=>c1 c.1)]⟩
 rw [if_pos ⟨c1,c2⟩]
 obtain ⟨r,⟨k,hk,rfl⟩,hr⟩:=ix_is (s - 1) c1 Q0 c2
 have h96 : IS s96 [[vlK v.kids],[vI d],[vI (s - 1)]] [[vB (decide (0<=k))],[vI d],[vI (dA v.kids (d+1) (s - 1)).2]]:=by
  refine w96.is ?_
  unfold g96
  simp only [pmr]
  refine ai hr ?_
  simp only [pmr]
 refine ai h96 ?_
 simp only [pmr]
 cases hb : (dA v.kids (d+1) (s - 1)).1 with
 | true=>rw [decide_eq_false (fun h=>by rw [hk.1 h] at hb;cases hb)];rfl
 | false=>rw [decide_eq_true (hk.2 hb)];rfl
theorem ER (v : Val) (h : v.size<=1000000000000000) : IS s66 [v.enc] [[vB (decide (nP v))]]:=by
 refine w66.is ?_
 unfold g66
 simp only [pmr]
 refine ai (Ew v 1 256 h Q1 Q1 Q1 Q1) ?_
 simp only [pmr]
 exact jV Iff.rfl
theorem wZ {p : ProgT} (hp : p.defs.length<=1000000000000000) (t : Ty) : IS s98 [pgL p,t.enc] [[vB (decide (bh p t))]]:=by
 refine w98.is ?_
 unfold g98
 refine jf (σ:=Nat×Ty) (fun x=>[[vI ((x.1 : Int)+1)],pgL p,x.2.enc]) (fun x=>24 - x.1) (fun x=>x.1<=24/\bG p 24 t = bG p (24 - x.1) x.2) (0,t) ⟨Nat.zero_le _,rfl⟩ rfl ?_
 rintro ⟨j,u⟩ next ⟨h1,h2⟩ hn
 dsimp only at h1 h2 hn
 have ht : bh p t↔bG p (24 - j) u = true:=by unfold bh;rw [h2]
 have hid : ∀ i : IdT,(i.shop = 0/\i.seq = 0/\i.index = 0)↔i = id0:=fun i=>by
  constructor
  ·rintro ⟨a,b,c⟩;exact IdT.ext' a b c
  ·rintro rfl;exact ⟨rfl,rfl,rfl⟩
 simp only [pmr,pms]
 refine ⟨fun hj=>gO ?_,fun hj=>?_⟩
 ·obtain ⟨m,hm⟩ : ∃ m,24 - j = m+1:=⟨23 - j,Q0⟩
  rw [hm] at ht
  have one : u.kind ≠ 2->u.kind ≠ 3->(u.kind = 0\/u.kind = 1)->(u.df.shop = 0/\u.df.seq = 0/\u.df.index = 0->[[vB (decide ((u.kids.length : Int) = 0))]] = [[vB (decide (bh p t))]])/\(¬ (u.df.shop = 0/\u.df.seq = 0/\u.df.index = 0)->([[vB false]] : St') = [[vB (decide (bh p t))]]):=fun k2 k3 k=>by
   have hv:=cM (p:=p) (n:=m) k2 k3
   refine ⟨fun c=>jV ?_,fun c=>jV ?_⟩
   ·rw [ht,hv,decide_eq_true_iff]
    exact ⟨fun h=>⟨Q0,(hid _).1 c,k⟩,fun h=>by omega⟩
   ·rw [ht,hv]
    exact ⟨fun h=>Bool.noConfusion h,fun h=>absurd ((hid _).2 h.2.1) c⟩
  have dfd : u.kind = 3->caK IS s57 [pgL p,u.df.enc] fun r13=>bq (cell (ent r13 1) 0) fun b14=>ifK b14 (aa (cell (ent r13 0) 3) fun z15=>(z15 = 0->[[vB (decide ((u.kids.length : Int) = 0))]] = [[vB (decide (bh p t))]])/\(¬ z15 = 0->aa (cell (ent r13 0) 3) fun z18=>(z18 = 1->[[vB (decide ((u.kids.length : Int) = 0))]] = [[vB (decide (bh p t))]])/\(¬ z18 = 1->([[vB false]] : St') = [[vB (decide (bh p t))]]))) ([[vB false]] = [[vB (decide (bh p t))]]):=fun k3=>by
   have hv:=gF (p:=p) (n:=m) k3
   refine ai (xZ p u.df hp) ?_
   simp only [pmr,pms]
   have yes : (aj p u.df).kind = 0\/(aj p u.df).kind = 1->dc p u.df->([[vB (decide ((u.kids.length : Int) = 0))]] : St') = [[vB (decide (bh p t))]]:=fun k h=>jV (by
    rw [ht,hv,decide_eq_true_iff]
    exact ⟨fun c=>⟨⟨h,k⟩,Q0⟩,fun c=>by omega⟩)
   refine ⟨fun h=>⟨fun z=>yes (.inl z) h,fun z=>⟨fun z1=>yes (.inr z1) h,fun z1=>jV ?_⟩⟩,fun h=>jV ?_⟩
   ·rw [ht,hv]
    exact ⟨fun c=>Bool.noConfusion c,fun c=>c.1.2.elim (fun c=>absurd c z) (fun c=>absurd c z1)⟩
   ·rw [ht,hv]
    exact ⟨fun c=>Bool.noConfusion c,fun c=>absurd c.1.1 h⟩
  have lst : u.kind = 2->(u.df.shop = 0/\u.df.seq = 0/\u.df.index = 0->((u.kids.length : Int) = 1->((0 : Int)<=0/\(0 : Int) < (u.kids.length : Int))/\okI ((j : Int)+1+1)/\next [[vI ((j : Int)+1+1)],pgL p,el (u.kids.flatMap Ty.enc) 5 0])/\(¬ (u.kids.length : Int) = 1->([[vB false]] : St') = [[vB (decide (bh p t))]]))/\(¬ (u.df.shop = 0/\u.df.seq = 0/\u.df.index = 0)->([[vB false]] : St') = [[vB (decide (bh p t))]]):=fun k2=>by
   refine ⟨fun c=>⟨fun c1=>⟨Q0,Q4,?_⟩,fun c1=>jV ?_⟩,fun c=>jV ?_⟩
   ·have hk:=qQ (p:=p) (n:=m) k2 ((hid _).1 c) Q0
    have:=hn (j+1,u.kids[0]'Q0) (by show 24 - (j+1) < 24 - j;omega) ⟨by show j+1<=24;omega,by
     show bG p 24 t = bG p (24 - (j+1)) _
     rw [h2,hm,show 24 - (j+1) = m by omega]
     exact Bool.eq_iff_iff.2 hk⟩
    rw [mm u.kids (k:=0) Q0]
    exact this
   ·rw [ht]
    exact ⟨fun h=>Bool.noConfusion h,fun h=>absurd (fQ k2 h).2 Q0⟩
   ·rw [ht]
    exact ⟨fun h=>Bool.noConfusion h,fun h=>absurd ((hid _).2 (fQ k2 h).1) c⟩
  have oth : u.kind ≠ 0->u.kind ≠ 1->u.kind ≠ 2->u.kind ≠ 3->([[vB false]] : St') = [[vB (decide (bh p t))]]:=fun k0 k1 k2 k3=>jV (by
   rw [ht,cM (p:=p) (n:=m) k2 k3]
   exact ⟨fun h=>Bool.noConfusion h,fun h=>h.2.2.elim (fun c=>absurd c k0) (fun c=>absurd c k1)⟩)
  simp only [pmr]
  refine ⟨fun k0=>⟨fun _=>one Q0 Q0 (.inl k0),fun c=>absurd k0 c⟩,fun k0=>⟨fun k1=>one Q0 Q0 (.inr k1),fun k1=>⟨fun k3=>dfd k3,fun k3=>⟨fun k2=>lst k2,fun k2=>oth k0 k1 k2 k3⟩⟩⟩⟩
 ·have hj24 : 24 - j = 0:=Q0
  rw [hj24] at ht
  exact jV (by rw [ht,bG])
theorem fits_is {p : ProgT} (hp : p.defs.length<=1000000000000000) (v : Val) : ∀ t : Ty,v.size<=1000000000000000->IS s67 [pgL p,t.enc,v.enc] [[vB (aB p v t)]]:=by
 refine Val.sX (p:=fun v=>∀ t : Ty,v.size<=1000000000000000->IS s67 [pgL p,t.enc,v.enc] [[vB (aB p v t)]]) (fun v ih t hv=>?_) v
 have hse:=Val.size_eq v
 have hls:=cv v.kids
 have bb : ∀ {q : Prop} [Decidable q],(q↔aB p v t = true)->([[vB (decide q)]] : St') = [[vB (aB p v t)]]:=fun {q _} h=>by
  cases hb : aB p v t with
  | true=>rw [decide_eq_true (h.2 hb)]
  | false=>rw [decide_eq_false (fun c=>by rw [h.1 c] at hb;cases hb)]
 have bf : ¬ aB p v t = true->([[vB false]] : St') = [[vB (aB p v t)]]:=fun h=>by
  cases hb : aB p v t with
  | true=>exact absurd hb h
  | false=>rfl
 have bt : aB p v t = true->([[vB true]] : St') = [[vB (aB p v t)]]:=fun h=>by rw [h]
 refine w67.is ?_
 unfold g67
 simp only [pmr,pms]
 refine ai (wZ hp t) ?_
 simp only [pmr,pms,tO,tE,gv]
 refine ⟨fun hvt=>?_,fun h=>bf (fun c=>h (tU c))⟩
 unfold vlK
 simp only [pmr,pms]
 refine ⟨fun k0=>⟨fun a=>⟨fun b=>⟨fun c=>bb ?_,fun c=>bf ?_⟩,fun b=>bf ?_⟩,fun a=>bf ?_⟩,fun k0=>⟨fun k1=>⟨fun a=>⟨fun b=>⟨fun c=>bt ?_,fun c=>bb ?_⟩,fun b=>bf ?_⟩,fun a=>bf ?_⟩,fun k1=>⟨fun k2=>⟨fun a=>⟨fun b=>?_,fun b=>bf ?_⟩,fun a=>bf ?_⟩,fun k2=>?_⟩⟩⟩
 ·rw [me hvt k0];exact ⟨fun d=>⟨a,Q0,c,d⟩,fun d=>d.2.2.2⟩
 ·rw [me hvt k0];exact fun d=>c d.2.2.1
 ·rw [me hvt k0];exact fun d=>b Q0
 ·rw [me hvt k0];exact fun d=>a d.1
 ·rw [pJ hvt k1];exact ⟨a,Q0,.inl c⟩
 ·rw [pJ hvt k1];exact ⟨fun d=>⟨a,Q0,.inr d⟩,fun d=>d.2.2.elim (fun e=>absurd e c) id⟩
 ·rw [pJ hvt k1];exact fun d=>b Q0
 ·rw [pJ hvt k1];exact fun d=>a d.1
 ·have ho:=sA hvt k2
  have hh : t.kids.headD ty0 = t.kids[0]:=Co Q0
  have not_is : ∀ x∈v.kids,IS s99 [x.enc,pgL p,t.enc] [[vB (!(aB p x (t.kids.headD ty0)))],pgL p,t.enc]:=fun x hx=>by
   have hm:=Val.bz hx
   refine w99.is ?_
   unfold g99
   simp only [pmr]
   rw [mm t.kids (k:=0) Q0,hh]
   refine ⟨Q0,ai (ih x hx t.kids[0] Q0) ?_⟩
   simp only [pmr]
  have ix_is : ∃ r,(∃ k : Int,(0<=k↔¬ aB p v t = true)/\r = [[vI k],pgL p,t.enc])/\IS xh [[vlK v.kids],pgL p,t.enc] r:=by
   refine w109_1.some ?_ (by rintro r ⟨k,_,rfl⟩;exact trivial)
   unfold Gi vlK
   simp only [pmr]
   refine cg v.kids.length (fun j=>[[vlK v.kids],[vI (v.kids.length : Int)],[vI (j : Int)],pgL p,t.enc]) (fun j=>∀ i (h : i < v.kids.length),i < j->aB p v.kids[i] (t.kids.headD ty0) = true) (fun _ _ h=>absurd h (Nat.not_lt_zero _)) rfl fun j next hj hI hn=>?_
   unfold vlK at hn ⊢
   simp only [pmr]
   refine ⟨fun h=>?_,fun h=>?_⟩
   ·have hlt : j < v.kids.length:=Q0
    rw [ek _ hlt]
    refine ⟨Q0,ai (not_is _ (List.getElem_mem hlt)) ?_⟩
    simp only [pmr]
    cases hb : aB p v.kids[j] (t.kids.headD ty0) with
    | true =>
     refine ⟨Q4,hn hlt fun i h1 h2=>?_⟩
     by_cases e : i = j
     ·subst e;exact hb
     ·exact hI i h1 Q0
    | false =>
     refine ⟨j,⟨fun _=>?_,fun _=>by omega⟩,rfl⟩
     rw [tW hvt k2]
     exact fun d=>by rw [d.2.2 j hlt] at hb;cases hb
   ·refine ⟨-1,⟨fun c=>absurd c Q1,fun c=>absurd ((tW hvt k2).2 ⟨a,b,fun i hi=>hI i hi Q0⟩) c⟩,rfl⟩
  obtain ⟨r,⟨k,hk,rfl⟩,hr⟩:=ix_is
  have h96 : IS BR [[vlK v.kids],pgL p,t.enc] [[vB (decide (0<=k))],pgL p,t.enc]:=by
   refine w96_1.is ?_
   unfold g96_1
   simp only [pmr]
   refine ai hr ?_
   simp only [pmr]
  refine ai h96 ?_
  simp only [pmr]
  by_cases hf : aB p v t = true
  ·rw [decide_eq_false (fun c=>hk.1 c hf),hf];rfl
  ·rw [decide_eq_true (hk.2 hf)];exact bf hf
 ·rw [tW hvt k2];exact fun d=>b d.2.1
 ·rw [tW hvt k2];exact fun d=>a d.1
 ·refine ai (xZ p t.df hp) ?_
  simp only [pmr,pms]
  refine ⟨fun kc=>⟨fun a=>⟨fun b=>⟨fun c=>⟨fun d=>?_,fun d=>bf ?_⟩,fun c=>bf ?_⟩,fun b=>bf ?_⟩,fun a=>bf ?_⟩,fun kc=>⟨fun a=>⟨fun b=>⟨fun c=>?_,fun c=>bf ?_⟩,fun b=>bf ?_⟩,fun a=>bf ?_⟩⟩
  ·have hlt : v.n.toNat < (aj p t.df).slots.length:=Q0
   have hk1 : v.kids.length = 1:=Q0
   have hm:=Val.bz (List.getElem_mem (show 0 < v.kids.length by omega))
   rw [iZ _ hlt,ek v.kids (k:=0) Q0]
   simp only [pms]
   refine ⟨Q0,Q0,ai (ih _ (List.getElem_mem (show 0 < v.kids.length by omega)) _ Q0) ?_⟩
   simp only [pmr]
   rw [Bool.eq_iff_iff.2 (A6 hvt k0 k1 k2 kc a b hlt hk1)]
  ·rw [kM hvt k0 k1 k2 kc];exact fun h=>d Q0
  ·rw [kM hvt k0 k1 k2 kc];exact fun h=>c h.2.1.2
  ·rw [kM hvt k0 k1 k2 kc];exact fun h=>b h.2.1.1
  ·rw [kM hvt k0 k1 k2 kc];exact fun h=>a h.1
  ·have hf:=mc hvt k0 k1 k2 kc (v:=v)
   have hl : v.kids.length = (aj p t.df).slots.length:=Q0
   refine cg v.kids.length (fun j=>[[vlK v.kids],[vI (v.kids.length : Int)],[vI (j : Int)],pgL p,(aj p t.df).enc]) (fun j=>∀ i (h : i < v.kids.length) (h2 : i < (aj p t.df).slots.length),i < j->aB p v.kids[i] (aj p t.df).slots[i].ty = true) (fun _ _ _ h=>absurd h (Nat.not_lt_zero _)) rfl fun j next hj hI hn=>?_
   unfold vlK at hn ⊢
   simp only [pmr,pms]
   refine ⟨fun h=>?_,fun h=>?_⟩
   ·have hlt : j < v.kids.length:=Q0
    have hlt2 : j < (aj p t.df).slots.length:=Q0
    have hm:=Val.bz (List.getElem_mem hlt)
    rw [iZ _ hlt2,ek _ hlt]
    simp only [pms]
    refine ⟨Q0,Q0,ai (ih _ (List.getElem_mem hlt) _ Q0) ?_⟩
    simp only [pmr]
    cases hb : aB p v.kids[j] (aj p t.df).slots[j].ty with
    | true =>
     refine ⟨Q4,hn hlt fun i h1 h2 h3=>?_⟩
     by_cases e : i = j
     ·subst e;exact hb
     ·exact hI i h1 h2 Q0
    | false =>
     refine bf ?_
     rw [hf]
     exact fun d=>by rw [d.2.2.2 j hlt hlt2] at hb;cases hb
   ·exact bt (hf.2 ⟨a,b,hl,fun i h1 h2=>hI i h1 h2 Q0⟩)
  ·rw [mc hvt k0 k1 k2 kc];exact fun h=>c Q0
  ·rw [mc hvt k0 k1 k2 kc];exact fun h=>b h.2.1
  ·rw [mc hvt k0 k1 k2 kc];exact fun h=>a h.1
theorem EC {p : ProgT} (hp : p.defs.length<=1000000000000000) {v : Val} {t : Ty} (hv : v.size<=1000000000000000) : IS s28 [pgL p,t.enc,v.enc] [[vB (decide (gk p t v))]]:=by
 refine w28.is ?_
 unfold g28
 simp only [pmr]
 refine ai (ER v hv) ?_
 by_cases hs : nP v
 ·rw [decide_eq_true hs]
  simp only [pmr]
  refine ai (fits_is hp v t hv) ?_
  simp only [pmr]
  exact jV ⟨fun h=>⟨hs,h⟩,fun h=>h.2⟩
 ·rw [decide_eq_false hs]
  simp only [pmr]
  rw [decide_eq_false (fun c=>hs c.1)]
end Go.Proofs.YtanbipbiblikbaaDoor
