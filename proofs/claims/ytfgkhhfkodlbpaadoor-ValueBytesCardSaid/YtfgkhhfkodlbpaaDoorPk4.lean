/- PmU, PmV, PmW, PmX, PmY, PmZ, Zqb, Zqa, Ev13, Ev16, Gn0, Gd1, Gd5, Gd6, Gd2, Gd3, Dk, Dl, Dm, Dn, put together. -/
import Derived.Test.YtfgkhhfkodlbpaaDoorPk3
import Derived.Test.YtfgkhhfkodlbpaaDoorProg
import Derived.KernelRfl
namespace Pm
open Go Xe
theorem start_inj (oob : List (Nat×OSh)) : ∀ (l : List (Nat×OSh)) (i : Nat) (x : Tg),getT (start l oob) i = some x->x = .ob i
 | [],i,x,h=>by simp [start,getT] at h
 | (j,o)::l,i,x,h=>by
  unfold start at h
  split at h
  ·rw [getT_cons] at h
   by_cases e : i = j
   ·subst e
    rw [if_pos rfl] at h
    simp only [Option.some.injEq] at h
    exact h.symm
   ·rw [if_neg e] at h
    exact start_inj oob l i x h
  ·exact start_inj oob l i x h
theorem start_InjP (l oob : List (Nat×OSh)) : InjP (start l oob):=fun i j b h1 h2=>by
 have e1:=start_inj oob l i _ h1
 have e2:=start_inj oob l j _ h2
 simp only [Tg.ob.injEq] at e1 e2
 rw [<-e1,<-e2]
theorem start_mem {oob : List (Nat×OSh)} : ∀ {l : List (Nat×OSh)} {i : Nat},i∈l.map Prod.fst->i∈oob.map Prod.fst->getT (start l oob) i = some (.ob i)/\i∈keptL (start l oob)
 | (j,o)::l,i,h1,h2=>by
  have ha : (oob.any fun x=>Nat.beq x.1 i) = true:=by
   obtain ⟨p,hp,e⟩:=List.mem_map.1 h2
   exact List.any_eq_true.2 ⟨p,hp,by rw [e];exact beq_self i⟩
  unfold start
  by_cases e : i = j
  ·subst e
   rw [ha]
   simp only
   refine ⟨by rw [getT_cons,if_pos rfl],?_⟩
   unfold keptL
   exact List.mem_cons_self ..
  ·have h1:=(List.mem_cons.1 (show i∈j::l.map Prod.fst from h1)).resolve_left e
   obtain ⟨g1,g2⟩:=start_mem h1 h2
   split
   ·refine ⟨by rw [getT_cons,if_neg e];exact g1,?_⟩
    unfold keptL at *
    exact List.mem_cons_of_mem _ g2
   ·exact ⟨g1,g2⟩
 | [],i,h1,_=>by simp at h1
def one (a : Act) : ResultVar->Sem Value
 | .tmp t=>pure (a.tmps.getD t undef)
 | .cell x t=>do loadVar t (<-asAddr (a.tmps.getD x undef))
theorem load_run {P : Program} {w : World} {ρ : Operand->Value} {o : Oper} {x : Operand} {t : TypeId} {p : Addr} {v : Value} (ho : o.op = .load t x) (hx : ρ x = .pointer (some p)) (h : (execOp ρ o).run P w = .ok (.value v) w) : (loadVar t p).run P w = .ok v w:=by
 have h' : ((loadVar t p).run P w).andThen (fun v w'=>Result.ok (Next.value v) w') = .ok (.value v) w:=by
  have e : (execOp ρ o).run P w = ((loadVar t p).run P w).andThen (fun v w'=>Result.ok (Next.value v) w'):=by
   unfold execOp
   rw [ho]
   simp [hx,Instr.loadAt,Instr.sureAddr]
  rw [<-e]
  exact h
 cases hl : (loadVar t p).run P w with
 | ok v' w' =>
  rw [hl] at h'
  simp only [Result.andThen,Result.ok.injEq,Next.value.injEq] at h'
  rw [h'.1,h'.2]
 | halt _ _=>rw [hl] at h';simp [Result.andThen] at h'
def Slot (ρ : Nat->Option Value) (M : Mem) (xs : List S) (vs : List Value) : Prop:=∀ i,xs.getD i su = su\/∃ v,vs[i]? = some v/\SR M ρ (xs.getD i su) v
theorem Slot.cons {ρ : Nat->Option Value} {M : Mem} {x : S} {v : Value} {xs : List S} {vs : List Value} (h : x = su\/SR M ρ x v) (k : Slot ρ M xs vs) : Slot ρ M (x::xs) (v::vs):=fun i=>by
 cases i with
 | zero =>
  rcases h with h | h
  ·exact .inl h
  ·exact .inr ⟨v,rfl,h⟩
 | succ i=>exact k i
section
variable {P : Program} {w0 : World} {Γ0 : List As} {fr : Fr} {ρ : Nat->Option Value} {M : Mem} {lst : List (Nat×As)} {a : Act} {w : World} {n : Nat}
theorem cellR_ok (h1 : a.tmps.size = n) (h2 : a.defers = []) (hR : Rel w0 Γ0 fr ρ M lst (tv a) w) {t ty : Nat} {s : S} (h : cellR P fr t ty = some s) : ∃ v,(one a (.cell t ty)).run P w = .ok v w/\SR M ρ s v:=by
 unfold cellR at h
 split at h
 ·rename_i b off hsl
  have hs : ∃ v,tv a t = some v/\SR M ρ (.c (.p b off)) v:=by
   rcases hR.sl t with e | ⟨v,e1,e2⟩
   ·rw [hsl] at e;cases e
   ·rw [hsl] at e2;exact ⟨v,e1,e2⟩
  obtain ⟨v,hv,k,hk,rfl⟩:=hs
  have hev : EvOk a (.tmp t) (.pointer (some (adr (some ⟨k,0,none⟩) off))):=hv
  have hb : ∀ x,fr.ob b = some x->OR M ρ lst b x:=fun x hx=>hR.ob b x hx
  have fin : ∀ v, Yq P w0 (Lf a) M (lst.map Prod.snd ++ Γ0) ⟨none, .load ty (.tmp t), 0, "", #[], none⟩ v → (one a (.cell t ty)).run P w = .ok v w := fun v hy => by
   have hx:=hy n a w (Lf_sat h1 h2) hR.st
   have he : a.eval (.tmp t) = .pointer (some (adr (some ⟨k,0,none⟩) off)):=EvOk.eval (x:=.tmp t) hev
   have hl:=load_run (x:=.tmp t) rfl he hx
   have he' : a.tmps.getD t undef = .pointer (some (adr (some ⟨k,0,none⟩) off)):=by
    have : a.tmps[t]? = some (.pointer (some (adr (some ⟨k,0,none⟩) off))):=hv
    simp [Array.getD_eq_getD_getElem?,this]
   show (do loadVar ty (<-asAddr (a.tmps.getD t undef)) : Sem Value).run P w = _
   rw [he']
   simp [asAddr,hl]
  split at h
  ·rename_i e m ds hob
   obtain ⟨k',us,h3,h4,h5,h6⟩:=hb _ hob
   rw [hk] at h3
   obtain rfl : k = k':=by simpa using h3
   have hm : As.own k e us∈lst.map Prod.snd++Γ0:=List.mem_append_left _ (List.mem_map_of_mem h4)
   obtain ⟨v,h7,h8⟩:=loadD_ok (P:=P) (w0:=w0) (ρ:=ρ) (q:=0) (ad:=some ⟨k,0,none⟩) (by rw [Nat.zero_add];exact hev.evL) h5 h6 (Γ:=lst.map Prod.snd++Γ0) (fun i u hi w hw=>by rw [Nat.zero_add];exact hw.own_cell hm hi) h
   exact ⟨v,fin v h7,h8⟩
  ·rename_i e cs hob
   obtain ⟨k',us,h3,h4,h5⟩:=hb _ hob
   rw [hk] at h3
   obtain rfl : k = k':=by simpa using h3
   have hm : As.own k e us∈lst.map Prod.snd++Γ0:=List.mem_append_left _ (List.mem_map_of_mem h4)
   obtain ⟨v,h7,h8⟩:=loadC_ok (P:=P) (w0:=w0) (ρ:=ρ) (ad:=some ⟨k,0,none⟩) (Γ:=lst.map Prod.snd++Γ0) hev.evL h5 (fun i u hi w hw=>hw.own_cell hm hi) h
   exact ⟨v,fin v h7,h8⟩
  ·cases h
 ·cases h
theorem resL_ok (h1 : a.tmps.size = n) (h2 : a.defers = []) (hR : Rel w0 Γ0 fr ρ M lst (tv a) w) : ∀ {l : List ResultVar} {xs : List S},resL P fr l = some xs->∃ vs,(l.mapM (one a)).run P w = .ok vs w/\vs.length = l.length/\Slot ρ M xs vs
 | [],xs,h=>by
  simp only [resL,Option.some.injEq] at h
  subst h
  exact ⟨[],Q2,rfl,fun i=>.inl rfl⟩
 | .tmp t::l,xs,h=>by
  unfold resL at h
  split at h
  ·rename_i ys hys
   simp only [Option.some.injEq] at h
   subst h
   obtain ⟨vs,g1,g2,g3⟩:=resL_ok h1 h2 hR hys
   refine ⟨a.tmps.getD t undef::vs,by simp [List.mapM_cons,one,g1],by simp [g2],g3.cons ?_⟩
   rcases hR.sl t with e | ⟨v,e1,e2⟩
   ·exact .inl e
   ·have : a.tmps[t]? = some v:=e1
    exact .inr (by simpa [Array.getD_eq_getD_getElem?,this] using e2)
  ·cases h
 | .cell t ty::l,xs,h=>by
  unfold resL at h
  split at h
  ·rename_i s hs
   split at h
   ·rename_i ys hys
    simp only [Option.some.injEq] at h
    subst h
    obtain ⟨vs,g1,g2,g3⟩:=resL_ok h1 h2 hR hys
    obtain ⟨v,g4,g5⟩:=cellR_ok h1 h2 hR hs
    exact ⟨v::vs,by simp [List.mapM_cons,g4,g1],by simp [g2],g3.cons (.inr g5)⟩
   ·cases h
  ·cases h
end
def oneV (xs : List Value) : Value:=if h : xs.toArray.size = 1 then xs.toArray[0] else .tuple xs.toArray
theorem results_ok {P : Program} {fn : Func} {a : Act} {w : World} {vs : List Value} (h : (fn.results.toList.mapM (one a)).run P w = .ok vs w) : (results fn a.tmps).run P w = Result.ok (oneV vs) w:=by
 have e : results fn a.tmps = (do
   let vs <-fn.results.mapM (one a)
   pure (if h : vs.size = 1 then vs[0] else .tuple vs)):=by
  unfold results
  congr 1
 rw [e,Array.mapM_eq_mapM_toList,Sem.run_bind,Sem.run_map,h]
 rfl
theorem numbered_at : ∀ (l : List S) (j t : Nat),numbered j l (j+t) = l.getD t su
 | [],j,t=>by simp [numbered]
 | s::l,j,0=>by simp [numbered]
 | s::l,j,t+1=>by
  have e : Nat.beq (j+(t+1)) j = false:=beq_ne Q0
  simp only [numbered,e]
  rw [show j+(t+1) = j+1+t by omega,numbered_at l]
  simp
theorem packO_some {s : Sig} {fr : Fr} {st : St'} (h : packOut s fr = some st) : ∃ r k1 r' k2,packSl fr.ob fr.sl ⟨start s.ins.ob s.oob,[]⟩ (outSh s).sl = some (r,k1)/\packOb fr.ob k1 (outSh s).ob = some (r',k2)/\(linked (outSh s).ob k2.mp && apartB k2.mp k2.fix && nodupB (outSh s).ob) = true/\st = r++r':=by
 unfold packOut at h
 split at h
 ·rename_i r k1 h1
  split at h
  ·rename_i r' k2 h2
   split at h
   ·rename_i hb
    simp only [Option.some.injEq] at h
    exact ⟨r,k1,r',k2,h1,h2,hb,h.symm⟩
   ·cases h
  ·cases h
 ·cases h
theorem fnB_ok {s : Sig} {fn : Func} (h : fnB s fn = true) (xs : List Value) (hx : xs.length = fn.results.toList.length) : ResV s.out (oneV xs) xs:=by
 unfold fnB at h
 simp only [Bool.and_eq_true] at h
 have h2:=h.2
 unfold ResV
 have one : xs.length = 1->xs = [oneV xs]:=fun h1=>by
  match xs,h1 with
  | [x],_=>rfl
 cases ho : s.out with
 | t l =>
  rw [ho] at h2
  simp only [Bool.and_eq_true,Bool.not_eq_true'] at h2
  have e1:=Nat.eq_of_beq_eq_true h2.1
  have e2:=Nat.ne_of_beq_eq_false h2.2
  have : xs.toArray.size ≠ 1:=by simp;omega
  exact ⟨by unfold oneV;rw [dif_neg this],Q0⟩
 | c _=>rw [ho] at h2;exact one (by rw [hx];exact Nat.eq_of_beq_eq_true h2)
 | a _=>rw [ho] at h2;exact one (by rw [hx];exact Nat.eq_of_beq_eq_true h2)
 | g _=>rw [ho] at h2;exact one (by rw [hx];exact Nat.eq_of_beq_eq_true h2)
theorem fn_ok {P : Program} {tb : Tb} (hT : TbOk P tb) (hm : P.follows .mixedOrders = true) {H : Hint} {s : Sig} {a r : St'} (h : fnX (Is P) P tb H s a fun st=>st = r) (hu : unpack propQ (outSh s) r fun _=>True) : Is P s a r:=by
 unfold fnX at h
 split at h
 ·exact h.elim
 ·rename_i fn hf
  split at h
  ·exact h.elim
  ·rename_i c hb
   split at h
   ·rename_i hfb
    obtain ⟨fr,hx,hun⟩:=unpack_un h
    refine hun _ ?_
    intro w0 Γ0 ρ M lst vs w hlen hρ hR
    refine calls_of_wp hf hb ?_
    have hlt : Nat.ble vs.length fn.ntmps = true:=by
     unfold fnB at hfb
     simp only [Bool.and_eq_true] at hfb
     rw [hlen]
     exact hfb.1
    obtain ⟨s1,s2,s3⟩:=sat_start fn.ntmps vs hlt
    refine ex_ok hT hm c (n:=fn.ntmps) (w0:=w0) (Γ0:=Γ0) (ρ:=ρ) (M:=M) hx ?_ ⟨s1,s2,ρ,M,lst,Sub.refl M,fun _ _ _ h=>h,⟨fun t=>?_,hR.ob,hR.rho,hR.keys,hR.nd,hR.st,hR.gr⟩⟩
    ·have fin : ∀ (fr : Fr) (a : Act) (w : World),retK P s fn.results.toList fr (fun st=>st = r)->Here fn.ntmps w0 Γ0 (keptL (start s.ins.ob s.oob)) ρ M fr a w->a.defers = []/\∃ v,(results fn a.tmps).run P w = .ok v w/\Left w0 Γ0 ρ M s r (.returned v) w:=by
      intro fr a w hk ⟨h1,h2,ρ',M',lst',hM,hkp,hR'⟩
      unfold retK at hk
      split at hk
      ·rename_i xs hxs
       split at hk
       ·rename_i st hst
        subst hk
        obtain ⟨vs',r1,r2,r3⟩:=resL_ok h1 h2 hR' hxs
        obtain ⟨q,k1,q',k2,p1,p2,p3,rfl⟩:=packO_some hst
        refine ⟨h2,_,results_ok r1,?_⟩
        have hR2 : Rel w0 Γ0 ⟨numbered 0 xs,fr.ob,fr.base⟩ ρ' M' lst' (vals vs') w:=⟨fun t=>by
         have:=numbered_at xs 0 t
         rw [Nat.zero_add] at this
         show numbered 0 xs t = su\/∃ v,_/\SR M' ρ' (numbered 0 xs t) v
         rw [this]
         exact r3 t,hR'.ob,hR'.rho,hR'.keys,hR'.nd,hR'.st,hR'.gr⟩
        obtain ⟨fr2,_,hun2⟩:=unpack_un hu
        obtain ⟨fr',M2,lst2,g1,g2,g3,g4,g5⟩:=repackS hR2 (start_InjP _ _) p1 p2 p3 (hun2 (fun x=>x = fr2) rfl)
        refine ⟨_,_,linkR k2.mp ρ',M2,lst2,fr',rfl,fnB_ok hfb _ r2,Sub.trans hM g1,fun i u hu hi=>?_,fun i hi=>?_,g4,by rw [g2];exact hun2 _ rfl,g3⟩
        ·obtain ⟨y1,y2⟩:=start_mem (hρ i (by rw [hu];rfl)) hi
         rw [linkR_ob (g5 _ _ y1)]
         exact hkp i y2 u hu
        ·simp only [Bool.and_eq_true] at p3
         unfold linkR at hi
         split at hi
         ·rename_i hg;exact linked_ok p3.1.1 hg
         ·rename_i hg;exact linked_ok p3.1.1 hg
         ·cases hi
       ·exact hk.elim
      ·exact hk.elim
     exact ⟨fun fr a w hk hh=>fin fr a w hk hh,fun _ _ _ _ h=>h.elim,fun fr a w hk hh=>fin fr a w hk hh⟩
    ·rcases hR.sl t with e | ⟨v,e1,e2⟩
     ·exact .inl e
     ·refine .inr ⟨v,s3 t v ?_,e2⟩
      have:=slotsOf_at vs 0 t
      rw [Nat.zero_add] at this
      rw [this]
      exact e1
   ·exact h.elim
abbrev vI (z : Int) : D:=.v (.int .i64 z)
abbrev vB (b : Bool) : D:=.v (.bool b)
abbrev vS (s : ByteArray) : D:=.v (.string s)
section
variable {x : List D} {l : St'} {d : D} {ds : List D} {n sz : Nat}
theorem slcK_s {cs : List D} {k : Nat->List D->Prop} : slcK sz (.sl n sz cs) k = k n cs:=by
 show (match Nat.beq sz sz with
  | true=>k n cs
  | false=>False) = _
 rw [beq_self]
theorem ifK_d {p : Prop} [Decidable p] {k h : Prop} : ifK (decide p) k h = ((p->k)/\(¬ p->h)):=by
 by_cases hp : p <;> simp [ifK,hp]
theorem caK_of {Is : Sig->St'->St'->Prop} {s : Sig} {a r : St'} {k : St'->Prop} (h : Is s a r) (hk : k r) : caK Is s a k:=⟨r,h,hk⟩
theorem jn_of {X : (St'->Prop)->Prop} {k : St'->Prop} (h : X k) : jn X k:=⟨k,h,fun _ h=>h⟩
theorem Lp_on {σ : Type} {B : (St'->Prop)->St'->Prop} {s0 : St'} (st : σ->St') (μ : σ->Nat) (I : σ->Prop) (x0 : σ) (h0 : I x0) (e0 : s0 = st x0) (h : ∀ (x : σ) (next : St'->Prop),I x->(∀ y,μ y < μ x->I y->next (st y))->B next (st x)) : Lp B s0:=by
 refine ⟨fun m s=>∃ y,μ y = m/\I y/\s = st y,⟨_,x0,rfl,h0,e0⟩,?_⟩
 rintro m s ⟨y,rfl,hy,rfl⟩
 exact h y _ hy fun z h1 h2=>⟨μ z,h1,z,rfl,h2,rfl⟩
theorem Lp_to {B : (St'->Prop)->St'->Prop} {s0 : St'} (n : Nat) (st : Nat->St') (I : Nat->Prop) (h0 : I 0) (e0 : s0 = st 0) (h : ∀ (i : Nat) (next : St'->Prop),i<=n->I i->(i < n->I (i+1)->next (st (i+1)))->B next (st i)) : Lp B s0:=by
 refine Lp_on st (fun i=>n - i) (fun i=>i<=n/\I i) 0 ⟨Nat.zero_le _,h0⟩ e0 fun i next hi hn=>?_
 exact h i next hi.1 hi.2 fun h1 h2=>hn _ Q0 ⟨h1,h2⟩
end
theorem el_flat {α : Type} {enc : α->List D} {sz : Nat} (he : ∀ x,(enc x).length = sz) (xs : List α) {k : Nat} (hk : k < xs.length) : el (xs.flatMap enc) sz k = enc xs[k] :=
 flat_take he xs k _ (List.getElem?_eq_getElem hk)
theorem el_map {α : Type} {f : α->D} (xs : List α) {k : Nat} (hk : k < xs.length) : el (xs.map f) 1 k = [f xs[k]]:=by
 unfold el
 rw [Nat.mul_one,List.drop_eq_getElem_cons (by simpa using hk),List.take_succ_cons,List.take_zero]
 simp
theorem el_Ty (xs : List Ty) {k : Nat} (hk : k < xs.length) : el (xs.flatMap Ty.enc) 5 k = xs[k].enc:=el_flat Ty.enc_len xs hk
theorem cell_Ex (e : Ex) (i : Nat) : cell e.enc i = cell [dint e.id.shop,dint e.id.seq,dint e.id.index,dint e.kind,dint e.n,dint e.ref.shop,dint e.ref.seq,dint e.ref.index,dint e.ty.kind,dint e.ty.df.shop,dint e.ty.df.seq,dint e.ty.df.index,
  .sl e.ty.kids.length 5 (e.ty.kids.flatMap Ty.enc),.sl e.kids.length 15 (e.kids.flatMap Ex.enc),.sl e.names.length 1 (e.names.map dstr)] i:=by rw [Ex.enc_eq]
theorem cell_Ty (t : Ty) (i : Nat) : cell t.enc i = cell [dint t.kind,dint t.df.shop,dint t.df.seq,dint t.df.index,.sl t.kids.length 5 (t.kids.flatMap Ty.enc)] i:=by rw [Ty.enc_eq]
def cls (X : List D) : Nat->Nat->List D->List D
 | _,0,l=>l
 | j,n+1,l=>cell X j::cls X (j+1) n l
theorem pmr : (∀ (X : List D) (j : Nat) (l : List D),cls X j 0 l = l)/\(∀ (X : List D) (j n : Nat) (l : List D),cls X j (n+1) l = cell X j::cls X (j+1) n l)/\(∀ (x : List D) (l : St'),ent (x::l) 0 = x)/\(∀ (x : List D) (l : St') (n : Nat),ent (x::l) (n+1) = ent l n)/\(∀ (d : D) (ds : List D),cell (d::ds) 0 = d)/\(∀ (d : D) (ds : List D) (n : Nat),cell (d::ds) (n+1) = cell ds n) /\
  (∀ (z : Int) (k : Int->Prop),intK (.v (.int .i64 z)) k = k z)/\(∀ (z : Bool) (k : Bool->Prop),booK (.v (.bool z)) k = k z)/\(∀ (z : ByteArray) (k : ByteArray->Prop),strK (.v (.string z)) k = k z)/\(∀ (sz n : Nat) (cs : List D) (k : Nat->List D->Prop),slcK sz (.sl n sz cs) k = k n cs) /\
  (∀ p k : Prop,ckK p k = (p/\k))/\(∀ k h : Prop,ifK true k h = k)/\(∀ k h : Prop,ifK false k h = h)/\(∀ (p : Prop) (_ : Decidable p) (k h : Prop),ifK (decide p) k h = ((p->k)/\(¬ p->h))) /\
  (∀ (e : Ex) (i : Nat),cell e.enc i = cell [dint e.id.shop,dint e.id.seq,dint e.id.index,dint e.kind,dint e.n,dint e.ref.shop,dint e.ref.seq,dint e.ref.index,dint e.ty.kind,dint e.ty.df.shop,dint e.ty.df.seq,dint e.ty.df.index,
   .sl e.ty.kids.length 5 (e.ty.kids.flatMap Ty.enc),.sl e.kids.length 15 (e.kids.flatMap Ex.enc),.sl e.names.length 1 (e.names.map dstr)] i) /\
  (∀ (t : Ty) (i : Nat),cell t.enc i = cell [dint t.kind,dint t.df.shop,dint t.df.seq,dint t.df.index,.sl t.kids.length 5 (t.kids.flatMap Ty.enc)] i)/\(∀ n : Nat,((n : Int)).toNat = n) :=
 ⟨fun _ _ _=>rfl,fun _ _ _ _=>rfl,fun _ _=>rfl,fun _ _ _=>rfl,fun _ _=>rfl,fun _ _ _=>rfl,fun _ _=>rfl,fun _ _=>rfl,fun _ _=>rfl,fun _ _ _ _=>slcK_s,fun _ _=>rfl,fun _ _=>rfl,fun _ _=>rfl,fun _ _ _ _=>ifK_d,cell_Ex,cell_Ty,Int.toNat_natCast⟩
abbrev ρ0 : Nat->Option Value:=fun _=>none
def Plain (M : Mem) (sl : Nat->S) (vs : List Value) : Prop:=∀ t,sl t = su\/∃ v,vs[t]? = some v/\SR M ρ0 (sl t) v
def Old (P : Program) (s : Sig) (fr : Fr) (r : St') : Prop:=∀ (w0 : World) (M : Mem) (Γ : List As) (vs : List Value),vs.length = s.ins.sl.length->Plain M fr.sl vs->GrOk M ->
 CallOk P w0 M Γ s.f vs.toArray (Gives M Γ fun M' v=>∃ vs' fr',ResV s.out v vs'/\unpack propQ (outSh s) r (fun x=>x = fr')/\(∀ b,fr'.ob b = none)/\Plain M' fr'.sl vs')
theorem is_of_old {P : Program} {s : Sig} {a r : St'} (hi : s.ins.ob = []) (h : unpack propQ s.ins a fun fr=>Old P s fr r) : Is P s a r:=by
 obtain ⟨fr,h1,h2⟩:=unpack_un h
 refine h2 _ ?_
 intro w0 Γ0 ρ M lst vs w hlen hρ hR
 have hr : ρ = ρ0:=by
  funext i
  cases hc : ρ i with
  | none=>rfl
  | some v=>have:=hρ i (by rw [hc];rfl);rw [hi] at this;cases this
 subst hr
 have hl : lst = []:=by
  cases lst with
  | nil=>rfl
  | cons p l=>have:=hR.keys p (List.mem_cons_self ..);cases this
 subst hl
 have hs:=h1 w0 M Γ0 vs hlen hR.sl hR.gr w hR.st
 refine hs.mono ?_
 rintro e w' ⟨v,M',Γ',he,hg,hst⟩
 obtain ⟨hM,rfl,vs',fr',g1,g2,g3,g4⟩:=hg
 exact ⟨v,vs',ρ0,M',[],fr',he,g1,hM,(fun i u hu=>by cases hu),(fun i hi=>by cases hi),(fun p hp=>by cases hp),g2,⟨g4,(fun b o ho=>by rw [g3] at ho;cases ho),(fun b v hv=>by cases hv),(fun p hp=>by cases hp),List.nodup_nil,hst,hR.gr.mono hM⟩⟩
theorem is_of_row {P : Program} {s : Sig} {a : St'} {e sz n : Nat} {ds : List D} (hi : s.ins.ob = []) (ho : s.out = .c (.w 0)) (hoo : s.oob = [(0,.w e sz)]) (hn : n<=lim) (h : unpack propQ s.ins a fun fr=>∀ (w0 : World) (M : Mem) (Γ : List As) (vs : List Value),vs.length = s.ins.sl.length->Plain M fr.sl vs->GrOk M ->
  CallOk P w0 M Γ s.f vs.toArray (fun u M' Γ'=>∃ ad c us,u = .slice ad n c/\Sub M M'/\Γ' = .acc (.slice ad n c) e sz n us::Γ/\RdL M' ds us/\us.length = n * sz)) : Is P s a [[.sl n sz ds]]:=by
 obtain ⟨fr,h1,h2⟩:=unpack_un h
 refine h2 _ ?_
 intro w0 Γ0 ρ M lst vs w hlen hρ hR
 have hr : ρ = ρ0:=by
  funext i
  cases hc : ρ i with
  | none=>rfl
  | some v=>have:=hρ i (by rw [hc];rfl);rw [hi] at this;cases this
 subst hr
 have hl : lst = []:=by
  cases lst with
  | nil=>rfl
  | cons p l=>have:=hR.keys p (List.mem_cons_self ..);cases this
 subst hl
 have hs:=h1 w0 M Γ0 vs hlen hR.sl hR.gr w hR.st
 refine hs.mono ?_
 rintro e' w' ⟨v,M',Γ',he,⟨ad,c,us,rfl,hM,rfl,hrd,hul⟩,hst⟩
 have hh : ∀ i (u : Value),(fun i=>if i = 0 then some (Value.slice ad n c) else none) i = some u->i = 0:=fun i u hu=>by
  by_cases e0 : i = 0
  ·exact e0
  ·simp [e0] at hu
 refine ⟨_,[.slice ad n c],fun i=>if i = 0 then some (.slice ad n c) else none,M',[(0,.acc (.slice ad n c) e sz n us)],⟨fun i=>match Nat.beq i 0 with
  | true=>.c (.w 0)
  | false=>su,fun k=>match Nat.beq k 0 with
  | true=>some (.w e sz n ds)
  | false=>none,1⟩,he,?_,hM,(fun i u hu=>by cases hu),(fun i hi=>?_),(fun p hp=>?_),?_,⟨fun t=>?_,fun b o hb=>?_,fun b v hv=>?_,fun p hp=>?_,Q2,hst,hR.gr.mono hM⟩⟩
 ·rw [ho];rfl
 ·obtain ⟨u,hu⟩:=Option.isSome_iff_exists.1 hi
  rw [hh i u hu,hoo]
  exact List.mem_cons_self ..
 ·rw [List.mem_singleton.1 hp,hoo]
  exact List.mem_cons_self ..
 ·unfold outSh
  rw [ho,hoo]
  have key : slcK sz (.sl n sz ds) (fun m cs=>(⟨fun i=>match Nat.beq i 0 with
   | true=>.c (.w 0)
   | false=>su,addO 0 (.w e sz m cs) (fun _=>none),1⟩ : Fr) = ⟨fun i=>match Nat.beq i 0 with
   | true=>.c (.w 0)
   | false=>su,fun k=>match Nat.beq k 0 with
   | true=>some (.w e sz n ds)
   | false=>none,1⟩):=by
   rw [slcK_s]
   rfl
  exact key
 ·cases t with
  | zero=>exact .inr ⟨_,rfl,Q2,ad,n,c,rfl⟩
  | succ t=>exact .inl rfl
 ·cases b with
  | zero =>
   obtain rfl : O.w e sz n ds = o:=Option.some.inj hb
   exact ⟨ad,c,us,Q2,List.mem_cons_self ..,hrd,hul,hn⟩
  | succ b=>cases hb
 ·left
  rw [hh b v hv]
  exact Nat.lt_succ_self 0
 ·rw [List.mem_singleton.1 hp];rfl
theorem old_of_call {P : Program} {s : Sig} {fr : Fr} {b : Bool} {w0 : World} {M : Mem} {vs : List Value} (hM : GrOk M) (h : CallFr P s fr [[.v (.bool b)]]) (hlen : vs.length = s.ins.sl.length) (hp : Plain M fr.sl vs) (hob : ∀ b,fr.ob b = none)
  (ho : s.out = .c .bo) (hoo : s.oob = []) : CallOk P w0 M [] s.f vs.toArray (fun u M' Γ'=>u = .bool b/\M' = M/\Γ' = []):=by
 intro w hst
 refine (h w0 [] ρ0 M [] vs w hlen (fun i hi=>by cases hi) ⟨hp,(fun b o ho=>by rw [hob] at ho;cases ho),(fun b v hv=>by cases hv),(fun p hp=>by cases hp),List.nodup_nil,hst,hM⟩).mono ?_
 rintro e w' ⟨v,us,ρ',M',lst',fr',rfl,h1,h2,h3,h4,h5,h6,h7⟩
 have hst' : St w0 M' (lst'.map Prod.snd++[]) w':=h7.st
 unfold outSh at h6
 rw [hoo,ho] at h6
 rw [ho] at h1
 obtain rfl : us = [v]:=h1
 have hv : v = .bool b:=by
  subst h6
  obtain h8 | ⟨u,h8,h9⟩:=h7.sl 0
  ·cases h8
  ·obtain rfl : v = u:=Option.some.inj h8
   have h10 : Rd M' (.v (.bool b)) v:=h9
   unfold Rd at h10
   exact h10.1
 exact ⟨v,M,[],rfl,⟨hv,rfl,rfl⟩,hst'.os,hst'.tape,hst'.output,hst'.size,(fun b o hb=>hst'.mem b o (h2 b o hb)),(fun x hx=>by cases hx),List.nodup_nil⟩
section
variable {J : Sig->St'->St'->Prop} {P : Program} {tb : Tb} {n : Nat} {H : Hint} {kp : List Nat}
theorem slcK_at {sz m : Nat} {cs : List D} {k : Nat->List D->Prop} (h : k m cs) : slcK sz (.sl m sz cs) k:=by rw [slcK_s];exact h
theorem run_un {fr : Fr} : ∀ (p : Prg) {fs fo : List Nat} {K : Option S->List (Nat×O)->List Nat->List Nat->Prop},run J fr p fs fo K->∃ v ob fs' fo',K v ob fs' fo'/\∀ K' : Option S->List (Nat×O)->List Nat->List Nat->Prop,K' v ob fs' fo'->run J fr p fs fo K'
 | .no,_,_,_,h=>h.elim
 | .ret v ob,fs,fo,_,h=>⟨v,ob,fs,fo,h,fun _ h=>h⟩
 | .rdS t k,_,_,_,h=>run_un (k (fr.sl t)) h
 | .rdO b k,_,_,_,h=>run_un (k (fr.ob b)) h
 | .i _ k,_,_,_,h=>by
  obtain ⟨z,rfl,h2⟩:=intK_iff h
  obtain ⟨v,ob,f1,f2,h3,h4⟩:=run_un (k z) h2
  exact ⟨v,ob,f1,f2,h3,fun K' hk=>h4 K' hk⟩
 | .bo _ k,_,_,_,h=>by
  obtain ⟨z,rfl,h2⟩:=booK_iff h
  obtain ⟨v,ob,f1,f2,h3,h4⟩:=run_un (k z) h2
  exact ⟨v,ob,f1,f2,h3,fun K' hk=>h4 K' hk⟩
 | .st _ k,_,_,_,h=>by
  obtain ⟨z,rfl,h2⟩:=strK_iff h
  obtain ⟨v,ob,f1,f2,h3,h4⟩:=run_un (k z) h2
  exact ⟨v,ob,f1,f2,h3,fun K' hk=>h4 K' hk⟩
 | .ik kd _ k,_,_,_,h=>by
  obtain ⟨z,rfl,h2⟩:=ikK_iff h
  obtain ⟨v,ob,f1,f2,h3,h4⟩:=run_un (k z) h2
  exact ⟨v,ob,f1,f2,h3,fun K' hk=>⟨rfl,h4 K' hk⟩⟩
 | .by_ kd cs k,_,_,_,h=>by
  obtain ⟨z,hz,h2⟩:=byK_iff h
  obtain ⟨v,ob,f1,f2,h3,h4⟩:=run_un (k z) h2
  refine ⟨v,ob,f1,f2,h3,fun K' hk=>?_⟩
  show byK kd cs _
  unfold byK
  rw [hz]
  exact h4 K' hk
 | .sc sz _ k,_,_,_,h=>by
  obtain ⟨m,cs,rfl,h2⟩:=slcK_iff h
  obtain ⟨v,ob,f1,f2,h3,h4⟩:=run_un (k m cs) h2
  exact ⟨v,ob,f1,f2,h3,fun K' hk=>slcK_at (h4 K' hk)⟩
 | .if_ true p _,_,_,_,h=>run_un p h
 | .if_ false _ q,_,_,_,h=>run_un q h
 | .ck _ _ k,_,_,_,h=>by
  obtain ⟨v,ob,f1,f2,h3,h4⟩:=run_un k h.2
  exact ⟨v,ob,f1,f2,h3,fun K' hk=>⟨h.1,h4 K' hk⟩⟩
 | .ca _ _ k,_,_,_,⟨r,h1,h2⟩=>by
  obtain ⟨v,ob,f1,f2,h3,h4⟩:=run_un (k r) h2
  exact ⟨v,ob,f1,f2,h3,fun K' hk=>⟨r,h1,h4 K' hk⟩⟩
theorem runL_un {ops : Array Oper} {gs : List Nat} : ∀ (l : List Oper) (i : Nat) (fr : Fr) (fps : List (Nat×Fp)) {K : Fr->List (Nat×Fp)->Prop},runL J P tb n ops gs l i fr fps K->∃ fr' l',K fr' l'/\∀ K' : Fr->List (Nat×Fp)->Prop,K' fr' l'->runL J P tb n ops gs l i fr fps K'
 | [],_,fr,fps,_,h=>⟨fr,fps,h,fun _ h=>h⟩
 | o::os,i,fr,fps,K,h=>by
  unfold runL at h
  obtain ⟨v,ob,f1,f2,h3,h4⟩:=run_un _ h
  cases hf : fits n o.dst v with
  | false=>rw [hf] at h3;exact h3.elim
  | true =>
   rw [hf] at h3
   simp only [forceV_eq,forceOs_eq] at h3
   obtain ⟨fr',l',h5,h6⟩:=runL_un os _ _ _ h3
   refine ⟨fr',l',h5,fun K' hk=>?_⟩
   unfold runL
   refine h4 _ ?_
   rw [hf]
   simp only [forceV_eq,forceOs_eq]
   exact h6 K' hk
inductive Ot where
 | n (fr : Fr)
 | x (i : Nat) (fr : Fr)
 | r (fr : Fr)
def Kt.at (K : Kt) : Ot->Prop
 | .n fr=>K.n fr
 | .x i fr=>K.x i fr
 | .r fr=>K.r fr
theorem packK_un {sh : Sh} {fr : Fr} {k : St'->Prop} (h : packK kp sh fr k) : ∃ st,k st/\∀ k' : St'->Prop,k' st->packK kp sh fr k':=by
 unfold packK at h
 split at h
 ·rename_i st x hp
  split at h
  ·rename_i hb
   refine ⟨st,h,fun k' hk=>?_⟩
   unfold packK
   rw [hp]
   simp only [hb]
   exact hk
  ·exact h.elim
 ·exact h.elim
theorem unr_un {B : Fr->Kt->Prop} (hB : ∀ {fr K},B fr K->∃ o : Ot,K.at o/\∀ K' : Kt,K'.at o->B fr K') : ∀ (k : Nat) {fr : Fr} {K : Kt},unr (fun fr next=>B fr ⟨next,K.x,K.r⟩) k fr->∃ o : Ot,K.at o/\∀ K' : Kt,K'.at o->unr (fun fr next=>B fr ⟨next,K'.x,K'.r⟩) k fr
 | 0,_,_,h=>h.elim
 | k+1,fr,K,h=>by
  obtain ⟨o,h1,h2⟩:=hB h
  cases o with
  | n fr' =>
   obtain ⟨o',h3,h4⟩:=unr_un (B:=B) hB k (fr:=fr') (K:=K) h1
   exact ⟨o',h3,fun K' hk=>h2 ⟨_,K'.x,K'.r⟩ (show unr _ k fr' from h4 K' hk)⟩
  | x i fr'=>exact ⟨.x i fr',h1,fun K' hk=>h2 ⟨_,K'.x,K'.r⟩ hk⟩
  | r fr'=>exact ⟨.r fr',h1,fun K' hk=>h2 ⟨_,K'.x,K'.r⟩ hk⟩
theorem lp_un {B : St'->Kt->(St'->Prop)->Prop} (hB : ∀ {st : St'} {K : Kt} {next : St'->Prop},B st K next->(∃ st',next st'/\∀ (K' : Kt) (next' : St'->Prop),next' st'->B st K' next')\/∃ o : Ot,K.at o/\∀ (K' : Kt) (next' : St'->Prop),K'.at o->B st K' next') {K : Kt} {I : Nat->St'->Prop}
  (hI : ∀ m s,I m s->B s K (fun s'=>∃ m',m' < m/\I m' s')) : ∀ (m : Nat) (s : St'),I m s->∃ o : Ot,K.at o/\∀ K' : Kt,K'.at o->∃ I' : Nat->St'->Prop,I' m s/\∀ m s,I' m s->B s K' (fun s'=>∃ m',m' < m/\I' m' s'):=by
 intro m
 induction m using Nat.strongRecOn with
 | _ m ih =>
  intro s hs
  rcases hB (hI m s hs) with ⟨st',⟨m',hlt,h1⟩,h2⟩ | ⟨o,h1,h2⟩
  ·obtain ⟨o,h3,h4⟩:=ih m' hlt st' h1
   refine ⟨o,h3,fun K' hk=>?_⟩
   obtain ⟨I',h5,h6⟩:=h4 K' hk
   refine ⟨fun k t=>(k = m/\t = s)\/(k < m/\I' k t),.inl ⟨rfl,rfl⟩,?_⟩
   rintro k t (⟨rfl,rfl⟩ | ⟨hk1,hk2⟩)
   ·exact h2 K' _ ⟨m',hlt,.inr ⟨hlt,h5⟩⟩
   ·rcases hB (h6 k t hk2) with ⟨st2,⟨m2,hlt2,h7⟩,h8⟩ | ⟨o2,h7,h8⟩
    ·exact h8 K' _ ⟨m2,hlt2,.inr ⟨Q0,h7⟩⟩
    ·exact h8 K' _ h7
  ·refine ⟨o,h1,fun K' hk=>⟨fun k t=>k = m/\t = s,⟨rfl,rfl⟩,?_⟩⟩
   rintro k t ⟨rfl,rfl⟩
   exact h2 K' _ hk
theorem ex_un : ∀ (c : Code) {fr : Fr} {K : Kt},ex J P tb n H kp c fr K->∃ o : Ot,K.at o/\∀ K' : Kt,K'.at o->ex J P tb n H kp c fr K'
 | .skip,fr,K,h=>⟨.n fr,h,fun _ h=>h⟩
 | .label l,fr,K,h=>⟨.n fr,h,fun _ h=>h⟩
 | .exit i,fr,K,h=>⟨.x i fr,h,fun _ h=>h⟩
 | .ret,fr,K,h=>⟨.r fr,h,fun _ h=>h⟩
 | .region id ops draw,fr,K,h=>by
  unfold ex at h
  obtain ⟨fr',l',h1,h2⟩:=runL_un _ _ _ _ h
  cases draw with
  | false=>exact ⟨.n fr'.past,h1,fun K' hk=>by unfold ex;exact h2 _ hk⟩
  | true =>
   dsimp only at h1
   split at h1
   ·rename_i hb
    refine ⟨.n fr'.past,h1,fun K' hk=>?_⟩
    unfold ex
    refine h2 _ ?_
    dsimp only
    rw [hb]
    exact hk
   ·exact h1.elim
 | .seq x y,fr,K,h=>by
  unfold ex at h
  cases hg : getH H.jn (firstR y) with
  | none =>
   rw [hg] at h
   obtain ⟨o,h1,h2⟩:=ex_un x h
   cases o with
   | n fr' =>
    obtain ⟨o',h3,h4⟩:=ex_un y h1
    refine ⟨o',h3,fun K' hk=>?_⟩
    unfold ex
    rw [hg]
    exact h2 ⟨_,K'.x,K'.r⟩ (h4 K' hk)
   | x i fr'=>exact ⟨.x i fr',h1,fun K' hk=>by unfold ex;rw [hg];exact h2 ⟨_,K'.x,K'.r⟩ hk⟩
   | r fr'=>exact ⟨.r fr',h1,fun K' hk=>by unfold ex;rw [hg];exact h2 ⟨_,K'.x,K'.r⟩ hk⟩
  | some sh =>
   rw [hg] at h
   obtain ⟨I,h1,h2⟩:=h
   obtain ⟨o,h3,h4⟩:=ex_un x h1
   cases o with
   | n fr' =>
    obtain ⟨st,h5,h6⟩:=packK_un h3
    obtain ⟨fr2,h7,h8⟩:=unpack_un (h2 st h5)
    obtain ⟨o',h9,h10⟩:=ex_un y h7
    refine ⟨o',h9,fun K' hk=>?_⟩
    unfold ex
    rw [hg]
    refine ⟨fun s=>s = st,h4 ⟨_,K'.x,K'.r⟩ (h6 _ rfl),fun s hs=>?_⟩
    rw [hs]
    exact h8 _ (h10 K' hk)
   | x i fr'=>exact ⟨.x i fr',h3,fun K' hk=>by unfold ex;rw [hg];exact ⟨fun _=>False,h4 ⟨_,K'.x,K'.r⟩ hk,fun s hs=>hs.elim⟩⟩
   | r fr'=>exact ⟨.r fr',h3,fun K' hk=>by unfold ex;rw [hg];exact ⟨fun _=>False,h4 ⟨_,K'.x,K'.r⟩ hk,fun s hs=>hs.elim⟩⟩
 | .cond t x y,fr,K,h=>by
  unfold ex evB at h
  split at h
  ·rename_i t
   split at h
   ·rename_i v hv
    obtain ⟨z,rfl,h⟩:=booK_iff h
    cases z with
    | true =>
     obtain ⟨o,h1,h2⟩:=ex_un x h
     refine ⟨o,h1,fun K' hk=>?_⟩
     unfold ex evB
     simp only [hv]
     exact h2 K' hk
    | false =>
     obtain ⟨o,h1,h2⟩:=ex_un y h
     refine ⟨o,h1,fun K' hk=>?_⟩
     unfold ex evB
     simp only [hv]
     exact h2 K' hk
   ·exact h.elim
  ·exact h.elim
 | .block i c,fr,K,h=>by
  unfold ex at h
  obtain ⟨o,h1,h2⟩:=ex_un c h
  cases o with
  | n fr'=>exact ⟨.n fr',h1,fun K' hk=>by unfold ex;exact h2 ⟨K'.n,_,K'.r⟩ hk⟩
  | r fr'=>exact ⟨.r fr',h1,fun K' hk=>by unfold ex;exact h2 ⟨K'.n,_,K'.r⟩ hk⟩
  | x j fr' =>
   have h1 : (match Nat.beq j i with | true=>K.n fr' | false=>K.x j fr'):=h1
   cases hb : Nat.beq j i with
   | true =>
    rw [hb] at h1
    refine ⟨.n fr',h1,fun K' hk=>?_⟩
    unfold ex
    refine h2 ⟨K'.n,_,K'.r⟩ ?_
    show (match Nat.beq j i with | true=>K'.n fr' | false=>K'.x j fr')
    rw [hb]
    exact hk
   | false =>
    rw [hb] at h1
    refine ⟨.x j fr',h1,fun K' hk=>?_⟩
    unfold ex
    refine h2 ⟨K'.n,_,K'.r⟩ ?_
    show (match Nat.beq j i with | true=>K'.n fr' | false=>K'.x j fr')
    rw [hb]
    exact hk
 | .scope c,fr,K,h=>by
  unfold ex at h
  obtain ⟨o,h1,h2⟩:=ex_un c h
  exact ⟨o,h1,fun K' hk=>by unfold ex;exact h2 K' hk⟩
 | .loop c,fr,K,h=>by
  unfold ex at h
  cases hg : getU H.un (firstR c) with
  | some k =>
   rw [hg] at h
   obtain ⟨o,h1,h2⟩:=unr_un (B:=fun fr K=>ex J P tb n H kp c fr K) (fun h=>ex_un c h) k h
   refine ⟨o,h1,fun K' hk=>?_⟩
   unfold ex
   rw [hg]
   exact h2 K' hk
  | none =>
   rw [hg] at h
   dsimp only at h
   cases hp : pickSh fr (getHs H.lp (firstR c)) with
   | none=>rw [hp] at h;exact h.elim
   | some sh =>
    rw [hp] at h
    obtain ⟨st,⟨I,⟨m,hm⟩,hI⟩,h3⟩:=packK_un h
    obtain ⟨o,h4,h5⟩:=lp_un (B:=fun st K next=>unpack propQ sh st fun fr=>ex J P tb n H kp c fr ⟨fun fr=>packK kp sh fr next,K.x,K.r⟩) (fun {st K next} h=>by
     obtain ⟨fr2,h6,h7⟩:=unpack_un h
     obtain ⟨o,h8,h9⟩:=ex_un c h6
     cases o with
     | n fr3 =>
      obtain ⟨st2,h10,h11⟩:=packK_un h8
      exact .inl ⟨st2,h10,fun K' next' hn=>h7 _ (h9 ⟨_,K'.x,K'.r⟩ (h11 _ hn))⟩
     | x i fr3=>exact .inr ⟨.x i fr3,h8,fun K' next' hk=>h7 _ (h9 ⟨_,K'.x,K'.r⟩ hk)⟩
     | r fr3=>exact .inr ⟨.r fr3,h8,fun K' next' hk=>h7 _ (h9 ⟨_,K'.x,K'.r⟩ hk)⟩) hI m st hm
    refine ⟨o,h4,fun K' hk=>?_⟩
    obtain ⟨I',h6,h7⟩:=h5 K' hk
    unfold ex
    rw [hg]
    dsimp only
    rw [hp]
    exact h3 _ ⟨I',⟨m,h6⟩,h7⟩
theorem retK_un {s : Sig} {rs : List ResultVar} {fr : Fr} {K : St'->Prop} (h : retK P s rs fr K) : ∃ r,K r/\retK P s rs fr fun st=>st = r:=by
 unfold retK at h ⊢
 split at h
 ·rename_i xs hx
  split at h
  ·rename_i st hst
   exact ⟨st,h,rfl⟩
  ·exact h.elim
 ·exact h.elim
theorem fnX_un {s : Sig} {a : St'} {K : St'->Prop} (h : fnX J P tb H s a K) : ∃ r,K r/\fnX J P tb H s a fun st=>st = r:=by
 unfold fnX at h ⊢
 split at h
 ·exact h.elim
 ·rename_i fn hf
  split at h
  ·exact h.elim
  ·rename_i c hb
   split at h
   ·rename_i hfb
    obtain ⟨fr,h1,h2⟩:=unpack_un h
    obtain ⟨o,h3,h4⟩:=ex_un c h1
    cases o with
    | n fr'=>obtain ⟨r,h5,h6⟩:=retK_un h3;exact ⟨r,h5,h2 _ (h4 _ h6)⟩
    | x i fr'=>exact h3.elim
    | r fr'=>obtain ⟨r,h5,h6⟩:=retK_un h3;exact ⟨r,h5,h2 _ (h4 _ h6)⟩
   ·exact h.elim
end
theorem fn_some {P : Program} {tb : Tb} (hT : TbOk P tb) (hm : P.follows .mixedOrders = true) {H : Hint} {s : Sig} {a : St'} {K : St'->Prop} (h : fnX (Is P) P tb H s a K) (hu : ∀ r,K r->unpack propQ (outSh s) r fun _=>True) : ∃ r,K r/\Is P s a r:=by
 obtain ⟨r,h1,h2⟩:=fnX_un h
 exact ⟨r,h1,fn_ok hT hm h2 (hu r h1)⟩
section
variable {β : Type}
def intO (x : D) (k : Int->Option β) : Option β:=match x with
 | .v (.int .i64 z)=>k z
 | _=>none
def booO (x : D) (k : Bool->Option β) : Option β:=match x with
 | .v (.bool z)=>k z
 | _=>none
def strO (x : D) (k : ByteArray->Option β) : Option β:=match x with
 | .v (.string z)=>k z
 | _=>none
def ikO (kd : IntKind) (x : D) (k : Int->Option β) : Option β:=match x with
 | .v (.int kd' z)=>(match decEq kd' kd with
   | .isTrue _=>k z
   | .isFalse _=>none)
 | _=>none
def byO (kd : IntKind) (cs : List D) (k : List Int->Option β) : Option β:=match intsOf kd cs with
 | some b=>k b
 | none=>none
def slcO (sz : Nat) (x : D) (k : Nat->List D->Option β) : Option β:=match x with
 | .sl n s cs=>(match Nat.beq s sz with
   | true=>k n cs
   | false=>none)
 | _=>none
def ifO (b : Bool) (k h : Option β) : Option β:=match b with
 | true=>k
 | false=>h
def optQ : Qs (Option β):=⟨intO,booO,slcO⟩
def runO (ca : Sig->St'->Option St') (fr : Fr) : Prg->List Nat->List Nat->(Option S->List (Nat×O)->List Nat->List Nat->Option β)->Option β
 | .no,_,_,_=>none
 | .ret v ob,fs,fo,K=>K v ob fs fo
 | .rdS t k,fs,fo,K=>runO ca fr (k (fr.sl t)) (t::fs) fo K
 | .rdO b k,fs,fo,K=>runO ca fr (k (fr.ob b)) fs (b::fo) K
 | .i x k,fs,fo,K=>intO x fun z=>runO ca fr (k z) fs fo K
 | .bo x k,fs,fo,K=>booO x fun z=>runO ca fr (k z) fs fo K
 | .st x k,fs,fo,K=>strO x fun z=>runO ca fr (k z) fs fo K
 | .ik kd x k,fs,fo,K=>ikO kd x fun z=>runO ca fr (k z) fs fo K
 | .by_ kd cs k,fs,fo,K=>byO kd cs fun z=>runO ca fr (k z) fs fo K
 | .sc sz x k,fs,fo,K=>slcO sz x fun n cs=>runO ca fr (k n cs) fs fo K
 | .if_ b p q,fs,fo,K=>ifO b (runO ca fr p fs fo K) (runO ca fr q fs fo K)
 | .ck _ d k,fs,fo,K=>match d with
   | .isTrue _=>runO ca fr k fs fo K
   | .isFalse _=>none
 | .ca s a k,fs,fo,K=>match ca s a with
   | some r=>runO ca fr (k r) fs fo K
   | none=>none
def fC : C->(C->Option β)->Option β
 | .d x,k=>k (.d x)
 | .n,k=>k .n
 | .l sz,k=>k (.l sz)
 | .p b o,k=>k (.p b o)
 | .q b sz i j,k=>k (.q b sz i j)
 | .w b,k=>k (.w b)
 | .m b,k=>k (.m b)
 | .f g cs,k=>k (.f g cs)
 | .z,k=>k .z
 | .u,k=>k .u
 | .e b i,k=>k (.e b i)
 | .y b q sz l n,k=>k (.y b q sz l n)
def fCs : List C->(List C->Option β)->Option β
 | [],k=>k []
 | c::cs,k=>fC c fun c=>fCs cs fun cs=>k (c::cs)
def fS : S->(S->Option β)->Option β
 | .c x,k=>fC x fun x=>k (.c x)
 | .a n ds,k=>k (.a n ds)
 | .g cs,k=>fCs cs fun cs=>k (.g cs)
 | .r n ds o,k=>k (.r n ds o)
 | .t l,k=>k (.t l)
def fV : Option S->(Option S->Option β)->Option β
 | none,k=>k none
 | some v,k=>fS v fun v=>k (some v)
def fO : O->(O->Option β)->Option β
 | .b e cs,k=>fCs cs fun cs=>k (.b e cs)
 | .a e n ds,k=>k (.a e n ds)
 | .w e sz n ds,k=>k (.w e sz n ds)
 | .v e sz n cs,k=>fCs cs fun cs=>k (.v e sz n cs)
 | .s sz n ds,k=>k (.s sz n ds)
 | .m t ag vs n ds,k=>k (.m t ag vs n ds)
 | .gone,k=>k .gone
def fOs : List (Nat×O)->(List (Nat×O)->Option β)->Option β
 | [],k=>k []
 | (b,o)::l,k=>fO o fun o=>fOs l fun l=>k ((b,o)::l)
def runLO (ca : Sig->St'->Option St') (P : Program) (tb : Tb) (n : Nat) (ops : Array Oper) (gs : List Nat) : List Oper->Nat->Fr->List (Nat×Fp)->(Fr->List (Nat×Fp)->Option β)->Option β
 | [],_,fr,l,K=>K fr l
 | o::os,i,fr,l,K=>runO ca fr (opG P tb fr.base ops gs o) [] [] fun v ob fs fo=>match fits n o.dst v with
   | true=>fV v fun v=>fOs ob fun ob=>runLO ca P tb n ops gs os (i+1) ((fr.puts o.dst v).turn ob) ((i,⟨o.dst,fs,fo,ob.map Prod.fst⟩)::l) K
   | false=>none
structure KtO (β : Type) where
 n : Fr->Option β
 x : Nat->Fr->Option β
 r : Fr->Option β
def packKO (kp : List Nat) (sh : Sh) (fr : Fr) (k : St'->Option β) : Option β:=match pack sh fr with
 | some (st,x)=>(match keptB x.mp kp with
   | true=>k st
   | false=>none)
 | none=>none
def unrO (B : Fr->(Fr->Option β)->Option β) : Nat->Fr->Option β
 | 0,_=>none
 | n+1,fr=>B fr fun fr'=>unrO B n fr'
def evO (fr : Fr) (t : Operand) (k : Bool->Option β) : Option β:=match t with
 | .tmp t=>(match fr.sl t with
   | .c (.d x)=>booO x k
   | _=>none)
 | _=>none
def loopO (kp : List Nat) (sh : Sh) (B : Fr->(Fr->Option β)->Option β) : Nat->St'->Option β
 | 0,_=>none
 | m+1,st=>unpack optQ sh st fun fr=>B fr fun fr'=>packKO kp sh fr' (loopO kp sh B m)
def exO (ca : Sig->St'->Option St') (N : Nat) (P : Program) (tb : Tb) (n : Nat) (H : Hint) (kp : List Nat) : Code->Fr->KtO β->Option β
 | .skip,fr,K=>K.n fr
 | .label _,fr,K=>K.n fr
 | .region _ ops draw,fr,K=>runLO ca P tb n ops (guardsL ops ops.toList) ops.toList 0 fr [] fun fr l=>(match draw with
   | true=>(match calm (Region.before ops) l && edgesB ops.toList 0 with
     | true=>K.n fr.past
     | false=>none)
   | false=>K.n fr.past)
 | .seq a b,fr,K=>(match getH H.jn (firstR b) with
   | none=>exO ca N P tb n H kp a fr ⟨fun fr=>exO ca N P tb n H kp b fr K,K.x,K.r⟩
   | some sh=>exO ca N P tb n H kp a fr ⟨fun fr=>packKO kp sh fr fun st=>unpack optQ sh st fun fr=>exO ca N P tb n H kp b fr K,K.x,K.r⟩)
 | .cond t a b,fr,K=>evO fr t fun z=>ifO z (exO ca N P tb n H kp a fr K) (exO ca N P tb n H kp b fr K)
 | .block i c,fr,K=>exO ca N P tb n H kp c fr ⟨K.n,fun j fr=>(match Nat.beq j i with
   | true=>K.n fr
   | false=>K.x j fr),K.r⟩
 | .loop c,fr,K=>(match getU H.un (firstR c) with
  | some k=>unrO (fun fr next=>exO ca N P tb n H kp c fr ⟨next,K.x,K.r⟩) k fr
  | none=>match pickSh fr (getHs H.lp (firstR c)) with
   | none=>none
   | some sh=>packKO kp sh fr (loopO kp sh (fun fr next=>exO ca N P tb n H kp c fr ⟨next,K.x,K.r⟩) N))
 | .exit i,fr,K=>K.x i fr
 | .scope c,fr,K=>exO ca N P tb n H kp c fr K
 | .ret,fr,K=>K.r fr
 | _,_,_=>none
def retKO (P : Program) (s : Sig) (rs : List ResultVar) (fr : Fr) : Option St':=match resL P fr rs with
 | some xs=>packOut s ⟨numbered 0 xs,fr.ob,fr.base⟩
 | none=>none
def fnO (ca : Sig->St'->Option St') (N : Nat) (P : Program) (tb : Tb) (H : Hint) (s : Sig) (a : St') : Option St':=match P.funcs[s.f]? with
 | none=>none
 | some fn=>match fn.body with
   | none=>none
   | some c=>match fnB s fn with
     | true=>unpack optQ s.ins a fun fr=>exO ca N P tb fn.ntmps H (keptL (start s.ins.ob s.oob)) c fr ⟨fun fr=>retKO P s fn.results.toList fr,fun _ _=>none,fun fr=>retKO P s fn.results.toList fr⟩
     | false=>none
def evF (N : Nat) (P : Program) (tab : Sig->Option (Tb×Hint)) (ext : Sig->St'->Option St') : Nat->Sig->St'->Option St'
 | 0,_,_=>none
 | m+1,s,a=>match ext s a with
  | some r=>some r
  | none=>match tab s with
   | some (tb,H)=>(match fnO (evF N P tab ext m) N P tb H s a with
     | some r=>(match unpack optQ (outSh s) r (fun _=>some ()) with
       | some _=>some r
       | none=>none)
     | none=>none)
   | none=>none
end
section
variable {β : Type} {x : β}
theorem intO_ok {d : D} {k : Int->Option β} {k' : Int->Prop} (hk : ∀ z,k z = some x->k' z) (h : intO d k = some x) : intK d k':=by
 unfold intO at h
 unfold intK
 split at h
 · exact hk _ h
 · cases h
theorem booO_ok {d : D} {k : Bool->Option β} {k' : Bool->Prop} (hk : ∀ z,k z = some x->k' z) (h : booO d k = some x) : booK d k':=by
 unfold booO at h
 unfold booK
 split at h
 · exact hk _ h
 · cases h
theorem strO_ok {d : D} {k : ByteArray->Option β} {k' : ByteArray->Prop} (hk : ∀ z,k z = some x->k' z) (h : strO d k = some x) : strK d k':=by
 unfold strO at h
 unfold strK
 split at h
 · exact hk _ h
 · cases h
theorem ikO_ok {kd : IntKind} {d : D} {k : Int->Option β} {k' : Int->Prop} (hk : ∀ z,k z = some x->k' z) (h : ikO kd d k = some x) : ikK kd d k':=by
 unfold ikO at h
 unfold ikK
 split at h
 · split at h
   · rename_i e _
     exact ⟨e,hk _ h⟩
   · cases h
 · cases h
theorem byO_ok {kd : IntKind} {cs : List D} {k : List Int->Option β} {k' : List Int->Prop} (hk : ∀ z,k z = some x->k' z) (h : byO kd cs k = some x) : byK kd cs k':=by
 unfold byO at h
 unfold byK
 cases hb : intsOf kd cs with
 | none=>rw [hb] at h;cases h
 | some b=>rw [hb] at h;exact hk _ h
theorem slcO_ok {sz : Nat} {d : D} {k : Nat->List D->Option β} {k' : Nat->List D->Prop} (hk : ∀ n cs,k n cs = some x->k' n cs) (h : slcO sz d k = some x) : slcK sz d k':=by
 unfold slcO at h
 unfold slcK
 cases d with
 | sl n t cs =>
   dsimp only at h ⊢
   cases hb : Nat.beq t sz with
   | true=>rw [hb] at h;exact hk _ _ h
   | false=>rw [hb] at h;cases h
 | _=>cases h
theorem ifO_ok {b : Bool} {k g : Option β} {k' g' : Prop} (hk : k = some x->k') (hg : g = some x->g') (h : ifO b k g = some x) : ifK b k' g':=by
 cases b
 · exact hg h
 · exact hk h
theorem fC_eq (c : C) (k : C->Option β) : fC c k = k c:=by cases c <;> rfl
theorem fCs_eq : ∀ (l : List C) (k : List C->Option β),fCs l k = k l
 | [],_=>rfl
 | c::l,k=>by rw [fCs,fC_eq,fCs_eq l]
theorem fS_eq (s : S) (k : S->Option β) : fS s k = k s:=by
 cases s with
 | c x=>exact fC_eq x _
 | g cs=>exact fCs_eq cs _
 | _=>rfl
theorem fV_eq (v : Option S) (k : Option S->Option β) : fV v k = k v:=by
 cases v with
 | none=>rfl
 | some v=>exact fS_eq v _
theorem fO_eq (o : O) (k : O->Option β) : fO o k = k o:=by
 cases o with
 | b e cs=>exact fCs_eq cs _
 | v e sz n cs=>exact fCs_eq cs _
 | _=>rfl
theorem fOs_eq : ∀ (l : List (Nat×O)) (k : List (Nat×O)->Option β),fOs l k = k l
 | [],_=>rfl
 | (b,o)::l,k=>by rw [fOs,fO_eq,fOs_eq l]
theorem unB_ok {ds : List D} {j : Nat} {s : CSh} {k : C->Nat->Option β} {k' : C->Nat->Prop} (hk : ∀ c i,k c i = some x->k' c i) (h : unB optQ ds j s k = some x) : unB propQ ds j s k':=by
 cases s with
 | i=>exact intO_ok (fun z h=>hk _ _ h) h
 | bo=>exact booO_ok (fun z h=>hk _ _ h) h
 | _=>exact hk _ _ h
theorem unBs_ok {ds : List D} : ∀ {l : List CSh} {j : Nat} {k : List C->Nat->Option β} {k' : List C->Nat->Prop},(∀ c i,k c i = some x->k' c i)->unBs optQ ds j l k = some x->unBs propQ ds j l k'
 | [],_,_,_,hk,h=>hk _ _ h
 | _::_,_,_,_,hk,h=>unB_ok (fun _ _ h=>unBs_ok (fun _ _ h=>hk _ _ h) h) h
theorem unC_ok {ds : List D} {j : Nat} {s : CSh} {k : C->Nat->Option β} {k' : C->Nat->Prop} (hk : ∀ c i,k c i = some x->k' c i) (h : unC optQ ds j s k = some x) : unC propQ ds j s k':=by
 cases s with
 | f g cs=>exact unBs_ok (fun _ _ h=>hk _ _ h) h
 | d=>exact unB_ok (ds:=ds) (j:=j) (s:=.d) hk h
 | i=>exact unB_ok (ds:=ds) (j:=j) (s:=.i) hk h
 | bo=>exact unB_ok (ds:=ds) (j:=j) (s:=.bo) hk h
 | p b off=>exact unB_ok (ds:=ds) (j:=j) (s:=.p b off) hk h
 | w b=>exact unB_ok (ds:=ds) (j:=j) (s:=.w b) hk h
 | m b=>exact unB_ok (ds:=ds) (j:=j) (s:=.m b) hk h
theorem unCs_ok {ds : List D} : ∀ {l : List CSh} {j : Nat} {k : List C->Nat->Option β} {k' : List C->Nat->Prop},(∀ c i,k c i = some x->k' c i)->unCs optQ ds j l k = some x->unCs propQ ds j l k'
 | [],_,_,_,hk,h=>hk _ _ h
 | _::_,_,_,_,hk,h=>unC_ok (fun _ _ h=>unCs_ok (fun _ _ h=>hk _ _ h) h) h
theorem unS_ok {ds : List D} {s : SSh} {k : S->Option β} {k' : S->Prop} (hk : ∀ c,k c = some x->k' c) (h : unS optQ ds s k = some x) : unS propQ ds s k':=by
 cases s with
 | c s=>exact unC_ok (ds:=ds) (j:=0) (s:=s) (k:=fun c _=>k (.c c)) (fun _ _ h=>hk _ h) h
 | a n=>exact hk _ h
 | g cs=>exact unCs_ok (ds:=ds) (j:=0) (l:=cs) (k:=fun cs _=>k (.g cs)) (fun _ _ h=>hk _ h) h
 | t l=>exact hk _ h
theorem unSl_ok {r : St'} : ∀ {l : List (Nat×SSh)} {j : Nat} {f : Nat->S} {k : (Nat->S)->Nat->Option β} {k' : (Nat->S)->Nat->Prop},(∀ c i,k c i = some x->k' c i)->unSl optQ r j l f k = some x->unSl propQ r j l f k'
 | [],_,_,_,_,hk,h=>hk _ _ h
 | (_,_)::_,_,_,_,_,hk,h=>unS_ok (fun _ h=>unSl_ok hk h) h
theorem unO_ok {ds : List D} {o : OSh} {k : O->Option β} {k' : O->Prop} (hk : ∀ c,k c = some x->k' c) (h : unO optQ ds o k = some x) : unO propQ ds o k':=by
 cases o with
 | b e cs=>exact unCs_ok (fun _ _ h=>hk _ h) h
 | v e sz n cs=>exact unCs_ok (fun _ _ h=>hk _ h) h
 | a e n=>exact hk _ h
 | w e sz=>exact slcO_ok (fun _ _ h=>hk _ h) h
 | m t ag vs=>exact slcO_ok (fun _ _ h=>hk _ h) h
theorem unOb_ok {r : St'} : ∀ {l : List (Nat×OSh)} {j : Nat} {f : Ob} {k : Ob->Option β} {k' : Ob->Prop},(∀ c,k c = some x->k' c)->unOb optQ r j l f k = some x->unOb propQ r j l f k'
 | [],_,_,_,_,hk,h=>hk _ h
 | (_,_)::_,_,_,_,_,hk,h=>unO_ok (fun _ h=>unOb_ok hk h) h
theorem unpackO_ok {sh : Sh} {r : St'} {k : Fr->Option β} {k' : Fr->Prop} (hk : ∀ fr,k fr = some x->k' fr) (h : unpack optQ sh r k = some x) : unpack propQ sh r k' :=
 unSl_ok (fun _ _ h=>unOb_ok (fun _ h=>hk _ h) h) h
theorem packKO_ok {kp : List Nat} {sh : Sh} {fr : Fr} {k : St'->Option β} {k' : St'->Prop} (hk : ∀ st,k st = some x->k' st) (h : packKO kp sh fr k = some x) : packK kp sh fr k':=by
 unfold packKO at h
 unfold packK
 cases hp : pack sh fr with
 | none=>rw [hp] at h;cases h
 | some y =>
   obtain ⟨st,z⟩:=y
   rw [hp] at h
   dsimp only at h ⊢
   cases hb : keptB z.mp kp with
   | true=>rw [hb] at h;exact hk _ h
   | false=>rw [hb] at h;cases h
variable {Is : Sig->St'->St'->Prop} {ca : Sig->St'->Option St'} (hca : ∀ s a r,ca s a = some r->Is s a r)
theorem runO_ok (hca : ∀ s a r,ca s a = some r->Is s a r) {fr : Fr} {K : Option S->List (Nat×O)->List Nat->List Nat->Option β} {K' : Option S->List (Nat×O)->List Nat->List Nat->Prop} (hK : ∀ v ob fs fo,K v ob fs fo = some x->K' v ob fs fo) : ∀ (p : Prg) (fs fo : List Nat),runO ca fr p fs fo K = some x->run Is fr p fs fo K'
 | .no,_,_,h=>by cases h
 | .ret _ _,_,_,h=>hK _ _ _ _ h
 | .rdS t k,_,_,h=>runO_ok hca hK (k (fr.sl t)) _ _ h
 | .rdO b k,_,_,h=>runO_ok hca hK (k (fr.ob b)) _ _ h
 | .i _ k,_,_,h=>intO_ok (fun z h=>runO_ok hca hK (k z) _ _ h) h
 | .bo _ k,_,_,h=>booO_ok (fun z h=>runO_ok hca hK (k z) _ _ h) h
 | .st _ k,_,_,h=>strO_ok (fun z h=>runO_ok hca hK (k z) _ _ h) h
 | .ik _ _ k,_,_,h=>ikO_ok (fun z h=>runO_ok hca hK (k z) _ _ h) h
 | .by_ _ _ k,_,_,h=>byO_ok (fun z h=>runO_ok hca hK (k z) _ _ h) h
 | .sc _ _ k,_,_,h=>slcO_ok (fun n cs h=>runO_ok hca hK (k n cs) _ _ h) h
 | .if_ _ p q,_,_,h=>ifO_ok (fun h=>runO_ok hca hK p _ _ h) (fun h=>runO_ok hca hK q _ _ h) h
 | .ck _ d k,_,_,h=>by
   unfold runO at h
   split at h
   · rename_i hp
     exact ⟨hp,runO_ok hca hK k _ _ h⟩
   · cases h
 | .ca s a k,_,_,h=>by
   unfold runO at h
   split at h
   · rename_i r hr
     exact ⟨r,hca _ _ _ hr,runO_ok hca hK (k r) _ _ h⟩
   · cases h
theorem runLO_ok (hca : ∀ s a r,ca s a = some r->Is s a r) {P : Program} {tb : Tb} {n : Nat} {ops : Array Oper} {gs : List Nat} {K : Fr->List (Nat×Fp)->Option β} {K' : Fr->List (Nat×Fp)->Prop} (hK : ∀ fr l,K fr l = some x->K' fr l) : ∀ (os : List Oper) (i : Nat) (fr : Fr) (l : List (Nat×Fp)),runLO ca P tb n ops gs os i fr l K = some x->runL Is P tb n ops gs os i fr l K'
 | [],_,_,_,h=>hK _ _ h
 | o::os,i,fr,l,h=>by
   unfold runLO at h
   unfold runL
   refine runO_ok hca (fun v ob fs fo h=>?_) _ _ _ h
   cases hf : fits n o.dst v with
   | false=>rw [hf] at h;cases h
   | true =>
     rw [hf] at h
     dsimp only at h ⊢
     rw [fV_eq,fOs_eq] at h
     rw [forceV_eq,forceOs_eq]
     exact runLO_ok hca hK os _ _ _ h
theorem evO_ok {fr : Fr} {t : Operand} {k : Bool->Option β} {k' : Bool->Prop} (hk : ∀ z,k z = some x->k' z) (h : evO fr t k = some x) : evB fr t k':=by
 cases t with
 | tmp t =>
   unfold evO at h
   unfold evB
   dsimp only at h ⊢
   cases hs : fr.sl t with
   | c c =>
     rw [hs] at h
     cases c with
     | d y=>exact booO_ok hk h
     | _=>cases h
   | _=>rw [hs] at h;cases h
 | _=>cases h
theorem unrO_ok {B : Fr->(Fr->Option β)->Option β} {B' : Fr->(Fr->Prop)->Prop} (hB : ∀ fr k k',(∀ fr,k fr = some x->k' fr)->B fr k = some x->B' fr k') : ∀ (n : Nat) (fr : Fr),unrO B n fr = some x->unr B' n fr
 | 0,_,h=>by cases h
 | n+1,fr,h=>hB fr _ _ (fun fr h=>unrO_ok hB n fr h) h
theorem exO_ok (hca : ∀ s a r,ca s a = some r->Is s a r) {N : Nat} {P : Program} {tb : Tb} {n : Nat} {H : Hint} {kp : List Nat} : ∀ (c : Code) (fr : Fr) (K : Kt) (K' : KtO β),(∀ fr,K'.n fr = some x->K.n fr)->(∀ i fr,K'.x i fr = some x->K.x i fr)->(∀ fr,K'.r fr = some x->K.r fr)->exO ca N P tb n H kp c fr K' = some x->ex Is P tb n H kp c fr K
 | .skip,fr,K,K',hn,_,_,h=>hn _ h
 | .label _,fr,K,K',hn,_,_,h=>hn _ h
 | .region _ ops draw,fr,K,K',hn,_,_,h=>by
   refine runLO_ok hca (fun fr l h=>?_) _ _ _ _ h
   cases draw with
   | false=>exact hn _ h
   | true =>
     dsimp only at h ⊢
     split at h
     · rename_i hc
       rw [hc]
       exact hn _ h
     · cases h
 | .seq a b,fr,K,K',hn,hx,hr,h=>by
   unfold exO at h
   unfold ex
   split at h
   · rename_i hg
     rw [hg]
     exact exO_ok hca a fr ⟨_,K.x,K.r⟩ ⟨_,K'.x,K'.r⟩ (fun fr h=>exO_ok hca b _ _ _ hn hx hr h) hx hr h
   · rename_i sh hg
     rw [hg]
     refine ⟨fun st=>unpack optQ sh st (fun fr=>exO ca N P tb n H kp b fr K') = some x,?_,fun st h=>unpackO_ok (fun fr h=>exO_ok hca b _ _ _ hn hx hr h) h⟩
     exact exO_ok hca a fr ⟨_,K.x,K.r⟩ ⟨_,K'.x,K'.r⟩ (fun fr h=>packKO_ok (fun st h=>h) h) hx hr h
 | .cond t a b,fr,K,K',hn,hx,hr,h=>by
   exact evO_ok (fun z h=>ifO_ok (fun h=>exO_ok hca a _ _ _ hn hx hr h) (fun h=>exO_ok hca b _ _ _ hn hx hr h) h) h
 | .block i c,fr,K,K',hn,hx,hr,h=>by
   refine exO_ok hca c fr ⟨K.n,_,K.r⟩ ⟨K'.n,fun j fr=>(match Nat.beq j i with
   | true=>K'.n fr
   | false=>K'.x j fr),K'.r⟩ hn (fun j fr h=>?_) hr h
   dsimp only at h ⊢
   cases hj : Nat.beq j i with
   | true=>rw [hj] at h;exact hn _ h
   | false=>rw [hj] at h;exact hx _ _ h
 | .loop c,fr,K,K',hn,hx,hr,h=>by
   unfold exO at h
   unfold ex
   split at h
   · rename_i k hg
     rw [hg]
     exact unrO_ok (fun fr k k' hk h=>exO_ok hca c fr ⟨k',K.x,K.r⟩ ⟨k,K'.x,K'.r⟩ hk hx hr h) _ _ h
   · rename_i hg
     rw [hg]
     dsimp only
     split at h
     · cases h
     · rename_i sh hp
       rw [hp]
       dsimp only
       refine packKO_ok (fun st h=>?_) h
       refine ⟨fun m st=>loopO kp sh (fun fr next=>exO ca N P tb n H kp c fr ⟨next,K'.x,K'.r⟩) m st = some x,⟨_,h⟩,fun m st h=>?_⟩
       cases m with
       | zero=>cases h
       | succ m =>
         exact unpackO_ok (fun fr h=>exO_ok hca c fr ⟨_,K.x,K.r⟩ ⟨_,K'.x,K'.r⟩ (fun fr h=>packKO_ok (fun st h=>⟨m,Nat.lt_succ_self m,h⟩) h) hx hr h) h
 | .exit i,fr,K,K',_,hx,_,h=>hx _ _ h
 | .scope c,fr,K,K',hn,hx,hr,h=>exO_ok hca c _ _ _ hn hx hr h
 | .ret,fr,K,K',_,_,hr,h=>hr _ h
 | .goto _,_,_,_,_,_,_,h=>by cases h
theorem retKO_ok {P : Program} {s : Sig} {rs : List ResultVar} {fr : Fr} {r : St'} (h : retKO P s rs fr = some r) : retK P s rs fr fun st=>st = r:=by
 unfold retKO at h
 unfold retK
 split at h
 · rename_i xs hx
   rw [hx]
   dsimp only
   rw [h]
 · cases h
end
theorem fnO_ok {Is : Sig->St'->St'->Prop} {ca : Sig->St'->Option St'} (hca : ∀ s a r,ca s a = some r->Is s a r) {N : Nat} {P : Program} {tb : Tb} {H : Hint} {s : Sig} {a r : St'} (h : fnO ca N P tb H s a = some r) : fnX Is P tb H s a fun st=>st = r:=by
 unfold fnO at h
 unfold fnX
 cases hf : P.funcs[s.f]? with
 | none=>rw [hf] at h;cases h
 | some fn =>
   rw [hf] at h
   dsimp only at h ⊢
   cases hc : fn.body with
   | none=>rw [hc] at h;cases h
   | some c =>
     rw [hc] at h
     dsimp only at h ⊢
     cases hb : fnB s fn with
     | false=>rw [hb] at h;cases h
     | true =>
       rw [hb] at h
       exact unpackO_ok (fun fr h=>exO_ok hca c fr ⟨_,_,_⟩ ⟨_,_,_⟩ (fun fr h=>retKO_ok h) (fun _ _ h=>by cases h) (fun fr h=>retKO_ok h) h) h
theorem evF_ok {N : Nat} {P : Program} {tab : Sig->Option (Tb×Hint)} {ext : Sig->St'->Option St'} (hT : ∀ s tb H,tab s = some (tb,H)->TbOk P tb) (hE : ∀ s a r,ext s a = some r->Is P s a r) (hm : P.follows .mixedOrders = true) : ∀ (m : Nat) (s : Sig) (a r : St'),evF N P tab ext m s a = some r->Is P s a r
 | 0,_,_,_,h=>by cases h
 | m+1,s,a,r,h=>by
   unfold evF at h
   split at h
   · rename_i r0 he
     cases h
     exact hE _ _ _ he
   split at h
   · rename_i tb H ht
     split at h
     · rename_i r' hr
       split at h
       · rename_i hu
         cases h
         exact fn_ok (hT _ _ _ ht) hm (fnO_ok (fun s a r h=>evF_ok hT hE hm m s a r h) hr) (unpackO_ok (fun _ _=>trivial) hu)
       · cases h
     · cases h
   · cases h
def eqV : Value->Value->Bool
 | .int .i64 a,.int .i64 b=>decide (a = b)
 | .int .u8 a,.int .u8 b=>decide (a = b)
 | .bool a,.bool b=>a == b
 | .string a,.string b=>decide (a = b)
 | _,_=>false
mutual
def eqD : D->D->Bool
 | .v x,.v y=>eqV x y
 | .sl n s l,.sl n' s' l'=>Nat.beq n n' && (Nat.beq s s' && eqDs l l')
 | _,_=>false
def eqDs : List D->List D->Bool
 | [],[]=>true
 | d::ds,e::es=>eqD d e && eqDs ds es
 | _,_=>false
end
def eqSt : St'->St'->Bool
 | [],[]=>true
 | d::ds,e::es=>eqDs d e && eqSt ds es
 | _,_=>false
theorem eqV_ok {x y : Value} (h : eqV x y = true) : x = y:=by
 unfold eqV at h
 split at h
 · rw [of_decide_eq_true h]
 · rw [of_decide_eq_true h]
 · simp at h;rw [h]
 · rw [of_decide_eq_true h]
 · cases h
mutual
theorem eqD_ok : ∀ {x y : D},eqD x y = true->x = y
 | .v x,.v y,h=>by rw [eqV_ok (x:=x) (y:=y) (by simpa [eqD] using h)]
 | .sl n s l,.sl n' s' l',h=>by
   simp only [eqD,Bool.and_eq_true] at h
   rw [Nat.eq_of_beq_eq_true h.1,Nat.eq_of_beq_eq_true h.2.1,eqDs_ok h.2.2]
 | .v _,.sl _ _ _,h=>by simp [eqD] at h
 | .sl _ _ _,.v _,h=>by simp [eqD] at h
theorem eqDs_ok : ∀ {x y : List D},eqDs x y = true->x = y
 | [],[],_=>rfl
 | d::ds,e::es,h=>by
   simp only [eqDs,Bool.and_eq_true] at h
   rw [eqD_ok h.1,eqDs_ok h.2]
 | [],_::_,h=>by simp [eqDs] at h
 | _::_,[],h=>by simp [eqDs] at h
end
theorem eqSt_ok : ∀ {x y : St'},eqSt x y = true->x = y
 | [],[],_=>rfl
 | d::ds,e::es,h=>by
   simp only [eqSt,Bool.and_eq_true] at h
   rw [eqDs_ok h.1,eqSt_ok h.2]
 | [],_::_,h=>by simp [eqSt] at h
 | _::_,[],h=>by simp [eqSt] at h
def eqC : CSh->CSh->Bool
 | .d,.d=>true
 | .i,.i=>true
 | .bo,.bo=>true
 | _,_=>false
def eqS : SSh->SSh->Bool
 | .c x,.c y=>eqC x y
 | .a n,.a m=>Nat.beq n m
 | _,_=>false
def eqSs : List SSh->List SSh->Bool
 | [],[]=>true
 | x::xs,y::ys=>eqS x y && eqSs xs ys
 | _,_=>false
def eqOut : SSh->SSh->Bool
 | .t l,.t l'=>eqSs l l'
 | x,y=>eqS x y
def eqIn : List (Nat×SSh)->List (Nat×SSh)->Bool
 | [],[]=>true
 | x::xs,y::ys=>Nat.beq x.1 y.1 && (eqS x.2 y.2 && eqIn xs ys)
 | _,_=>false
def eqSig (s t : Sig) : Bool:=Nat.beq s.f t.f && (eqIn s.ins.sl t.ins.sl && (eqOut s.out t.out && ((s.ins.ob.isEmpty && t.ins.ob.isEmpty) && ((s.oob.isEmpty && t.oob.isEmpty) && s.lend == t.lend))))
theorem eqC_ok {x y : CSh} (h : eqC x y = true) : x = y:=by cases x <;> cases y <;> first | rfl | cases h
theorem eqS_ok {x y : SSh} (h : eqS x y = true) : x = y:=by
 unfold eqS at h
 split at h
 · rw [eqC_ok h]
 · rw [Nat.eq_of_beq_eq_true h]
 · cases h
theorem eqSs_ok : ∀ {x y : List SSh},eqSs x y = true->x = y
 | [],[],_=>rfl
 | _::_,_::_,h=>by
   simp only [eqSs,Bool.and_eq_true] at h
   rw [eqS_ok h.1,eqSs_ok h.2]
 | [],_::_,h=>by simp [eqSs] at h
 | _::_,[],h=>by simp [eqSs] at h
theorem eqOut_ok {x y : SSh} (h : eqOut x y = true) : x = y:=by
 unfold eqOut at h
 split at h
 · rw [eqSs_ok h]
 · exact eqS_ok h
theorem eqIn_ok : ∀ {x y : List (Nat×SSh)},eqIn x y = true->x = y
 | [],[],_=>rfl
 | (_,_)::_,(_,_)::_,h=>by
   simp only [eqIn,Bool.and_eq_true] at h
   rw [Nat.eq_of_beq_eq_true h.1,eqS_ok h.2.1,eqIn_ok h.2.2]
 | [],_::_,h=>by simp [eqIn] at h
 | _::_,[],h=>by simp [eqIn] at h
theorem eqSig_ok {s t : Sig} (h : eqSig s t = true) : s = t:=by
 obtain ⟨f,⟨sl,ob⟩,out,oob,lend⟩:=s
 obtain ⟨f',⟨sl',ob'⟩,out',oob',lend'⟩:=t
 simp only [eqSig,Bool.and_eq_true,List.isEmpty_iff,beq_iff_eq] at h
 obtain ⟨h1,h2,h3,⟨h4,h5⟩,⟨h6,h7⟩,h8⟩:=h
 rw [Nat.eq_of_beq_eq_true h1,eqIn_ok h2,eqOut_ok h3,h4,h5,h6,h7,h8]
end Pm

namespace Go.Proofs.YtfgkhhfkodlbpaaDoor
open Go Xe Pm
theorem mixP : Tryd.prog.follows .mixedOrders = true:=by kernel_rfl
theorem eq30 : Eq3 Tryd.prog 30:=fun w0 L M Γ d ty pos af g x y a b c a' b' c' hx hy=>by
 constructor <;> intro n ac w ha _
 · simp only [execOp,ha.ev hx,ha.ev hy]
   simp [go_sem,run_eql_struct,run_eqGuard_agg]
   by_cases h1 : a = a' <;> by_cases h2 : b = b' <;> by_cases h3 : c = c' <;> simp [h1,h2,h3]
 · simp only [execOp,ha.ev hx,ha.ev hy]
   simp [go_sem,run_neq_struct,run_eqGuard_agg]
   by_cases h1 : a = a' <;> by_cases h2 : b = b' <;> by_cases h3 : c = c' <;> simp [h1,h2,h3]
theorem key30 : KeyOk Tryd.prog 30 idV:=by
 refine ⟨⟨_,Tryd.underlying30⟩,fun k b w=>?_,fun k k' w=>?_⟩
 · obtain ⟨x,y,z⟩:=k
   have hint : ∀ (d : Nat) (n : Int) w,(Instr.checkKey b (d+1) 3 (.int .i64 n)).run Tryd.prog w = .ok () w:=by
     intro d n w;simp [Instr.checkKey,run_underlying Tryd.underlying3]
   show (Instr.checkKey b (9998+1+1) 30 (.agg #[.int .i64 x,.int .i64 y,.int .i64 z])).run Tryd.prog w = .ok () w
   unfold Instr.checkKey
   simp only [Sem.run_bind,run_underlying Tryd.underlying30,Result.andThen_ok]
   simp [go_sem,hint]
 · obtain ⟨a,b,c⟩:=k
   obtain ⟨a',b',c'⟩:=k'
   show (Op.equalIn 10000 30 (.agg #[.int .i64 a,.int .i64 b,.int .i64 c]) (.agg #[.int .i64 a',.int .i64 b',.int .i64 c'])).run Tryd.prog w = _
   simp [go_sem]
   by_cases h1 : a = a' <;> by_cases h2 : b = b' <;> by_cases h3 : c = c' <;> simp [h1,h2,h3]
theorem part5 (xs : List Int) (i : Nat) (h : i < xs.length) (w : World) : (part 5 (xs.map (Value.int .u8)).toArray (i * 1)).run Tryd.prog w = .ok (.int .u8 xs[i]) w:=by
 simp [go_sem,h]
theorem arr_eq (d : Nat) (w : World) : ∀ (m k : Nat) (a b : List Int),a.length = k+m->b.length = k+m ->
  ((forIn (List.range' k m) ((none,()) : Option Bool×PUnit) fun i _=>do
       if !(<-Op.equalIn (d+1) 5 (<-part 5 (a.map (Value.int .u8)).toArray (i * 1)) (<-part 5 (b.map (Value.int .u8)).toArray (i * 1))) then pure (.done (some false,())) else pure (.yield (none,()))) : Sem (Option Bool×PUnit)).run Tryd.prog w = .ok (if a.drop k = b.drop k then none else some false,()) w
 | 0,k,a,b,ha,hb=>by
   simp [List.drop_eq_nil_of_le (show a.length<=k by omega),List.drop_eq_nil_of_le (show b.length<=k by omega)]
 | m+1,k,a,b,ha,hb=>by
   have h1 : k < a.length:=Q0
   have h2 : k < b.length:=Q0
   rw [List.range'_succ]
   simp only [List.forIn_cons,Sem.run_bind,part5 _ _ h1,part5 _ _ h2,Result.andThen_ok,run_equalIn_int w d 5 .u8 .u8 _ _ Tryd.underlying5]
   have ih:=arr_eq d w m (k+1) a b Q0 Q0
   have hiff : (a.drop k = b.drop k)↔(a[k] = b[k]/\a.drop (k+1) = b.drop (k+1)):=by
     conv=>lhs;rw [List.drop_eq_getElem_cons h1,List.drop_eq_getElem_cons h2]
     exact List.cons.injEq .. ▸ Iff.rfl
   by_cases e : a[k] = b[k]
   · have h3 : (if a.drop k = b.drop k then (none : Option Bool) else some false) = if a.drop (k+1) = b.drop (k+1) then none else some false:=by
       by_cases h4 : a.drop (k+1) = b.drop (k+1)
       · rw [if_pos h4,if_pos (hiff.2 ⟨e,h4⟩)]
       · rw [if_neg h4,if_neg (fun h=>h4 (hiff.1 h).2)]
     rw [h3]
     simp [e] at ih ⊢
     exact ih
   · rw [if_neg (fun h=>e (hiff.1 h).1)]
     simp [e]
theorem eqa54 : EqA Tryd.prog 54 16 .u8:=fun w0 L M Γ d ty pos af g x y a b ha hb hx hy=>by
 have key : ∀ w,(Op.equalIn 10000 54 (.agg (a.map (Value.int .u8)).toArray) (.agg (b.map (Value.int .u8)).toArray)).run Tryd.prog w = .ok (decide (a = b)) w:=fun w=>by
   unfold Op.equalIn
   simp only [Sem.run_bind,run_underlying Tryd.underlying54,Result.andThen_ok]
   have:=arr_eq 9998 w 16 0 a b Q0 Q0
   simp only [Std.Legacy.Range.forIn_eq_forIn_range',Std.Legacy.Range.size]
   rw [show (Go.sizeOf 5).run Tryd.prog w = .ok 1 w by simp [go_sem]]
   rw [show (16 - 0+1 - 1) / 1 = 16 from rfl]
   simp only [Result.andThen_ok]
   rw [this]
   by_cases h : a = b
   · simp [h]
   · simp [h]
 constructor <;> intro n ac w ha' _
 · simp only [execOp,ha'.ev hx,ha'.ev hy]
   simp [go_sem,run_eql_struct,run_eqGuard_agg,key]
 · simp only [execOp,ha'.ev hx,ha'.ev hy]
   simp [go_sem,run_neq_struct,run_eqGuard_agg,key]
theorem tbok (l : List Sig) (dp : List Nat) : TbOk Tryd.prog ⟨l,[30],dp,[54],[(0,shaD)]⟩:=⟨fun t h=>by
 simp only [List.any_cons,List.any_nil,Bool.or_false] at h
 rw [Nat.eq_of_beq_eq_true h]
 exact eq30,fun t h=>by
 simp only [List.any_cons,List.any_nil,Bool.or_false] at h
 rw [Nat.eq_of_beq_eq_true h]
 exact key30,fun t n e kd h hn he=>by
 simp only [List.any_cons,List.any_nil,Bool.or_false] at h
 obtain rfl:=Nat.eq_of_beq_eq_true h
 rw [Tryd.underlying54] at hn
 simp only [Option.some.injEq,TypeDesc.array.injEq] at hn
 obtain ⟨rfl,rfl⟩:=hn
 rw [Tryd.underlying5] at he
 simp only [Option.some.injEq,TypeDesc.int.injEq] at he
 subst he
 exact eqa54,fun v ds h M hM=>by
 unfold globD at h
 split at h
 · rename_i hv
   obtain rfl:=Nat.eq_of_beq_eq_true hv
   simp only [Option.some.injEq] at h
   subst h
   refine ⟨shaV,?_,hM⟩
   unfold shaD shaV
   generalize shaK = zs
   induction zs with
   | nil=>exact RdL.nil _
   | cons z zs ih=>exact RdL.cons (by unfold Rd;exact ⟨rfl,rfl⟩) ih
 · simp [globD] at h⟩
abbrev vK (k : Go.IntKind) (z : Int) : D:=.v (.int k z)
abbrev ds (n : Nat) : List CSh:=List.replicate n .d
abbrev Tx:=(Sig->St'->St'->Prop)->St'->(St'->Prop)->Prop
def Wd (tb : Tb) (H : Hint) (s : Sig) (g : Tx) : Prop:=∀ Is a K,fnX Is Tryd.prog tb H s a K = g Is a K
theorem Wd.is {l : List Sig} {dp : List Nat} {H : Hint} {s : Sig} {g : Tx} (w : Wd ⟨l,[30],dp,[54],[(0,shaD)]⟩ H s g) {a r : St'} (h : g (Pm.Is Tryd.prog) a fun st=>st = r) (hu : unpack propQ (outSh s) r (fun _=>True):=by exact trivial) : Pm.Is Tryd.prog s a r:=fn_ok (tbok l dp) mixP (H:=H) (by rw [w];exact h) hu
theorem Wd.some {l : List Sig} {dp : List Nat} {H : Hint} {s : Sig} {g : Tx} (w : Wd ⟨l,[30],dp,[54],[(0,shaD)]⟩ H s g) {a : St'} {K : St'->Prop} (h : g (Pm.Is Tryd.prog) a K) (hu : ∀ r,K r->unpack propQ (outSh s) r fun _=>True) : ∃ r,K r/\Pm.Is Tryd.prog s a r:=fn_some (tbok l dp) mixP (H:=H) (by rw [w];exact h) hu
set_option maxRecDepth 100000
abbrev s7 : Sig:=⟨7,⟨[(0,.a 3)],[]⟩,.c .d,[],false⟩
abbrev s8 : Sig:=⟨8,⟨[(0,.c .d)],[]⟩,.t [.a 3,.c .i,.c .i],[],false⟩
abbrev s22 : Sig:=⟨22,⟨[(0,.c .i)],[]⟩,.c (.w 0),[(0,.w 5 1)],false⟩
abbrev s13 : Sig:=⟨13,⟨[],[]⟩,.c .bo,[],false⟩
abbrev s3 : Sig:=⟨3,⟨[(0,.c .d),(1,.c .d),(2,.c .d),(3,.c .d)],[]⟩,.c .bo,[],true⟩
abbrev s4 : Sig:=⟨4,⟨[(0,.c .d)],[]⟩,.a 2,[],false⟩
abbrev s14 : Sig:=⟨14,⟨[(0,.c .i)],[]⟩,.a 3,[],false⟩
abbrev s15 : Sig:=⟨15,⟨[(0,.c .d),(1,.c .i),(2,.c .i)],[]⟩,.c .i,[],true⟩
abbrev s41 : Sig:=⟨41,⟨[(0,.c .i),(1,.c .i)],[]⟩,.c .i,[],true⟩
abbrev s16 : Sig:=⟨16,⟨[(0,.c .i),(1,.c .i)],[]⟩,.a 5,[],false⟩
abbrev s42 : Sig:=⟨42,⟨[(0,.a 5)],[]⟩,.g [.d,.d,.d,.d,.w 0],[(0,.w 33 5)],false⟩
abbrev s5 : Sig:=⟨5,⟨[(0,.a 3)],[]⟩,.a 5,[],false⟩
abbrev s6 : Sig:=⟨6,⟨[(0,.a 2),(1,.a 5),(2,.c .d)],[]⟩,.g [.d,.d,.w 0],[(0,.w 44 3)],false⟩
abbrev s17 : Sig:=⟨17,⟨[(0,.a 2),(1,.a 5),(2,.c .d),(3,.c .i),(4,.c .i)],[]⟩,.t [.g [.d,.d,.w 0],.c .i],[(0,.w 44 3)],false⟩
abbrev s43 : Sig:=⟨43,⟨[(0,.a 2),(1,.a 3)],[]⟩,.t [.a 31,.c .bo],[],false⟩
abbrev s18 : Sig:=⟨18,⟨[(0,.a 3)],[]⟩,.c .i,[],true⟩
abbrev s20 : Sig:=⟨20,⟨[(0,.a 2),(1,.a 5)],[]⟩,.t [.g [.d,.d,.w 0],.c .i],[(0,.w 44 3)],false⟩
abbrev s44 : Sig:=⟨44,⟨[(0,.a 2),(1,.a 5),(2,.c .i),(3,.c .i)],[]⟩,.t [.g [.d,.d,.w 0],.c .i,.c .i],[(0,.w 44 3)],false⟩
abbrev s56 : Sig:=⟨56,⟨[(0,.a 2),(1,.a 5)],[]⟩,.c .bo,[],true⟩
abbrev s63 : Sig:=⟨63,⟨[(0,.a 2),(1,.a 5),(2,.c .i)],[]⟩,.c .bo,[],true⟩
abbrev s19 : Sig:=⟨19,⟨[(0,.a 3)],[]⟩,.c .i,[],true⟩
abbrev s9 : Sig:=⟨9,⟨[(0,.c .d),(1,.c .i)],[]⟩,.c (.w 0),[(0,.w 5 1)],false⟩
abbrev s10 : Sig:=⟨10,⟨[(0,.a 3),(1,.a 3)],[]⟩,.c .i,[],true⟩
abbrev s26 : Sig:=⟨26,⟨[(0,.c .i),(1,.c .i)],[]⟩,.c .i,[],true⟩
abbrev s46 : Sig:=⟨46,⟨[(0,.c .i)],[]⟩,.c .bo,[],true⟩
abbrev s25 : Sig:=⟨25,⟨[(0,.c .d)],[]⟩,.c .i,[],true⟩
abbrev s27 : Sig:=⟨27,⟨[(0,.c .d),(1,.c .d),(2,.c (.f 10 []))],[]⟩,.c .i,[],true⟩
abbrev s11 : Sig:=⟨11,⟨[(0,.c .d)],[]⟩,.c (.w 0),[(0,.w 5 1)],false⟩
abbrev s12 : Sig:=⟨12,⟨[(0,.c .i),(1,.c .d)],[]⟩,.a 16,[],false⟩
abbrev s28 : Sig:=⟨28,⟨[],[]⟩,.a 73,[],false⟩
abbrev s29 : Sig:=⟨29,⟨[(0,.a 73),(1,.c .d)],[]⟩,.a 73,[],false⟩
abbrev s47 : Sig:=⟨47,⟨[(0,.a 8),(1,.c .d)],[]⟩,.a 8,[],true⟩
abbrev s57 : Sig:=⟨57,⟨[(0,.c .d)],[]⟩,.a 64,[],false⟩
abbrev s64 : Sig:=⟨64,⟨[(0,.c .d),(1,.c .i)],[]⟩,.c .d,[],false⟩
abbrev s58 : Sig:=⟨58,⟨[(0,.c .d),(1,.c .i),(2,.c .i),(3,.c .i)],[]⟩,.c .d,[],false⟩
abbrev s30 : Sig:=⟨30,⟨[(0,.a 73)],[]⟩,.a 32,[],false⟩
def g3 : Tx:=fun Is a K=>caK Is s4 [[cell (ent a 0) 0]] fun r1=>slcK 31 (cell (ent r1 0) 1) fun n2 _=>ckK (okI ((n2 : Int) - 1)) (slcK 31
 (cell (ent r1 0) 1) fun n4 c5=>ckK (0<=((n2 : Int) - 1)/\((n2 : Int) - 1) < (n4 : Int)) (caK Is s5 [sub (el c5 31 (Int.toNat ((n2 : Int) - 1)))
 0 3] fun r6=>caK Is s6 [ent r1 0,ent r6 0,[cell (ent a 1) 0]] fun r7=>slcK 3 (cell (ent r7 1) 0) fun n8 c9=>caK Is s6 [ent r1 0,ent r6 0,
 [cell (ent a 2) 0]] fun r10=>slcK 3 (cell (ent r10 1) 0) fun n11 c12=>caK Is s7 [[cell (ent r7 0) 0,cell (ent r7 0) 1,.sl n8 3 c9]] fun r13 =>
 caK Is s7 [[cell (ent r10 0) 0,cell (ent r10 0) 1,.sl n11 3 c12]] fun r14=>slcK 1 (cell (ent r13 0) 0) fun n15 c16=>ckK (room (0+n15) 2)
 (caK Is s9 [[cell (ent a 3) 0],[vI 30]] fun r17=>slcK 1 (cell (ent r17 0) 0) fun n18 c19=>ckK (room (0+n15+n18) 2) (caK Is s8 [[.sl (0 +
 n15+n18) 1 (c16++c19)]] fun r20=>intK (cell (ent r20 1) 0) fun z21=>intK (cell (ent r20 2) 0) fun z22=>caK Is s10 [[cell (ent r7 0) 0,
 cell (ent r7 0) 1,.sl n8 3 c9],[cell (ent r10 0) 0,cell (ent r10 0) 1,.sl n11 3 c12]] fun r23=>intK (cell (ent r23 0) 0) fun z24=>ifK
 (!(decide (z22 = (0 : Int)))) (K [[vB false]]) (slcK 1 (cell (ent r13 0) 0) fun n25 _=>ifK (!(decide (z21 = (n25 : Int)))) (K [[vB false]]) (caK
 Is s10 [ent r20 0,[cell (ent r7 0) 0,cell (ent r7 0) 1,.sl n8 3 c9]] fun r27=>intK (cell (ent r27 0) 0) fun z28=>ifK (!(decide (z28 = (0 :
 Int)))) (K [[vB false]]) (slcK 1 (cell (ent r13 0) 0) fun _ c30=>byK .u8 c30 fun l31=>slcK 1 (cell (ent r14 0) 0) fun _ c33=>byK .u8 c33 fun
 l34=>ifK (!(decide ((strB l31) = (strB l34)) == decide (z24 = (0 : Int)))) (K [[vB false]]) (slcK 1 (cell (ent r13 0) 0) fun n35 _=>slcK 1 (cell
 (ent r14 0) 0) fun n37 _=>jn (fun k39=>ifK (decide ((n35 : Int) < (n37 : Int))) (slcK 1 (cell (ent r13 0) 0) fun n41 _=>slcK 1 (cell (ent r14
 0) 0) fun n43 c44=>ckK (0<=(0 : Int)/\(0 : Int)<=(n41 : Int)/\(n41 : Int)<=(n43 : Int)) (byK .u8 (sub c44 (Int.toNat (0 : Int) * 1)
 ((Int.toNat (n41 : Int) - Int.toNat (0 : Int)) * 1)) fun l45=>slcK 1 (cell (ent r13 0) 0) fun _ c47=>byK .u8 c47 fun l48=>k39 [[cell (ent r13
 0) 0],[cell (ent r14 0) 0],[vB (decide (z24 = (0 : Int)))],[vB (decide ((strB l45) = (strB l48)))]])) (k39 [[cell (ent r13 0) 0],[cell (ent r14
 0) 0],[vB (decide (z24 = (0 : Int)))],[vB (decide ((n35 : Int) < (n37 : Int)))]])) (fun st40=>booK (cell (ent st40 2) 0) fun b49=>booK (cell
 (ent st40 3) 0) fun b50=>slcK 1 (cell (ent st40 0) 0) fun _ c52=>byK .u8 c52 fun l53=>caK Is s11 [[vS (strB l53)]] fun r54=>slcK 1 (cell
 (ent r54 0) 0) fun _ c56=>byK .u8 c56 fun l57=>slcK 1 (cell (ent st40 1) 0) fun _ c59=>byK .u8 c59 fun l60=>caK Is s11 [[vS (strB l60)]] fun
 r61=>slcK 1 (cell (ent r61 0) 0) fun _ c63=>byK .u8 c63 fun l64=>jn (fun k65=>ifK (!b49) (k65 [[vB b49],[vB b50],[vB (decide ((strB l57) =
 (strB l64)))],[vB true]]) (slcK 1 (cell (ent st40 0) 0) fun _ c68=>byK .u8 c68 fun l69=>caK Is s12 [[vI 9],[.sl 1 1 [vS (strB l69)]]] fun r70
 => slcK 1 (cell (ent st40 1) 0) fun _ c72=>byK .u8 c72 fun l73=>caK Is s12 [[vI 9],[.sl 1 1 [vS (strB l73)]]] fun r74=>byK .u8 (ent r70 0)
 fun l75=>byK .u8 (ent r74 0) fun l76=>k65 [[vB b49],[vB b50],[vB (decide ((strB l57) = (strB l64)))],[vB (decide (l75 = l76))]])) (fun st66
 => booK (cell (ent st66 0) 0) fun b77=>booK (cell (ent st66 1) 0) fun b78=>booK (cell (ent st66 2) 0) fun b79=>booK (cell (ent st66 3) 0) fun
 b80=>ifK (!b78) (ifK (b79 == b77) (ifK b80 (caK Is s13 [] fun r81=>booK (cell (ent r81 0) 0) fun b82=>K [[vB b82]]) (K [[vB false]])) (K [[vB
 false]])) (K [[vB false]])))))))))))
theorem w3 : Wd ⟨[s4,s5,s6,s7,s8,s9,s10,s11,s12,s13],[30],[],[54],[(0,shaD)]⟩ ⟨[],[(14,⟨[(13,.c .d),(14,.c .d),(18,.c .bo),(19,.c .bo)],[]⟩),(16,⟨[(18,.c .bo),(19,.c .bo),(20,.c .bo),(21,.c .bo)],[]⟩)],[]⟩ s3 g3:=fun _ _ _=>by kernel_rfl
def g4 : Tx:=fun Is a K=>caK Is s14 [[vI 0]] fun r1=>caK Is s15 [[cell (ent a 0) 0],[vI 0],[vI 4]] fun r2=>intK (cell (ent r2 0) 0) fun z3
 => ckK (okI (1+z3)) (ckK (okI (1+(1+z3))) (Lp (fun next4 st5=>intK (cell (ent st5 1) 0) fun z6=>intK (cell (ent st5 2) 0) fun z7=>intK
 (cell (ent st5 3) 0) fun z8=>slcK 31 (cell (ent st5 6) 0) fun n9 c10=>slcK 3 (cell (ent st5 7) 0) fun n11 c12=>ifK (decide (z8 < z6)) (ckK
 (okI (1+z8)) (caK Is s15 [[cell (ent st5 0) 0],[vI (1+z8)],[vI 65536]] fun r13=>intK (cell (ent r13 0) 0) fun z14=>ckK (okI (1+z8)) (caK
 Is s14 [[vI (1+z8)]] fun r15=>ckK ((2 : Int) ≠ 0) (caK Is s14 [[vI 0]] fun r16=>ckK (0<=z8/\z8 < (4 : Int)) (ckK ((2 : Int) ≠ 0/\okI
 (Int.tdiv z14 2)) (ckK ((3 : Int) ≠ 0) (ckK (okI (1+(Int.tmod (Int.tdiv z14 2) 3))) (jn (fun k17=>Lp (fun next19 st20=>intK (cell (ent st20 1)
 0) fun z21=>intK (cell (ent st20 2) 0) fun z22=>intK (cell (ent st20 3) 0) fun z23=>intK (cell (ent st20 4) 0) fun z24=>intK (cell (ent st20
 5) 0) fun z25=>slcK 31 (cell (ent st20 9) 0) fun n26 c27=>slcK 11 (cell (ent st20 10) 0) fun n28 c29=>slcK 3 (cell (ent st20 11) 0) fun n30
 c31=>ifK (decide (z25 < z24)) (caK Is s14 [[vI z22]] fun r32=>ckK (0<=z25/\z25 < (3 : Int)) (ckK (okI (3 * z23)) (ckK (okI (5+(3 * z23)))
 (ckK (okI ((5+(3 * z23))+z25)) (caK Is s15 [[cell (ent st20 0) 0],[vI ((5+(3 * z23))+z25)],[vI 65536]] fun r33=>intK (cell (ent r33 0)
 0) fun z34=>caK Is s16 [[vI z34],[vI z23]] fun r35=>ckK (room (n28+1) 113) (ckK (okI (z22+1)) (ckK (okI (z25+1)) (next19 [[cell (ent st20
 0) 0],[vI z21],[vI (z22+1)],[vI z23],[vI z24],[vI (z25+1)],ent st20 6,cls (ent st20 7) 0 30 [],cls (ent st20 8) 0 5 [],[.sl n26 31
 c27],[.sl (n28+1) 11 (c29++(cls (ent r32 0) 0 3 (cell (el ([vS (ByteArray.mk #[120]),vS (ByteArray.mk #[121]),vS (ByteArray.mk #[122])]) 1
 (Int.toNat z25)) 0::cls (ent r35 0) 0 5 [vI 0,vI 0])))],[.sl n30 3 c31]])))))))) (k17 [[cell (ent st20 0) 0],[vI z21],[vI z22],[vI z23],ent
 st20 6,cls (ent st20 7) 0 30 [],cls (ent st20 8) 0 5 [],[.sl n26 31 c27],[.sl n28 11 c29],[.sl n30 3 c31]])) [[cell (ent st5 0) 0],[vI z6],
 [vI z7],[vI z8],[vI (1+(Int.tmod (Int.tdiv z14 2) 3))],[vI 0],ent st5 4,cls (ent r15 0) 0 3 (vI (Int.tmod z14 2)::cls (ent r16 0) 0 3
 ([cell (el ([vS (ByteArray.mk #[80,111,105,110,116]),vS (ByteArray.mk #[83,104,97,112,101]),vS (ByteArray.mk #[83,116,97,116,101]),vS
 (ByteArray.mk #[69,118,101,110,116])]) 1 (Int.toNat z8)) 0,vI 0,vI 0,vI 0,vI 0,.sl 0 5 [],vI 0,vI 0,vI 0,vI 0,vI 0,vI 0,vI 0,vI 0,
 vI 0,vI 0,vI 0,vI 0,.sl 0 5 [],.sl 0 15 [],.sl 0 1 [],vI 0,.sl 0 1 []])),cls (ent st5 5) 0 5 [],[.sl n9 31 c10],[.sl 0 11 []],[.sl n11 3
 c12]]) (fun st18=>intK (cell (ent st18 1) 0) fun z36=>intK (cell (ent st18 2) 0) fun z37=>intK (cell (ent st18 3) 0) fun z38=>slcK 31 (cell
 (ent st18 7) 0) fun n39 c40=>slcK 11 (cell (ent st18 8) 0) fun n41 c42=>slcK 3 (cell (ent st18 9) 0) fun n43 c44=>ckK (room (n39+1) 353)
 (ckK (0<=(0 : Int)/\(0 : Int) < ((1 : Nat) : Int)) (ckK (room (n43+1) 25) (ckK (0<=(0 : Int)/\(0 : Int) < ((1 : Nat) : Int)) (ckK (okI (z38 +
 1)) (next4 [[cell (ent st18 0) 0],[vI z36],[vI z37],[vI (z38+1)],ent st18 4,cls (ent st18 6) 0 5 [],[.sl (n39+1) 31 (c40++(cls (ent st18
 5) 0 8 (.sl n41 11 c42::cls (ent st18 5) 8 22 [])))],[.sl (n43+1) 3 (c44++(cls (ent st18 5) 0 3 []))]])))))))))))))) (K [[.sl 1 6 (cls (ent
 st5 5) 0 5 [.sl n11 3 c12]),.sl n9 31 c10]])) [[cell (ent a 0) 0],[vI (1+z3)],[vI (1+(1+z3))],[vI 0],[.sl 0 6 [],.sl 0 31 []],cls (ent
 r1 0) 0 3 ([vS (ByteArray.mk #[99,111,114,101]),.sl 0 3 []]),[.sl 0 31 []],[.sl 0 3 []]]))
theorem w4 : Wd ⟨[s14,s15,s16],[30],[24],[54],[(0,shaD)]⟩ ⟨[(5,⟨[(0,.c .d),(2,.c (.p 0 0)),(3,.c (.p 1 0)),(4,.c .i),(5,.c .i),(6,.c .i)],[(0,.a 27 2),(1,.b 27 [.w 2,.w 3]),(2,.v 61 6 1 (ds 5++[.w 4])),(3,.w 41 31),(4,.w 30 3)]⟩),(11,⟨[(0,.c .d),(2,.c (.p 0 0)),(3,.c (.p 1 0)),(4,.c .i),(5,.c .i),(6,.c .i),(8,.c (.p 2 0)),(9,.c .i),(10,.c .i)],[(0,.a 27 2),(1,.b 27 [.w 3,.w 4]),(2,.b 41 (.d::.d::.d::.d::.d::.d::.d::.d::.w 5::ds 22)),(3,.v 61 6 1 (ds 5++[.w 6])),(4,.w 41 31),(5,.w 65 11),(6,.w 30 3)]⟩)],[(15,⟨[(0,.c .d),(2,.c (.p 0 0)),(3,.c (.p 1 0)),(4,.c .i),(5,.c .i),(6,.c .i),(8,.c (.p 2 0))],[(0,.a 27 2),(1,.b 27 [.w 3,.w 4]),(2,.b 41 (.d::.d::.d::.d::.d::.d::.d::.d::.w 5::ds 22)),(3,.v 61 6 1 (ds 5++[.w 6])),(4,.w 41 31),(5,.w 65 11),(6,.w 30 3)]⟩)],[]⟩ s4 g4:=fun _ _ _=>by kernel_rfl
def g14 : Tx:=fun _ a K=>intK (cell (ent a 0) 0) fun z1=>ckK ((32 : Int) ≠ 0/\okI (Int.tdiv z1 32)) (ckK (okI (1+(Int.tdiv z1 32))) (ckK ((32
 : Int) ≠ 0) (K [[vI 0,vI (1+(Int.tdiv z1 32)),vI (Int.tmod z1 32)]])))
theorem w14 : Wd ⟨[],[30],[],[54],[(0,shaD)]⟩ ⟨[],[],[]⟩ s14 g14:=fun _ _ _=>by kernel_rfl
def g15 : Tx:=fun Is a K=>intK (cell (ent a 1) 0) fun z1=>intK (cell (ent a 2) 0) fun z2=>ifK (decide (z1 < (0 : Int))) (K [[vI 0]]) (slcK 1
 (cell (ent a 0) 0) fun n3 _=>ifK (decide ((n3 : Int)<=z1)) (K [[vI 0]]) (slcK 1 (cell (ent a 0) 0) fun n5 c6=>ckK (0<=z1/\z1 < (n5 : Int))
 (caK Is s41 [[cell (el c6 1 (Int.toNat z1)) 0],[vI z2]] fun r7=>intK (cell (ent r7 0) 0) fun z8=>K [[vI z8]])))
theorem w15 : Wd ⟨[s41],[30],[],[54],[(0,shaD)]⟩ ⟨[],[],[]⟩ s15 g15:=fun _ _ _=>by kernel_rfl
def g41 : Tx:=fun _ a K=>intK (cell (ent a 0) 0) fun z1=>intK (cell (ent a 1) 0) fun z2=>jn (fun k3=>ifK (decide (z1 < (0 : Int))) (ckK (okI
 (z1+1)) (ckK (okI (-(z1+1))) (k3 [[vI (-(z1+1))],[vI z2]]))) (k3 [[vI z1],[vI z2]])) (fun st4=>intK (cell (ent st4 0) 0) fun z5=>intK
 (cell (ent st4 1) 0) fun z6=>ckK (z6 ≠ 0) (K [[vI (Int.tmod z5 z6)]]))
theorem w41 : Wd ⟨[],[30],[],[54],[(0,shaD)]⟩ ⟨[],[(3,⟨[(0,.c .i),(1,.c .i)],[]⟩)],[]⟩ s41 g41:=fun _ _ _=>by kernel_rfl
def g16 : Tx:=fun Is a K=>intK (cell (ent a 0) 0) fun z1=>intK (cell (ent a 1) 0) fun z2=>ckK (okI (2 * z2)) (ckK (okI (4+(2 * z2))) (caK Is
 s41 [[vI z1],[vI (4+(2 * z2))]] fun r3=>intK (cell (ent r3 0) 0) fun z4=>ifK (decide (z4 = (1 : Int))) (K [[vI 1,vI 0,vI 0,vI 0,.sl 0 5
 []]]) (ifK (decide (z4 = (2 : Int))) (caK Is s42 [[vI 0,vI 0,vI 0,vI 0,.sl 0 5 []]] fun r5=>slcK 5 (cell (ent r5 1) 0) fun n6 c7=>K [cls
 (ent r5 0) 0 4 [.sl n6 5 c7]]) (ifK (decide ((4 : Int)<=z4)) (ckK (okI (z4 - 4)) (ckK ((2 : Int) ≠ 0/\okI (Int.tdiv (z4 - 4) 2)) (ckK (okI (1 +
 (Int.tdiv (z4 - 4) 2))) (caK Is s14 [[vI (1+(Int.tdiv (z4 - 4) 2))]] fun r8=>caK Is s5 [ent r8 0] fun r9=>ckK ((64 : Int) ≠ 0/\okI (Int.tdiv
 z1 64)) (caK Is s41 [[vI (Int.tdiv z1 64)],[vI 5]] fun r10=>intK (cell (ent r10 0) 0) fun z11=>ifK (decide (z11 = (1 : Int))) (caK Is s42 [ent
 r9 0] fun r12=>slcK 5 (cell (ent r12 1) 0) fun n13 c14=>K [cls (ent r12 0) 0 4 [.sl n13 5 c14]]) (K [ent r9 0])))))) (K [[vI 0,vI 0,vI 0,vI
 0,.sl 0 5 []]])))))
theorem w16 : Wd ⟨[s5,s14,s41,s42],[30],[],[54],[(0,shaD)]⟩ ⟨[],[],[]⟩ s16 g16:=fun _ _ _=>by kernel_rfl
def g42 : Tx:=fun _ a K=>K [[vI 2,vI 0,vI 0,vI 0],[.sl 1 5 ((ent a 0)++[])]]
theorem w42 : Wd ⟨[],[30],[],[54],[(0,shaD)]⟩ ⟨[],[],[]⟩ s42 g42:=fun _ _ _=>by kernel_rfl
def g5 : Tx:=fun _ a K=>K [vI 3::cls (ent a 0) 0 3 ([.sl 0 5 []])]
theorem w5 : Wd ⟨[],[30],[],[54],[(0,shaD)]⟩ ⟨[],[],[]⟩ s5 g5:=fun _ _ _=>by kernel_rfl
def g6 : Tx:=fun Is a K=>caK Is s17 [ent a 0,ent a 1,[cell (ent a 2) 0],[vI 0],[vI 1]] fun r1=>intK (cell (ent r1 1) 0) fun _=>slcK 3
 (cell (ent r1 2) 0) fun n3 c4=>caK Is s18 [[cell (ent r1 0) 0,cell (ent r1 0) 1,.sl n3 3 c4]] fun r5=>intK (cell (ent r5 0) 0) fun z6=>ifK
 (decide ((256 : Int) < z6)) (caK Is s20 [ent a 0,ent a 1] fun r7=>intK (cell (ent r7 1) 0) fun _=>slcK 3 (cell (ent r7 2) 0) fun n9 c10=>K
 [[cell (ent r7 0) 0,cell (ent r7 0) 1],[.sl n9 3 c10]]) (caK Is s19 [[cell (ent r1 0) 0,cell (ent r1 0) 1,.sl n3 3 c4]] fun r11=>intK (cell
 (ent r11 0) 0) fun z12=>ifK (decide ((24 : Int) < z12)) (caK Is s20 [ent a 0,ent a 1] fun r13=>intK (cell (ent r13 1) 0) fun _=>slcK 3 (cell
 (ent r13 2) 0) fun n15 c16=>K [[cell (ent r13 0) 0,cell (ent r13 0) 1],[.sl n15 3 c16]]) (K [[cell (ent r1 0) 0,cell (ent r1 0) 1],[.sl n3 3
 c4]]))
theorem w6 : Wd ⟨[s17,s18,s19,s20],[30],[],[54],[(0,shaD)]⟩ ⟨[],[],[]⟩ s6 g6:=fun _ _ _=>by kernel_rfl
def g17 : Tx:=fun Is a K=>intK (cell (ent a 3) 0) fun z1=>intK (cell (ent a 4) 0) fun z2=>caK Is s15 [[cell (ent a 2) 0],[vI z1],[vI
 1048576]] fun r3=>intK (cell (ent r3 0) 0) fun z4=>ckK (okI (z1+1)) (intK (cell (ent a 1) 0) fun z5=>ifK (decide (z5 = (0 : Int))) (ckK ((16
 : Int) ≠ 0) (ifK (decide ((Int.tmod z4 16) = (0 : Int))) (ckK ((16 : Int) ≠ 0/\okI (Int.tdiv z4 16)) (ckK ((3 : Int) ≠ 0) (ckK (okI (1099511627776
 - (Int.tmod (Int.tdiv z4 16) 3))) (K [[vI 0,vI (1099511627776 - (Int.tmod (Int.tdiv z4 16) 3))],[vI (z1+1)],[.sl 0 3 []]])))) (ckK ((16 : Int)
 ≠ 0) (ifK (decide ((Int.tmod z4 16) = (1 : Int))) (ckK ((16 : Int) ≠ 0/\okI (Int.tdiv z4 16)) (ckK ((3 : Int) ≠ 0) (ckK (okI ((-1099511627776) +
 (Int.tmod (Int.tdiv z4 16) 3))) (K [[vI 0,vI ((-1099511627776)+(Int.tmod (Int.tdiv z4 16) 3))],[vI (z1+1)],[.sl 0 3 []]])))) (ckK ((16 : Int)
 ≠ 0/\okI (Int.tdiv z4 16)) (ckK ((9 : Int) ≠ 0) (ckK (okI ((Int.tmod (Int.tdiv z4 16) 9) - 4)) (K [[vI 0,vI ((Int.tmod (Int.tdiv z4 16) 9) - 4)],
 [vI (z1+1)],[.sl 0 3 []]])))))))) (intK (cell (ent a 1) 0) fun z6=>ifK (decide (z6 = (1 : Int))) (ckK ((2 : Int) ≠ 0) (K [[vI 1,vI (Int.tmod
 z4 2)],[vI (z1+1)],[.sl 0 3 []]])) (intK (cell (ent a 1) 0) fun z7=>ifK (decide (z7 = (2 : Int))) (ckK ((3 : Int) ≠ 0) (jn (fun k8=>ifK
 (decide ((3 : Int) < z2)) (k8 [[cell (ent a 2) 0],[vI (z1+1)],[vI z2],[vI 0],ent a 0,ent a 1,[vI 0,vI 0,.sl 0 3 []],[vI 4,vI 0],[.sl 0
 3 []]]) (k8 [[cell (ent a 2) 0],[vI (z1+1)],[vI z2],[vI (Int.tmod z4 3)],ent a 0,ent a 1,[vI 0,vI 0,.sl 0 3 []],[vI 4,vI 0],[.sl 0 3
 []]])) (fun st9=>intK (cell (ent st9 1) 0) fun z10=>intK (cell (ent st9 2) 0) fun z11=>intK (cell (ent st9 3) 0) fun z12=>slcK 3 (cell (ent
 st9 8) 0) fun n13 c14=>Lp (fun next15 st16=>intK (cell (ent st16 1) 0) fun z17=>intK (cell (ent st16 2) 0) fun z18=>intK (cell (ent st16 3)
 0) fun z19=>intK (cell (ent st16 4) 0) fun z20=>slcK 3 (cell (ent st16 9) 0) fun n21 c22=>ifK (decide (z20 < z19)) (slcK 5 (cell (ent st16 6)
 4) fun n23 c24=>ckK (0<=(0 : Int)/\(0 : Int) < (n23 : Int)) (ckK (okI (z18+1)) (caK Is s17 [ent st16 5,el c24 5 0,[cell (ent st16 0) 0],[vI
 z17],[vI (z18+1)]] fun r25=>intK (cell (ent r25 1) 0) fun z26=>slcK 3 (cell (ent r25 2) 0) fun n27 c28=>ckK (room (n21+1) 41) (ckK (okI
 (z20+1)) (next15 [[cell (ent st16 0) 0],[vI z26],[vI z18],[vI z19],[vI (z20+1)],ent st16 5,ent st16 6,ent st16 7,[cell (ent st16 8) 0,
 cell (ent st16 8) 1],[.sl (n21+1) 3 (c22++[cell (ent r25 0) 0,cell (ent r25 0) 1,.sl n27 3 c28])]]))))) (K [[cell (ent st16 8) 0,cell (ent
 st16 8) 1],[vI z17],[.sl n21 3 c22]])) [[cell (ent st9 0) 0],[vI z10],[vI z11],[vI z12],[vI 0],ent st9 4,ent st9 5,ent st9 6,[cell (ent
 st9 7) 0,cell (ent st9 7) 1],[.sl n13 3 c14]]))) (caK Is s43 [ent a 0,sub (ent a 1) 1 3] fun r29=>booK (cell (ent r29 1) 0) fun _=>intK (cell
 (ent r29 0) 3) fun z31=>ifK (decide (z31 = (1 : Int))) (slcK 11 (cell (ent r29 0) 8) fun n32 _=>ckK ((n32 : Int) ≠ 0) (slcK 11 (cell (ent r29 0)
 8) fun n34 c35=>ckK (0<=(Int.tmod z4 (n32 : Int))/\(Int.tmod z4 (n32 : Int)) < (n34 : Int)) (ckK (okI (z2+1)) (caK Is s17 [ent a 0,sub (el
 c35 11 (Int.toNat (Int.tmod z4 (n32 : Int)))) 4 5,[cell (ent a 2) 0],[vI (z1+1)],[vI (z2+1)]] fun r36=>intK (cell (ent r36 1) 0) fun z37 =>
 slcK 3 (cell (ent r36 2) 0) fun n38 c39=>K [[vI 3,vI (Int.tmod z4 (n32 : Int))],[vI z37],[.sl 1 3 [cell (ent r36 0) 0,cell (ent r36 0) 1,.sl
 n38 3 c39]]])))) (jn (fun k40=>Lp (fun next42 st43=>intK (cell (ent st43 1) 0) fun z44=>intK (cell (ent st43 2) 0) fun z45=>intK (cell (ent
 st43 3) 0) fun z46=>slcK 3 (cell (ent st43 8) 0) fun n47 c48=>slcK 11 (cell (ent st43 7) 8) fun n49 _=>ifK (decide (z46 < (n49 : Int))) (slcK
 11 (cell (ent st43 7) 8) fun n51 c52=>ckK (0<=z46/\z46 < (n51 : Int)) (ckK (okI (z45+1)) (caK Is s17 [ent st43 4,sub (el c52 11 (Int.toNat
 z46)) 4 5,[cell (ent st43 0) 0],[vI z44],[vI (z45+1)]] fun r53=>intK (cell (ent r53 1) 0) fun z54=>slcK 3 (cell (ent r53 2) 0) fun n55 c56
 => ckK (room (n47+1) 41) (ckK (okI (z46+1)) (next42 [[cell (ent st43 0) 0],[vI z54],[vI z45],[vI (z46+1)],ent st43 4,ent st43 5,[cell
 (ent st43 6) 0,cell (ent st43 6) 1],ent st43 7,[.sl (n47+1) 3 (c48++[cell (ent r53 0) 0,cell (ent r53 0) 1,.sl n55 3 c56])]]))))) (k40 [[vI
 z44],ent st43 5,[cell (ent st43 6) 0,cell (ent st43 6) 1],[.sl n47 3 c48]])) [[cell (ent a 2) 0],[vI (z1+1)],[vI z2],[vI 0],ent a 0,[vI
 0,vI 0,.sl 0 3 []],[vI 2,vI 0],ent r29 0,[.sl 0 3 []]]) (fun st41=>intK (cell (ent st41 0) 0) fun z57=>slcK 3 (cell (ent st41 3) 0) fun
 n58 c59=>K [[cell (ent st41 2) 0,cell (ent st41 2) 1],[vI z57],[.sl n58 3 c59]]))))))
theorem w17 : Wd ⟨[s15,s17,s43],[30],[],[54],[(0,shaD)]⟩ ⟨[(17,⟨[(2,.c .d),(3,.c .i),(4,.c .i),(5,.c (.p 0 0)),(6,.c (.p 1 0)),(10,.c (.p 2 0)),(13,.c (.p 3 0)),(14,.c .i),(15,.c .i)],[(0,.a 27 2),(1,.a 33 5),(2,.a 44 3),(3,.b 44 [.d,.d,.w 4]),(4,.w 44 3)]⟩),(32,⟨[(2,.c .d),(3,.c .i),(4,.c .i),(5,.c (.p 0 0)),(10,.c (.p 1 0)),(13,.c (.p 2 0)),(18,.c (.p 3 0)),(22,.c .i)],[(0,.a 27 2),(1,.a 44 3),(2,.b 44 [.d,.d,.w 4]),(3,.a 41 31),(4,.w 44 3)]⟩)],[(16,⟨[(2,.c .d),(3,.c .i),(4,.c .i),(5,.c (.p 0 0)),(6,.c (.p 1 0)),(10,.c (.p 2 0)),(13,.c (.p 3 0)),(14,.c .i)],[(0,.a 27 2),(1,.a 33 5),(2,.a 44 3),(3,.b 44 [.d,.d,.w 4]),(4,.w 44 3)]⟩),(37,⟨[(3,.c .i),(10,.c (.p 0 0)),(13,.c (.p 1 0))],[(0,.a 44 3),(1,.b 44 [.d,.d,.w 2]),(2,.w 44 3)]⟩)],[]⟩ s17 g17:=fun _ _ _=>by kernel_rfl
def g43 : Tx:=fun _ a K=>jn (fun k1=>Lp (fun next3 st4=>intK (cell (ent st4 0) 0) fun z5=>slcK 31 (cell (ent st4 1) 1) fun n6 _=>ifK
 (decide (z5 < (n6 : Int))) (slcK 31 (cell (ent st4 1) 1) fun n8 c9=>ckK (0<=z5/\z5 < (n8 : Int)) (intK (cell (sub (el c9 31 (Int.toNat z5)) 0 3)
 0) fun z10=>intK (cell (sub (el c9 31 (Int.toNat z5)) 0 3) 1) fun z11=>intK (cell (sub (el c9 31 (Int.toNat z5)) 0 3) 2) fun z12=>intK (cell
 (ent st4 2) 0) fun z13=>intK (cell (ent st4 2) 1) fun z14=>intK (cell (ent st4 2) 2) fun z15=>ifK (decide (z10 = z13/\z11 = z14/\z12 = z15))
 (slcK 31 (cell (ent st4 1) 1) fun n16 c17=>ckK (0<=z5/\z5 < (n16 : Int)) (K [el c17 31 (Int.toNat z5),[vB true]])) (ckK (okI (z5+1)) (next3
 [[vI (z5+1)],ent st4 1,ent st4 2,ent st4 3])))) (k1 [ent st4 3])) [[vI 0],ent a 0,ent a 1,[vI 0,vI 0,vI 0,vI 0,vI 0,vI 0,vI 0,.v
 (.string (ByteArray.mk #[])),.sl 0 11 [],vI 0,vI 0,vI 0,vI 0,.sl 0 5 [],vI 0,vI 0,vI 0,vI 0,vI 0,vI 0,vI 0,vI 0,vI 0,vI 0,vI 0,vI
 0,.sl 0 5 [],.sl 0 15 [],.sl 0 1 [],vI 0,.sl 0 1 []]]) (fun _=>K [[vI 0,vI 0,vI 0,vI 0,vI 0,vI 0,vI 0,.v (.string (ByteArray.mk #[])),
 .sl 0 11 [],vI 0,vI 0,vI 0,vI 0,.sl 0 5 [],vI 0,vI 0,vI 0,vI 0,vI 0,vI 0,vI 0,vI 0,vI 0,vI 0,vI 0,vI 0,.sl 0 5 [],.sl 0 15 [],
 .sl 0 1 [],vI 0,.sl 0 1 []],[vB false]])
theorem w43 : Wd ⟨[],[30],[],[54],[(0,shaD)]⟩ ⟨[(2,⟨[(2,.c (.p 0 0)),(3,.c (.p 1 0)),(4,.c (.p 2 0)),(6,.c .i)],[(0,.a 27 2),(1,.a 30 3),(2,.a 41 31)]⟩)],[(6,⟨[(4,.c (.p 0 0))],[(0,.a 41 31)]⟩)],[]⟩ s43 g43:=fun _ _ _=>by kernel_rfl
def g18 : Tx:=fun Is a K=>Lp (fun next1 st2=>intK (cell (ent st2 0) 0) fun z3=>intK (cell (ent st2 1) 0) fun z4=>slcK 3 (cell (ent st2 2) 2)
 fun n5 _=>ifK (decide (z4 < (n5 : Int))) (slcK 3 (cell (ent st2 2) 2) fun n7 c8=>ckK (0<=z4/\z4 < (n7 : Int)) (caK Is s18 [el c8 3 (Int.toNat
 z4)] fun r9=>intK (cell (ent r9 0) 0) fun z10=>ckK (okI (z3+z10)) (ckK (okI (z4+1)) (next1 [[vI (z3+z10)],[vI (z4+1)],ent st2 2]))))
 (K [[vI z3]])) [[vI 1],[vI 0],ent a 0]
theorem w18 : Wd ⟨[s18],[30],[],[54],[(0,shaD)]⟩ ⟨[(3,⟨[(1,.c (.p 0 0)),(3,.c .i),(4,.c .i)],[(0,.a 44 3)]⟩)],[],[]⟩ s18 g18:=fun _ _ _=>by kernel_rfl
def g20 : Tx:=fun Is a K=>caK Is s44 [ent a 0,ent a 1,[vI 1],[vI 0]] fun r1=>intK (cell (ent r1 1) 0) fun _=>intK (cell (ent r1 2) 0) fun
 z3=>slcK 3 (cell (ent r1 3) 0) fun n4 c5=>ifK (!(decide (z3 = (0 : Int)))) (K [[vI 0,vI 0],[vI z3],[.sl 0 3 []]]) (K [[cell (ent r1 0) 0,
 cell (ent r1 0) 1],[vI 0],[.sl n4 3 c5]])
theorem w20 : Wd ⟨[s44],[30],[],[54],[(0,shaD)]⟩ ⟨[],[],[]⟩ s20 g20:=fun _ _ _=>by kernel_rfl
def g44 : Tx:=fun Is a K=>intK (cell (ent a 2) 0) fun z1=>intK (cell (ent a 3) 0) fun z2=>caK Is s56 [ent a 0,ent a 1] fun r3=>booK (cell
 (ent r3 0) 0) fun b4=>ifK (!b4) (K [[vI 0,vI 0],[vI z2],[vI 1],[.sl 0 3 []]]) (ckK (okI (z2+1)) (ifK (decide ((256 : Int) < (z2+1))) (K
 [[vI 0,vI 0],[vI (z2+1)],[vI 4],[.sl 0 3 []]]) (ifK (decide ((24 : Int) < z1)) (K [[vI 0,vI 0],[vI (z2+1)],[vI 4],[.sl 0 3 []]]) (intK
 (cell (ent a 1) 0) fun z5=>ifK (decide (z5 = (0 : Int))) (K [[vI 0,vI 0],[vI (z2+1)],[vI 0],[.sl 0 3 []]]) (intK (cell (ent a 1) 0) fun z6
 => ifK (decide (z6 = (1 : Int))) (K [[vI 1,vI 0],[vI (z2+1)],[vI 0],[.sl 0 3 []]]) (intK (cell (ent a 1) 0) fun z7=>ifK (decide (z7 = (2 :
 Int))) (K [[vI 4,vI 0],[vI (z2+1)],[vI 0],[.sl 0 3 []]]) (caK Is s43 [ent a 0,sub (ent a 1) 1 3] fun r8=>booK (cell (ent r8 1) 0) fun _ =>
 slcK 11 (cell (ent r8 0) 8) fun n10 _=>jn (fun k12=>intK (cell (ent r8 0) 3) fun z14=>ifK (decide (z14 = (1 : Int))) (ifK (decide ((n10 : Int)
 = (0 : Int))) (K [[vI 0,vI 0],[vI (z2+1)],[vI 1],[.sl 0 3 []]]) (k12 [[vI z1],[vI (z2+1)],[vI 1],ent a 0,[vI 0,vI 0,.sl 0 3 []],ent
 r8 0,[vI 3,vI 0],[.sl 0 3 []]])) (k12 [[vI z1],[vI (z2+1)],[vI (n10 : Int)],ent a 0,[vI 0,vI 0,.sl 0 3 []],ent r8 0,[vI 2,vI 0],[.sl
 0 3 []]])) (fun st13=>intK (cell (ent st13 0) 0) fun z15=>intK (cell (ent st13 1) 0) fun z16=>intK (cell (ent st13 2) 0) fun z17=>slcK 3
 (cell (ent st13 7) 0) fun n18 c19=>Lp (fun next20 st21=>intK (cell (ent st21 0) 0) fun z22=>intK (cell (ent st21 1) 0) fun z23=>intK (cell
 (ent st21 2) 0) fun z24=>intK (cell (ent st21 3) 0) fun z25=>slcK 3 (cell (ent st21 8) 0) fun n26 c27=>ifK (decide (z25 < z24)) (slcK 11 (cell
 (ent st21 6) 8) fun n28 c29=>ckK (0<=z25/\z25 < (n28 : Int)) (ckK (okI (z22+1)) (caK Is s44 [ent st21 4,sub (el c29 11 (Int.toNat z25)) 4 5,
 [vI (z22+1)],[vI z23]] fun r30=>intK (cell (ent r30 1) 0) fun z31=>intK (cell (ent r30 2) 0) fun z32=>slcK 3 (cell (ent r30 3) 0) fun n33
 c34=>ifK (!(decide (z32 = (0 : Int)))) (K [[vI 0,vI 0],[vI z31],[vI z32],[.sl 0 3 []]]) (ckK (room (n26+1) 41) (ckK (okI (z25+1)) (next20
 [[vI z22],[vI z31],[vI z24],[vI (z25+1)],ent st21 4,ent st21 5,ent st21 6,[cell (ent st21 7) 0,cell (ent st21 7) 1],[.sl (n26+1) 3 (c27
 ++ [cell (ent r30 0) 0,cell (ent r30 0) 1,.sl n33 3 c34])]])))))) (K [[cell (ent st21 7) 0,cell (ent st21 7) 1],[vI z23],[vI 0],[.sl n26 3
 c27]])) [[vI z15],[vI z16],[vI z17],[vI 0],ent st13 3,ent st13 4,ent st13 5,[cell (ent st13 6) 0,cell (ent st13 6) 1],[.sl n18 3
 c19]]))))))))
theorem w44 : Wd ⟨[s43,s44,s56],[30],[],[54],[(0,shaD)]⟩ ⟨[(21,⟨[(2,.c .i),(3,.c .i),(4,.c (.p 0 0)),(8,.c (.p 1 0)),(11,.c (.p 2 0)),(13,.c (.p 3 0)),(14,.c .i),(15,.c .i)],[(0,.a 27 2),(1,.a 44 3),(2,.a 41 31),(3,.b 44 [.d,.d,.w 4]),(4,.w 44 3)]⟩)],[(20,⟨[(2,.c .i),(3,.c .i),(4,.c (.p 0 0)),(8,.c (.p 1 0)),(11,.c (.p 2 0)),(13,.c (.p 3 0)),(14,.c .i)],[(0,.a 27 2),(1,.a 44 3),(2,.a 41 31),(3,.b 44 [.d,.d,.w 4]),(4,.w 44 3)]⟩)],[]⟩ s44 g44:=fun _ _ _=>by kernel_rfl
def g56 : Tx:=fun Is a K=>caK Is s63 [ent a 0,ent a 1,[vI 1]] fun r1=>booK (cell (ent r1 0) 0) fun b2=>K [[vB b2]]
theorem w56 : Wd ⟨[s63],[30],[],[54],[(0,shaD)]⟩ ⟨[],[],[]⟩ s56 g56:=fun _ _ _=>by kernel_rfl
def g63 : Tx:=fun Is a K=>intK (cell (ent a 2) 0) fun z1=>ifK (decide ((24 : Int) < z1)) (K [[vB false]]) (intK (cell (ent a 1) 0) fun z2=>ifK
 (decide (z2 = (2 : Int))) (intK (cell (sub (ent a 1) 1 3) 0) fun z3=>intK (cell (sub (ent a 1) 1 3) 1) fun z4=>intK (cell (sub (ent a 1) 1 3) 2)
 fun z5=>ifK (decide (z3 = (0 : Int)/\z4 = (0 : Int)/\z5 = (0 : Int))) (slcK 5 (cell (ent a 1) 4) fun n6 _=>ifK (decide ((n6 : Int) = (1 :
 Int))) (slcK 5 (cell (ent a 1) 4) fun n8 c9=>ckK (0<=(0 : Int)/\(0 : Int) < (n8 : Int)) (ckK (okI (z1+1)) (caK Is s63 [ent a 0,el c9 5 0,[vI
 (z1+1)]] fun r10=>booK (cell (ent r10 0) 0) fun b11=>K [[vB b11]]))) (K [[vB false]])) (K [[vB false]])) (slcK 5 (cell (ent a 1) 4) fun n12 _
 => ifK (decide ((0 : Int) < (n12 : Int))) (K [[vB false]]) (intK (cell (ent a 1) 0) fun z14=>ifK (decide (z14 = (3 : Int))) (caK Is s43 [ent a 0,
 sub (ent a 1) 1 3] fun r15=>booK (cell (ent r15 1) 0) fun b16=>ifK b16 (intK (cell (ent r15 0) 3) fun z17=>ifK (decide (z17 = (0 : Int))) (K
 [[vB true]]) (intK (cell (ent r15 0) 3) fun z18=>K [[vB (decide (z18 = (1 : Int)))]])) (K [[vB false]])) (intK (cell (sub (ent a 1) 1 3) 0) fun
 z19=>intK (cell (sub (ent a 1) 1 3) 1) fun z20=>intK (cell (sub (ent a 1) 1 3) 2) fun z21=>ifK (decide (z19 = (0 : Int)/\z20 = (0 : Int) /\
 z21 = (0 : Int))) (intK (cell (ent a 1) 0) fun z22=>ifK (decide (z22 = (0 : Int))) (K [[vB true]]) (intK (cell (ent a 1) 0) fun z23=>K [[vB
 (decide (z23 = (1 : Int)))]])) (K [[vB false]])))))
theorem w63 : Wd ⟨[s43,s63],[30],[],[54],[(0,shaD)]⟩ ⟨[],[],[]⟩ s63 g63:=fun _ _ _=>by kernel_rfl
def g19 : Tx:=fun Is a K=>Lp (fun next1 st2=>intK (cell (ent st2 0) 0) fun z3=>intK (cell (ent st2 1) 0) fun z4=>slcK 3 (cell (ent st2 2) 2)
 fun n5 _=>ifK (decide (z4 < (n5 : Int))) (slcK 3 (cell (ent st2 2) 2) fun n7 c8=>ckK (0<=z4/\z4 < (n7 : Int)) (caK Is s19 [el c8 3 (Int.toNat
 z4)] fun r9=>intK (cell (ent r9 0) 0) fun z10=>ckK (okI (z4+1)) (next1 [[vI (max z3 z10)],[vI (z4+1)],ent st2 2]))) (ckK (okI (z3+1)) (K
 [[vI (z3+1)]]))) [[vI 0],[vI 0],ent a 0]
theorem w19 : Wd ⟨[s19],[30],[],[54],[(0,shaD)]⟩ ⟨[(3,⟨[(1,.c (.p 0 0)),(3,.c .i),(4,.c .i)],[(0,.a 44 3)]⟩)],[],[]⟩ s19 g19:=fun _ _ _=>by kernel_rfl
def g9 : Tx:=fun _ a K=>intK (cell (ent a 1) 0) fun z1=>slcK 1 (cell (ent a 0) 0) fun n2 _=>slcK 1 (cell (ent a 0) 0) fun n4 c5=>ckK (0<=(0
 : Int)/\(0 : Int)<=(min (n2 : Int) z1)/\(min (n2 : Int) z1)<=(n4 : Int)) (ckK (room (0+(Int.toNat (min (n2 : Int) z1) - Int.toNat (0 : Int)))
 2) (K [[.sl (0+(Int.toNat (min (n2 : Int) z1) - Int.toNat (0 : Int))) 1 (sub c5 (Int.toNat (0 : Int) * 1) ((Int.toNat (min (n2 : Int) z1) -
 Int.toNat (0 : Int)) * 1))]]))
theorem w9 : Wd ⟨[],[30],[],[54],[(0,shaD)]⟩ ⟨[],[],[]⟩ s9 g9:=fun _ _ _=>by kernel_rfl
def g10 : Tx:=fun Is a K=>caK Is s26 [[cell (ent a 0) 0],[cell (ent a 1) 0]] fun r1=>intK (cell (ent r1 0) 0) fun z2=>caK Is s26 [[cell (ent
 a 0) 1],[cell (ent a 1) 1]] fun r3=>intK (cell (ent r3 0) 0) fun z4=>slcK 3 (cell (ent a 0) 2) fun n5 _=>slcK 3 (cell (ent a 1) 2) fun n7 _
 => caK Is s26 [[vI (n5 : Int)],[vI (n7 : Int)]] fun r9=>intK (cell (ent r9 0) 0) fun z10=>caK Is s25 [[.sl 3 1 [vI z2,vI z4,vI z10]]] fun r11
 => intK (cell (ent r11 0) 0) fun z12=>ifK (!(decide (z12 = (0 : Int)))) (K [[vI z12]]) (caK Is s27 [[cell (ent a 0) 2],[cell (ent a 1) 2]] fun
 r13=>intK (cell (ent r13 0) 0) fun z14=>K [[vI z14]])
theorem w10 : Wd ⟨[s25,s26,s27],[30],[],[54],[(0,shaD)]⟩ ⟨[],[],[]⟩ s10 g10:=fun _ _ _=>by kernel_rfl
def g26 : Tx:=fun Is a K=>intK (cell (ent a 0) 0) fun z1=>intK (cell (ent a 1) 0) fun z2=>caK Is s46 [[vI z1]] fun r3=>booK (cell (ent r3 0)
 0) fun b4=>caK Is s46 [[vI z2]] fun r5=>booK (cell (ent r5 0) 0) fun b6=>ifK b4 (ifK b6 (K [[vI 0]]) (K [[vI (-1)]])) (ifK b6 (K [[vI 1]])
 (ifK (decide (z1 < z2)) (K [[vI (-1)]]) (ifK (decide (z2 < z1)) (K [[vI 1]]) (K [[vI 0]]))))
theorem w26 : Wd ⟨[s46],[30],[],[54],[(0,shaD)]⟩ ⟨[],[],[]⟩ s26 g26:=fun _ _ _=>by kernel_rfl
def g46 : Tx:=fun _ a K=>intK (cell (ent a 0) 0) fun z1=>K [[vB (!(decide (z1 = z1)))]]
theorem w46 : Wd ⟨[],[30],[],[54],[(0,shaD)]⟩ ⟨[],[],[]⟩ s46 g46:=fun _ _ _=>by kernel_rfl
def g25 : Tx:=fun _ a K=>slcK 1 (cell (ent a 0) 0) fun n1 _=>Lp (fun next3 st4=>intK (cell (ent st4 0) 0) fun z5=>intK (cell (ent st4 2) 0)
 fun z6=>intK (cell (ent st4 3) 0) fun z7=>ifK (decide (z7 < z6)) (slcK 1 (cell (ent st4 1) 0) fun n8 c9=>ckK (0<=z7/\z7 < (n8 : Int)) (intK
 (cell (el c9 1 (Int.toNat z7)) 0) fun z10=>ifK (!(decide (z10 = z5))) (K [[cell (el c9 1 (Int.toNat z7)) 0]]) (ckK (okI (z7+1)) (next3 [[vI z5],
 [cell (ent st4 1) 0],[vI z6],[vI (z7+1)]])))) (K [[vI z5]])) [[vI 0],[cell (ent a 0) 0],[vI (n1 : Int)],[vI 0]]
theorem w25 : Wd ⟨[],[30],[],[54],[(0,shaD)]⟩ ⟨[(3,⟨[(3,.c .i),(6,.c .d),(7,.c .i),(8,.c .i)],[]⟩)],[],[]⟩ s25 g25:=fun _ _ _=>by kernel_rfl
def g27 : Tx:=fun Is a K=>slcK 3 (cell (ent a 0) 0) fun n1 _=>Lp (fun next3 st4=>intK (cell (ent st4 3) 0) fun z5=>intK (cell (ent st4 4) 0)
 fun z6=>ifK (decide (z6 < z5)) (slcK 3 (cell (ent st4 2) 0) fun n7 c8=>ckK (0<=z6/\z6 < (n7 : Int)) (slcK 3 (cell (ent st4 1) 0) fun n9 _ =>
 ifK (decide ((n9 : Int)<=z6)) (K [[vI 1]]) (slcK 3 (cell (ent st4 1) 0) fun n11 c12=>ckK (0<=z6/\z6 < (n11 : Int)) (caK Is s10 [el c8 3
 (Int.toNat z6),el c12 3 (Int.toNat z6)] fun r13=>intK (cell (ent r13 0) 0) fun z14=>ifK (!(decide (z14 = (0 : Int)))) (K [[vI z14]]) (ckK (okI
 (z6+1)) (next3 [[cell (ent st4 0) 0],[cell (ent st4 1) 0],[cell (ent st4 2) 0],[vI z5],[vI (z6+1)]])))))) (slcK 3 (cell (ent st4 0) 0) fun
 n15 _=>slcK 3 (cell (ent st4 1) 0) fun n17 _=>ifK (decide ((n15 : Int) < (n17 : Int))) (K [[vI (-1)]]) (K [[vI 0]]))) [[cell (ent a 0) 0],[cell
 (ent a 1) 0],[cell (ent a 0) 0],[vI (n1 : Int)],[vI 0]]
theorem w27 : Wd ⟨[s10],[30],[],[54],[(0,shaD)]⟩ ⟨[(2,⟨[(0,.c .d),(1,.c .d),(2,.c (.f 10 [])),(11,.c .d),(12,.c .i),(13,.c .i)],[]⟩)],[],[]⟩ s27 g27:=fun _ _ _=>by kernel_rfl
def g11 : Tx:=fun Is a K=>strK (cell (ent a 0) 0) fun s1=>caK Is s22 [[vI (ByteArray.size s1 : Int)]] fun r2=>slcK 1 (cell (ent r2 0) 0) fun
 n3 c4=>strK (cell (ent a 0) 0) fun s5=>ckK (room (n3+ByteArray.size s5) 2) (K [[.sl (n3+ByteArray.size s5) 1 (c4++(byteD s5))]])
theorem w11 : Wd ⟨[s22],[30],[],[54],[(0,shaD)]⟩ ⟨[],[],[]⟩ s11 g11:=fun _ _ _=>by kernel_rfl
def g12 : Tx:=fun Is a K=>intK (cell (ent a 0) 0) fun z1=>caK Is s28 [] fun r2=>ikK .i64 (vI z1) fun u3=>byK .u8 [vK .u8 (IntKind.wrap .u8
 u3)] fun l4=>caK Is s29 [ent r2 0,[vS (strB l4)]] fun r5=>slcK 1 (cell (ent a 1) 0) fun n6 _=>Lp (fun next8 st9=>intK (cell (ent st9 1) 0)
 fun z10=>intK (cell (ent st9 2) 0) fun z11=>ifK (decide (z11 < z10)) (slcK 1 (cell (ent st9 0) 0) fun n12 c13=>ckK (0<=z11/\z11 < (n12 :
 Int)) (caK Is s11 [[cell (el c13 1 (Int.toNat z11)) 0]] fun r14=>slcK 1 (cell (ent r14 0) 0) fun _ c16=>byK .u8 c16 fun l17=>caK Is s29 [ent
 st9 4,[vS (strB l17)]] fun r18=>ckK (okI (z11+1)) (next8 [[cell (ent st9 0) 0],[vI z10],[vI (z11+1)],ent st9 3,ent r18 0]))) (caK Is s30
 [ent st9 4] fun r19=>ckK (0<=(0 : Int)/\(0 : Int)<=(16 : Int)/\(16 : Int)<=((32 : Nat) : Int)) (ckK (16<=16) (K [sub (ent r19 0) 0 16]))))
 [[cell (ent a 1) 0],[vI (n6 : Int)],[vI 0],[vK .u8 0,vK .u8 0,vK .u8 0,vK .u8 0,vK .u8 0,vK .u8 0,vK .u8 0,vK .u8 0,vK .u8 0,vK .u8 0,
 vK .u8 0,vK .u8 0,vK .u8 0,vK .u8 0,vK .u8 0,vK .u8 0],ent r5 0]
theorem w12 : Wd ⟨[s11,s28,s29,s30],[30],[],[54],[(0,shaD)]⟩ ⟨[(3,⟨[(4,.c (.p 0 0)),(5,.c (.p 1 0)),(15,.c .d),(16,.c .i),(17,.c .i)],[(0,.a 54 16),(1,.a 85 73)]⟩)],[],[]⟩ s12 g12:=fun _ _ _=>by kernel_rfl
def g28 : Tx:=fun _ _ K=>K [[vK .u32 1779033703,vK .u32 3144134277,vK .u32 1013904242,vK .u32 2773480762,vK .u32 1359893119,vK .u32
 2600822924,vK .u32 528734635,vK .u32 1541459225,vK .u8 0,vK .u8 0,vK .u8 0,vK .u8 0,vK .u8 0,vK .u8 0,vK .u8 0,vK .u8 0,vK .u8 0,vK .u8
 0,vK .u8 0,vK .u8 0,vK .u8 0,vK .u8 0,vK .u8 0,vK .u8 0,vK .u8 0,vK .u8 0,vK .u8 0,vK .u8 0,vK .u8 0,vK .u8 0,vK .u8 0,vK .u8 0,vK
 .u8 0,vK .u8 0,vK .u8 0,vK .u8 0,vK .u8 0,vK .u8 0,vK .u8 0,vK .u8 0,vK .u8 0,vK .u8 0,vK .u8 0,vK .u8 0,vK .u8 0,vK .u8 0,vK .u8 0,
 vK .u8 0,vK .u8 0,vK .u8 0,vK .u8 0,vK .u8 0,vK .u8 0,vK .u8 0,vK .u8 0,vK .u8 0,vK .u8 0,vK .u8 0,vK .u8 0,vK .u8 0,vK .u8 0,vK .u8
 0,vK .u8 0,vK .u8 0,vK .u8 0,vK .u8 0,vK .u8 0,vK .u8 0,vK .u8 0,vK .u8 0,vK .u8 0,vK .u8 0,vK .u64 0]]
theorem w28 : Wd ⟨[],[30],[],[54],[(0,shaD)]⟩ ⟨[],[],[]⟩ s28 g28:=fun _ _ _=>by kernel_rfl
def g29 : Tx:=fun Is a K=>Lp (fun next1 st2=>strK (cell (ent st2 0) 0) fun s3=>ifK (!(decide (s3 = ByteArray.mk #[]))) (ikK .u64 (cell (ent
 st2 1) 72) fun u4=>ikK .u64 (vK .u64 64) fun u5=>ckK (u5 ≠ 0) (ikK .u64 (vK .u64 (Int.tmod u4 u5)) fun u6=>ckK (0<=(IntKind.wrap .i64 u6) /\
 (IntKind.wrap .i64 u6)<=(64 : Int)/\(64 : Int)<=((64 : Nat) : Int)) (strK (cell (ent st2 0) 0) fun s7=>ckK ((8+((Int.toNat (IntKind.wrap .i64
 u6)) * 1))+min (ByteArray.size s7) (64 - (Int.toNat (IntKind.wrap .i64 u6)))<=73) (strK (cell (ent st2 0) 0) fun s8=>ckK (0<=((min
 (ByteArray.size s7) (64 - (Int.toNat (IntKind.wrap .i64 u6))) : Nat) : Int)/\((min (ByteArray.size s7) (64 - (Int.toNat (IntKind.wrap .i64 u6))) :
 Nat) : Int)<=((ByteArray.size s8 : Nat) : Int)/\((ByteArray.size s8 : Nat) : Int)<=(ByteArray.size s8 : Int)) (ikK .i64 (vI ((min (ByteArray.size
 s7) (64 - (Int.toNat (IntKind.wrap .i64 u6))) : Nat) : Int)) fun u9=>ikK .u64 (cell (upd (ent st2 1) (8+((Int.toNat (IntKind.wrap .i64 u6)) *
 1)) (List.take (min (ByteArray.size s7) (64 - (Int.toNat (IntKind.wrap .i64 u6)))) (byteD s7))) 72) fun u10=>ikK .u64 (vK .u64 (IntKind.wrap .u64
 u9)) fun u11=>ckK (okI ((IntKind.wrap .i64 u6)+((min (ByteArray.size s7) (64 - (Int.toNat (IntKind.wrap .i64 u6))) : Nat) : Int))) (ifK (decide
 (((IntKind.wrap .i64 u6)+((min (ByteArray.size s7) (64 - (Int.toNat (IntKind.wrap .i64 u6))) : Nat) : Int)) = (64 : Int))) (ckK (0<=(0 : Int) /\
 (0 : Int)<=(64 : Int)/\(64 : Int)<=((64 : Nat) : Int)) (caK Is s47 [sub (upd (upd (ent st2 1) (8+((Int.toNat (IntKind.wrap .i64 u6)) * 1))
 (List.take (min (ByteArray.size s7) (64 - (Int.toNat (IntKind.wrap .i64 u6)))) (byteD s7))) 72 [vK .u64 (IntKind.wrap .u64 (u10+u11))]) 0 8,[.sl
 64 1 (sub (upd (upd (ent st2 1) (8+((Int.toNat (IntKind.wrap .i64 u6)) * 1)) (List.take (min (ByteArray.size s7) (64 - (Int.toNat (IntKind.wrap
 .i64 u6)))) (byteD s7))) 72 [vK .u64 (IntKind.wrap .u64 (u10+u11))]) 8 64)]] fun r12=>ckK (allV (ent r12 0) = true) (next1 [[vS
 (ByteArray.extract s8 (Int.toNat ((min (ByteArray.size s7) (64 - (Int.toNat (IntKind.wrap .i64 u6))) : Nat) : Int)) (Int.toNat ((ByteArray.size s8 :
 Nat) : Int)))],upd (upd (upd (ent st2 1) (8+((Int.toNat (IntKind.wrap .i64 u6)) * 1)) (List.take (min (ByteArray.size s7) (64 - (Int.toNat
 (IntKind.wrap .i64 u6)))) (byteD s7))) 72 [vK .u64 (IntKind.wrap .u64 (u10+u11))]) 0 (ent r12 0),ent st2 2]))) (next1 [[vS (ByteArray.extract s8
 (Int.toNat ((min (ByteArray.size s7) (64 - (Int.toNat (IntKind.wrap .i64 u6))) : Nat) : Int)) (Int.toNat ((ByteArray.size s8 : Nat) : Int)))],upd
 (upd (ent st2 1) (8+((Int.toNat (IntKind.wrap .i64 u6)) * 1)) (List.take (min (ByteArray.size s7) (64 - (Int.toNat (IntKind.wrap .i64 u6))))
 (byteD s7))) 72 [vK .u64 (IntKind.wrap .u64 (u10+u11))],ent st2 2]))))))) (K [ent st2 1])) [[cell (ent a 1) 0],ent a 0,List.replicate 8 (vK
 .u32 0)++(List.replicate 64 (vK .u8 0)++(List.replicate 1 (vK .u64 0)))]
theorem w29 : Wd ⟨[s47],[30],[],[54],[(0,shaD)]⟩ ⟨[(1,⟨[(1,.c .d),(2,.c (.p 0 0)),(4,.c (.p 1 0))],[(0,.a 85 73),(1,.a 85 73)]⟩)],[],[]⟩ s29 g29:=fun _ _ _=>by kernel_rfl
def g47 : Tx:=fun Is a K=>caK Is s57 [[cell (ent a 1) 0]] fun r1=>ckK (0<=(0 : Int)/\(0 : Int)<=(4 : Int)/\(4 : Int)<=((8 : Nat) : Int))
 (ckK (4<=4) (ckK (0<=(4 : Int)/\(4 : Int)<=(8 : Int)/\(8 : Int)<=((8 : Nat) : Int)) (ckK (4<=4) (jn (fun k2=>Lp (fun next4 st5=>intK
 (cell (ent st5 1) 0) fun z6=>ifK (decide (z6 < (64 : Int))) (ckK (0<=z6/\z6 < ((64 : Nat) : Int)) (ckK (0<=(3 : Int)/\(3 : Int) < ((4 : Nat) :
 Int)) (ckK (3 < 4) (ckK (0<=(0 : Int)/\(0 : Int) < ((4 : Nat) : Int)) (ckK (0 < 4) (caK Is s58 [[cell (ent st5 6) 0],[vI 6],[vI 11],[vI 25]]
 fun r7=>ikK .u32 (cell (ent st5 6) 3) fun u8=>ikK .u32 (cell (ent r7 0) 0) fun u9=>ckK (0<=(0 : Int)/\(0 : Int) < ((4 : Nat) : Int)) (ckK (0
 < 4) (ckK (0<=(1 : Int)/\(1 : Int) < ((4 : Nat) : Int)) (ckK (1 < 4) (ikK .u32 (cell (ent st5 6) 0) fun u10=>ikK .u32 (cell (ent st5 6) 1) fun
 u11=>ckK (0<=(0 : Int)/\(0 : Int) < ((4 : Nat) : Int)) (ckK (0 < 4) (ikK .u32 (cell (ent st5 6) 0) fun u12=>ckK (0<=(2 : Int)/\(2 : Int) <
 ((4 : Nat) : Int)) (ckK (2 < 4) (ikK .u32 (vK .u32 (bits .xor .u32 (IntKind.max .u32) u12)) fun u13=>ikK .u32 (cell (ent st5 6) 2) fun u14=>ikK
 .u32 (vK .u32 (bits .and .u32 u10 u11)) fun u15=>ikK .u32 (vK .u32 (bits .and .u32 u13 u14)) fun u16=>ikK .u32 (vK .u32 (IntKind.wrap .u32 (u8 +
 u9))) fun u17=>ikK .u32 (vK .u32 (bits .xor .u32 u15 u16)) fun u18=>ikK .u32 (vK .u32 (IntKind.wrap .u32 (u17+u18))) fun u19=>ikK .u32 (cell
 (ent st5 0) (Int.toNat z6)) fun u20=>ckK (0<=z6/\z6 < ((64 : Nat) : Int)) (ckK ((0+((Int.toNat z6) * 1)) < 64) (ikK .u32 (vK .u32
 (IntKind.wrap .u32 (u19+u20))) fun u21=>ikK .u32 (cell (ent st5 4) (0+((Int.toNat z6) * 1))) fun u22=>ckK (0<=(0 : Int)/\(0 : Int) < ((4 :
 Nat) : Int)) (ckK (0 < 4) (caK Is s58 [[cell (ent st5 5) 0],[vI 2],[vI 13],[vI 22]] fun r23=>ckK (0<=(0 : Int)/\(0 : Int) < ((4 : Nat) :
 Int)) (ckK (0 < 4) (ckK (0<=(1 : Int)/\(1 : Int) < ((4 : Nat) : Int)) (ckK (1 < 4) (ikK .u32 (cell (ent st5 5) 0) fun u24=>ikK .u32 (cell (ent
 st5 5) 1) fun u25=>ckK (0<=(0 : Int)/\(0 : Int) < ((4 : Nat) : Int)) (ckK (0 < 4) (ckK (0<=(2 : Int)/\(2 : Int) < ((4 : Nat) : Int)) (ckK (2 <
 4) (ikK .u32 (cell (ent st5 5) 0) fun u26=>ikK .u32 (cell (ent st5 5) 2) fun u27=>ikK .u32 (vK .u32 (bits .and .u32 u24 u25)) fun u28=>ikK
 .u32 (vK .u32 (bits .and .u32 u26 u27)) fun u29=>ckK (0<=(1 : Int)/\(1 : Int) < ((4 : Nat) : Int)) (ckK (1 < 4) (ckK (0<=(2 : Int)/\(2 : Int)
 < ((4 : Nat) : Int)) (ckK (2 < 4) (ikK .u32 (cell (ent st5 5) 1) fun u30=>ikK .u32 (cell (ent st5 5) 2) fun u31=>ikK .u32 (vK .u32 (bits .xor
 .u32 u28 u29)) fun u32=>ikK .u32 (vK .u32 (bits .and .u32 u30 u31)) fun u33=>ikK .u32 (cell (ent r23 0) 0) fun u34=>ikK .u32 (vK .u32 (bits
 .xor .u32 u32 u33)) fun u35=>ckK (0<=(3 : Int)/\(3 : Int) < ((4 : Nat) : Int)) (ckK (3 < 4) (ikK .u32 (cell (ent st5 5) 3) fun u36=>ikK .u32
 (vK .u32 (IntKind.wrap .u32 (u21+u22))) fun u37=>ckK (0<=(0 : Int)/\(0 : Int) < ((4 : Nat) : Int)) (ckK (0 < 4) (ckK (0<=(1 : Int)/\(1 :
 Int) < ((4 : Nat) : Int)) (ckK (1 < 4) (ckK (0<=(2 : Int)/\(2 : Int) < ((4 : Nat) : Int)) (ckK (2 < 4) (ikK .u32 (vK .u32 (IntKind.wrap .u32 (u21
 + u22))) fun u38=>ikK .u32 (vK .u32 (IntKind.wrap .u32 (u34+u35))) fun u39=>ckK (0<=(0 : Int)/\(0 : Int) < ((4 : Nat) : Int)) (ckK (0 < 4)
 (ckK (0<=(1 : Int)/\(1 : Int) < ((4 : Nat) : Int)) (ckK (1 < 4) (ckK (0<=(2 : Int)/\(2 : Int) < ((4 : Nat) : Int)) (ckK (2 < 4) (ckK (okI (z6 +
 1)) (next4 [ent st5 0,[vI (z6+1)],ent st5 2,ent st5 3,ent st5 4,vK .u32 (IntKind.wrap .u32 (u38+u39))::cls (ent st5 5) 0 3 [],vK .u32
 (IntKind.wrap .u32 (u36+u37))::cls (ent st5 6) 0 3 []]))))))))))))))))))))))))))))))))))))))))))))) (k2 [ent st5 2,ent st5 3,ent st5 5,ent
 st5 6])) [shaD,[vI 0],ent a 0,[vK .u32 0,vK .u32 0,vK .u32 0,vK .u32 0,vK .u32 0,vK .u32 0,vK .u32 0,vK .u32 0],ent r1 0,sub (ent a 0) 0
 4,sub (ent a 0) 4 4]) (fun st3=>Lp (fun next40 st41=>intK (cell (ent st41 0) 0) fun z42=>ifK (decide (z42 < (4 : Int))) (ckK (0<=z42/\z42 <
 ((8 : Nat) : Int)) (ckK ((0+((Int.toNat z42) * 1)) < 8) (ckK (0<=z42/\z42 < ((4 : Nat) : Int)) (ckK ((0+((Int.toNat z42) * 1)) < 4) (ikK .u32
 (cell (ent st41 1) (0+((Int.toNat z42) * 1))) fun u43=>ikK .u32 (cell (ent st41 3) (0+((Int.toNat z42) * 1))) fun u44=>ckK (0<=z42/\z42 <
 ((8 : Nat) : Int)) (ckK ((0+((Int.toNat z42) * 1))+1<=8) (ckK (okI (z42+4)) (ckK (0<=(z42+4)/\(z42+4) < ((8 : Nat) : Int)) (ckK ((0 +
 ((Int.toNat (z42+4)) * 1)) < 8) (ckK (0<=z42/\z42 < ((4 : Nat) : Int)) (ckK ((0+((Int.toNat z42) * 1)) < 4) (ikK .u32 (cell (upd (ent st41 1)
 (0+((Int.toNat z42) * 1)) [vK .u32 (IntKind.wrap .u32 (u43+u44))]) (0+((Int.toNat (z42+4)) * 1))) fun u45=>ikK .u32 (cell (ent st41 4) (0
 + ((Int.toNat z42) * 1))) fun u46=>ckK (0<=(z42+4)/\(z42+4) < ((8 : Nat) : Int)) (ckK ((0+((Int.toNat (z42+4)) * 1))+1<=8) (ckK (okI
 (z42+1)) (next40 [[vI (z42+1)],upd (upd (ent st41 1) (0+((Int.toNat z42) * 1)) [vK .u32 (IntKind.wrap .u32 (u43+u44))]) (0+((Int.toNat
 (z42+4)) * 1)) [vK .u32 (IntKind.wrap .u32 (u45+u46))],ent st41 2,ent st41 3,ent st41 4]))))))))))))))) (K [ent st41 1])) [[vI 0],ent st3 0,
 ent st3 1,ent st3 2,ent st3 3])))))
theorem w47 : Wd ⟨[s57,s58],[30],[],[54],[(0,shaD)]⟩ ⟨[(4,⟨[(2,.c (.p 0 0)),(4,.c (.p 1 0)),(5,.c (.p 2 0)),(6,.c (.p 3 0)),(7,.c (.p 4 0)),(21,.a 64),(22,.c .i)],[(0,.a 81 8),(1,.a 81 8),(2,.a 109 64),(3,.a 111 4),(4,.a 111 4)]⟩),(12,⟨[(2,.c (.p 0 0)),(4,.c (.p 1 0)),(6,.c (.p 2 0)),(7,.c (.p 3 0)),(94,.c .i)],[(0,.a 81 8),(1,.a 81 8),(2,.a 111 4),(3,.a 111 4)]⟩)],[(11,⟨[(2,.c (.p 0 0)),(4,.c (.p 1 0)),(6,.c (.p 2 0)),(7,.c (.p 3 0))],[(0,.a 81 8),(1,.a 81 8),(2,.a 111 4),(3,.a 111 4)]⟩)],[]⟩ s47 g47:=fun _ _ _=>by kernel_rfl
def g57 : Tx:=fun Is a K=>Lp (fun next1 st2=>intK (cell (ent st2 1) 0) fun z3=>ifK (decide (z3 < (64 : Int))) (ifK (decide (z3 < (16 : Int)))
 (ckK (okI (4 * z3)) (ckK (okI (4 * z3)) (ckK (okI ((4 * z3)+4)) (slcK 1 (cell (ent st2 0) 0) fun n4 c5=>ckK (0<=(4 * z3)/\(4 * z3)<=((4 * z3)
 + 4)/\((4 * z3)+4)<=(n4 : Int)) (Lp (fun next6 st7=>intK (cell (ent st7 1) 0) fun z8=>intK (cell (ent st7 2) 0) fun z9=>intK (cell (ent
 st7 4) 0) fun z10=>intK (cell (ent st7 5) 0) fun z11=>ifK (decide (z11 < z10)) (slcK 1 (cell (ent st7 3) 0) fun n12 c13=>ckK (0<=z11/\z11 <
 (n12 : Int)) (ckK (0<=z8/\z8 < ((64 : Nat) : Int)) (ckK ((0+((Int.toNat z8) * 1)) < 64) (ikK .u32 (cell (ent st7 7) (0+((Int.toNat z8) * 1)))
 fun u14=>ikK .u64 (vK .u64 8) fun u15=>ckK (0<=u15) (ikK .u8 (cell (el c13 1 (Int.toNat z11)) 0) fun u16=>ikK .u32 (vK .u32 (IntKind.wrap
 .u32 (u14 * 2 ^ min (Int.toNat u15) (IntKind.bits .u32)))) fun u17=>ikK .u32 (vK .u32 (IntKind.wrap .u32 u16)) fun u18=>ckK (0<=z8/\z8 < ((64
 : Nat) : Int)) (ckK ((0+((Int.toNat z8) * 1))+1<=64) (ckK (okI (z11+1)) (next6 [[cell (ent st7 0) 0],[vI z8],[vI z9],[cell (ent st7 3) 0],
 [vI z10],[vI (z11+1)],ent st7 6,upd (ent st7 7) (0+((Int.toNat z8) * 1)) [vK .u32 (bits .or .u32 u17 u18)]])))))))) (ckK (okI (z9+1))
 (next1 [[cell (ent st7 0) 0],[vI (z9+1)],ent st7 6,ent st7 7]))) [[cell (ent st2 0) 0],[vI z3],[vI z3],[.sl (Int.toNat ((4 * z3)+4) -
 Int.toNat (4 * z3)) 1 (sub c5 (Int.toNat (4 * z3) * 1) ((Int.toNat ((4 * z3)+4) - Int.toNat (4 * z3)) * 1))],[vI (((Int.toNat ((4 * z3)+4) -
 Int.toNat (4 * z3)) : Nat) : Int)],[vI 0],ent st2 2,ent st2 3]))))) (ckK (okI (z3 - 15)) (ckK (0<=(z3 - 15)/\(z3 - 15) < ((64 : Nat) : Int))
 (ckK ((0+((Int.toNat (z3 - 15)) * 1)) < 64) (ckK (okI (z3 - 2)) (ckK (0<=(z3 - 2)/\(z3 - 2) < ((64 : Nat) : Int)) (ckK ((0+((Int.toNat (z3 -
 2)) * 1)) < 64) (caK Is s64 [[cell (ent st2 3) (0+((Int.toNat (z3 - 15)) * 1))],[vI (-7)]] fun r19=>caK Is s64 [[cell (ent st2 3) (0 +
 ((Int.toNat (z3 - 15)) * 1))],[vI (-18)]] fun r20=>ikK .u32 (cell (ent r19 0) 0) fun u21=>ikK .u32 (cell (ent r20 0) 0) fun u22=>ikK .u32
 (cell (ent st2 3) (0+((Int.toNat (z3 - 15)) * 1))) fun u23=>ikK .u64 (vK .u64 3) fun u24=>ckK (0<=u24) (ikK .u32 (vK .u32 (bits .xor .u32 u21
 u22)) fun u25=>ikK .u32 (vK .u32 (u23 / 2 ^ min (Int.toNat u24) (IntKind.bits .u32))) fun u26=>caK Is s64 [[cell (ent st2 3) (0+((Int.toNat
 (z3 - 2)) * 1))],[vI (-17)]] fun r27=>caK Is s64 [[cell (ent st2 3) (0+((Int.toNat (z3 - 2)) * 1))],[vI (-19)]] fun r28=>ikK .u32 (cell (ent
 r27 0) 0) fun u29=>ikK .u32 (cell (ent r28 0) 0) fun u30=>ikK .u32 (cell (ent st2 3) (0+((Int.toNat (z3 - 2)) * 1))) fun u31=>ikK .u64 (vK
 .u64 10) fun u32=>ckK (0<=u32) (ikK .u32 (vK .u32 (bits .xor .u32 u29 u30)) fun u33=>ikK .u32 (vK .u32 (u31 / 2 ^ min (Int.toNat u32)
 (IntKind.bits .u32))) fun u34=>ckK (okI (z3 - 16)) (ckK (0<=(z3 - 16)/\(z3 - 16) < ((64 : Nat) : Int)) (ckK ((0+((Int.toNat (z3 - 16)) * 1)) <
 64) (ikK .u32 (cell (ent st2 3) (0+((Int.toNat (z3 - 16)) * 1))) fun u35=>ikK .u32 (vK .u32 (bits .xor .u32 u25 u26)) fun u36=>ckK (okI (z3 -
 7)) (ckK (0<=(z3 - 7)/\(z3 - 7) < ((64 : Nat) : Int)) (ckK ((0+((Int.toNat (z3 - 7)) * 1)) < 64) (ikK .u32 (vK .u32 (IntKind.wrap .u32 (u35 +
 u36))) fun u37=>ikK .u32 (cell (ent st2 3) (0+((Int.toNat (z3 - 7)) * 1))) fun u38=>ikK .u32 (vK .u32 (IntKind.wrap .u32 (u37+u38))) fun u39
 => ikK .u32 (vK .u32 (bits .xor .u32 u33 u34)) fun u40=>ckK (0<=z3/\z3 < ((64 : Nat) : Int)) (ckK ((0+((Int.toNat z3) * 1))+1<=64) (ckK
 (okI (z3+1)) (next1 [[cell (ent st2 0) 0],[vI (z3+1)],ent st2 2,upd (ent st2 3) (0+((Int.toNat z3) * 1)) [vK .u32 (IntKind.wrap .u32 (u39 +
 u40))]]))))))))))))))))))) (K [ent st2 3])) [[cell (ent a 0) 0],[vI 0],List.replicate 64 (vK .u32 0),List.replicate 64 (vK .u32 0)]
theorem w57 : Wd ⟨[s64],[30],[],[54],[(0,shaD)]⟩ ⟨[(3,⟨[(0,.c .d),(2,.c (.p 0 0)),(3,.c (.p 1 0)),(11,.c .i)],[(0,.a 109 64),(1,.a 109 64)]⟩),(7,⟨[(0,.c .d),(2,.c (.p 0 0)),(3,.c (.p 1 0)),(4,.c .i),(11,.c .i),(22,.c .d),(23,.c .i),(24,.c .i)],[(0,.a 109 64),(1,.a 109 64)]⟩)],[],[]⟩ s57 g57:=fun _ _ _=>by kernel_rfl
def g64 : Tx:=fun _ a K=>intK (cell (ent a 1) 0) fun z1=>ikK .i64 (vI z1) fun u2=>ikK .u64 (vK .u64 (IntKind.wrap .u64 u2)) fun u3=>ikK .u64
 (vK .u64 31) fun u4=>ikK .u32 (cell (ent a 0) 0) fun u5=>ikK .u64 (vK .u64 (bits .and .u64 u3 u4)) fun u6=>ckK (0<=u6) (ikK .u64 (vK .u64 32)
 fun u7=>ikK .u64 (vK .u64 (bits .and .u64 u3 u4)) fun u8=>ikK .u32 (cell (ent a 0) 0) fun u9=>ikK .u64 (vK .u64 (IntKind.wrap .u64 (u7 - u8)))
 fun u10=>ckK (0<=u10) (ikK .u32 (vK .u32 (IntKind.wrap .u32 (u5 * 2 ^ min (Int.toNat u6) (IntKind.bits .u32)))) fun u11=>ikK .u32 (vK .u32 (u9
 / 2 ^ min (Int.toNat u10) (IntKind.bits .u32))) fun u12=>K [[vK .u32 (bits .or .u32 u11 u12)]]))
theorem w64 : Wd ⟨[],[30],[],[54],[(0,shaD)]⟩ ⟨[],[],[]⟩ s64 g64:=fun _ _ _=>by kernel_rfl
def g58 : Tx:=fun Is a K=>intK (cell (ent a 1) 0) fun z1=>intK (cell (ent a 2) 0) fun z2=>intK (cell (ent a 3) 0) fun z3=>ckK (okI (-z1))
 (caK Is s64 [[cell (ent a 0) 0],[vI (-z1)]] fun r4=>ckK (okI (-z2)) (caK Is s64 [[cell (ent a 0) 0],[vI (-z2)]] fun r5=>ikK .u32 (cell (ent r4
 0) 0) fun u6=>ikK .u32 (cell (ent r5 0) 0) fun u7=>ckK (okI (-z3)) (caK Is s64 [[cell (ent a 0) 0],[vI (-z3)]] fun r8=>ikK .u32 (vK .u32
 (bits .xor .u32 u6 u7)) fun u9=>ikK .u32 (cell (ent r8 0) 0) fun u10=>K [[vK .u32 (bits .xor .u32 u9 u10)]])))
theorem w58 : Wd ⟨[s64],[30],[],[54],[(0,shaD)]⟩ ⟨[],[],[]⟩ s58 g58:=fun _ _ _=>by kernel_rfl
def g30 : Tx:=fun Is a K=>ikK .u64 (vK .u64 8) fun u1=>ikK .u64 (cell (ent a 0) 72) fun u2=>Lp (fun next3 st4=>slcK 1 (cell (ent st4 3) 0)
 fun n5 c6=>ikK .u64 (cell (ent st4 1) 72) fun u7=>ckK (okI ((IntKind.wrap .i64 u7)+(n5 : Int))) (ckK ((64 : Int) ≠ 0) (ifK (!(decide
 ((Int.tmod ((IntKind.wrap .i64 u7)+(n5 : Int)) 64) = (56 : Int)))) (ckK (room (n5+1) 2) (next3 [[cell (ent st4 0) 0],ent st4 1,ent st4 2,[.sl
 (n5+1) 1 (c6++[vK .u8 0])]])) (Lp (fun next8 st9=>intK (cell (ent st9 1) 0) fun z10=>slcK 1 (cell (ent st9 4) 0) fun n11 c12=>ifK (decide
 (z10 < (8 : Int))) (ckK (okI (8 * z10)) (ckK (okI (56 - (8 * z10))) (ikK .u64 (cell (ent st9 0) 0) fun u13=>ikK .i64 (vI (56 - (8 * z10))) fun u14
 => ckK (0<=u14) (ikK .u64 (vK .u64 (u13 / 2 ^ min (Int.toNat u14) (IntKind.bits .u64))) fun u15=>ckK (room (n11+1) 2) (ckK (okI (z10+1))
 (next8 [[cell (ent st9 0) 0],[vI (z10+1)],ent st9 2,ent st9 3,[.sl (n11+1) 1 (c12++[vK .u8 (IntKind.wrap .u8 u15)])]])))))) (byK .u8 c12
 fun l16=>caK Is s29 [ent st9 2,[vS (strB l16)]] fun r17=>Lp (fun next18 st19=>intK (cell (ent st19 0) 0) fun z20=>ifK (decide (z20 < (32 :
 Int))) (ckK ((4 : Int) ≠ 0/\okI (Int.tdiv z20 4)) (ckK (0<=(Int.tdiv z20 4)/\(Int.tdiv z20 4) < ((8 : Nat) : Int)) (ckK ((0+((Int.toNat
 (Int.tdiv z20 4)) * 1)) < 73) (ckK ((4 : Int) ≠ 0) (ckK (okI (8 * (Int.tmod z20 4))) (ckK (okI (24 - (8 * (Int.tmod z20 4)))) (ikK .u32 (cell (ent
 st19 1) (0+((Int.toNat (Int.tdiv z20 4)) * 1))) fun u21=>ikK .i64 (vI (24 - (8 * (Int.tmod z20 4)))) fun u22=>ckK (0<=u22) (ikK .u32 (vK .u32
 (u21 / 2 ^ min (Int.toNat u22) (IntKind.bits .u32))) fun u23=>ckK (0<=z20/\z20 < ((32 : Nat) : Int)) (ckK ((0+((Int.toNat z20) * 1))+1<=32)
 (ckK (okI (z20+1)) (next18 [[vI (z20+1)],ent st19 1,ent st19 2,upd (ent st19 3) (0+((Int.toNat z20) * 1)) [vK .u8 (IntKind.wrap .u8
 u23)]]))))))))))) (K [ent st19 3])) [[vI 0],ent r17 0,ent st9 3,[vK .u8 0,vK .u8 0,vK .u8 0,vK .u8 0,vK .u8 0,vK .u8 0,vK .u8 0,vK .u8 0,
 vK .u8 0,vK .u8 0,vK .u8 0,vK .u8 0,vK .u8 0,vK .u8 0,vK .u8 0,vK .u8 0,vK .u8 0,vK .u8 0,vK .u8 0,vK .u8 0,vK .u8 0,vK .u8 0,vK .u8
 0,vK .u8 0,vK .u8 0,vK .u8 0,vK .u8 0,vK .u8 0,vK .u8 0,vK .u8 0,vK .u8 0,vK .u8 0]])) [[cell (ent st4 0) 0],[vI 0],ent st4 1,ent st4 2,
 [.sl n5 1 c6]])))) [[vK .u64 (IntKind.wrap .u64 (u1 * u2))],ent a 0,[vK .u8 0,vK .u8 0,vK .u8 0,vK .u8 0,vK .u8 0,vK .u8 0,vK .u8 0,vK .u8
 0,vK .u8 0,vK .u8 0,vK .u8 0,vK .u8 0,vK .u8 0,vK .u8 0,vK .u8 0,vK .u8 0,vK .u8 0,vK .u8 0,vK .u8 0,vK .u8 0,vK .u8 0,vK .u8 0,vK
 .u8 0,vK .u8 0,vK .u8 0,vK .u8 0,vK .u8 0,vK .u8 0,vK .u8 0,vK .u8 0,vK .u8 0,vK .u8 0],[.sl 1 1 [vK .u8 128]]]
theorem w30 : Wd ⟨[s29],[30],[],[54],[(0,shaD)]⟩ ⟨[(3,⟨[(1,.c (.p 0 0)),(2,.c (.p 1 0)),(3,.c .d),(4,.c (.w 2))],[(0,.a 85 73),(1,.a 88 32),(2,.w 5 1)]⟩),(6,⟨[(1,.c (.p 0 0)),(2,.c (.p 1 0)),(3,.c .d),(4,.c (.w 2)),(23,.c .i)],[(0,.a 85 73),(1,.a 88 32),(2,.w 5 1)]⟩),(13,⟨[(1,.c (.p 0 0)),(2,.c (.p 1 0)),(6,.c (.p 2 0)),(40,.c .i)],[(0,.a 85 73),(1,.a 88 32),(2,.a 88 32)]⟩)],[],[]⟩ s30 g30:=fun _ _ _=>by kernel_rfl
end Go.Proofs.YtfgkhhfkodlbpaaDoor

namespace Xe
open Go
mutual
def Ex.post : Ex->List Int
 | .mk i _ _ _ _ l _=>Ex.posts l++[i.index]
def Ex.posts : List Ex->List Int
 | []=>[]
 | e::es=>e.post++Ex.posts es
end
structure PlanT where
 kind : Int
 name : ByteArray
 types : List Ty
 names : List ByteArray
 bases : List Int
 result : Ty
 mod : Int
def PlanT.enc (p : PlanT) : List D:=[dint p.kind,dstr p.name,.sl p.types.length 5 (p.types.flatMap Ty.enc),dstrs p.names,dints p.bases]++p.result.enc++[dint p.mod]
end Xe

namespace Pm
open Go Xe
theorem el_Df (xs : List DefT) {k : Nat} (hk : k < xs.length) : el (xs.flatMap DefT.enc) 31 k = xs[k].enc:=el_flat DefT.enc_len xs hk
theorem el_Sl (xs : List SlotT) {k : Nat} (hk : k < xs.length) : el (xs.flatMap SlotT.enc) 11 k = xs[k].enc:=el_flat SlotT.enc_len xs hk
theorem el_Vl (xs : List Val) {k : Nat} (hk : k < xs.length) : el (xs.flatMap Val.enc) 3 k = xs[k].enc:=el_flat Val.enc_len xs hk
theorem id_eq (a b : IdT) : (a.shop = b.shop/\a.seq = b.seq/\a.index = b.index) = (a = b):=propext ⟨fun h=>IdT.ext' h.1 h.2.1 h.2.2,fun h=>by rw [h];exact ⟨rfl,rfl,rfl⟩⟩
theorem ifK_nd (p : Prop) (_ : Decidable p) (k h : Prop) : ifK (!decide p) k h = ((p->h)/\(¬ p->k)):=by
 by_cases hp : p <;> simp [ifK,hp]
theorem pms : (∀ (d : D) (ds : List D) (o n : Nat),sub (d::ds) (o+1) n = sub ds o n)/\(∀ (d : D) (ds : List D) (n : Nat),sub (d::ds) 0 (n+1) = d::sub ds 0 n)/\(∀ (ds : List D),sub ds 0 0 = []) /\
  (∀ (p : Prop) (_ : Decidable p) (k h : Prop),ifK (!decide p) k h = ((p->h)/\(¬ p->k))) /\
  (∀ (t : Ty) (o n : Nat),sub t.enc o n = sub [dint t.kind,dint t.df.shop,dint t.df.seq,dint t.df.index,.sl t.kids.length 5 (t.kids.flatMap Ty.enc)] o n) /\
  (∀ (b : Bnd) (i : Nat),cell b.enc i = cell [dint b.id.shop,dint b.id.seq,dint b.id.index,dint b.n,dint b.ty.kind,dint b.ty.df.shop,dint b.ty.df.seq,dint b.ty.df.index,.sl b.ty.kids.length 5 (b.ty.kids.flatMap Ty.enc)] i) /\
  (∀ (b : Bnd),sub b.enc 4 5 = b.ty.enc)/\(∀ (b : Bnd),sub b.enc 0 3 = b.id.enc) /\
  (∀ (x : SlotT),sub x.enc 4 5 = x.ty.enc)/\(∀ (x : SlotT),sub x.enc 0 3 = x.id.enc) /\
  (∀ (x : DefT),sub x.enc 0 3 = x.id.enc)/\(∀ (x : DefT),sub x.enc 4 3 = x.mod.enc)/\(∀ (x : DefT),sub x.enc 9 5 = x.result.enc)/\(∀ (x : DefT),sub x.enc 14 15 = x.body.enc) /\
  (∀ (x : DefT),cell x.enc 3 = dint x.kind)/\(∀ (x : DefT),cell x.enc 8 = .sl x.slots.length 11 (x.slots.flatMap SlotT.enc))/\(∀ (x : ModT),sub x.enc 0 3 = x.id.enc) /\
  (∀ (x : IdT) (i : Nat),cell x.enc i = cell [dint x.shop,dint x.seq,dint x.index] i)/\(∀ a b : IdT,(a.shop = b.shop/\a.seq = b.seq/\a.index = b.index) = (a = b))/\(∀ e : Ex,sub e.enc 5 3 = e.ref.enc)/\(∀ e : Ex,sub e.enc 0 3 = e.id.enc)/\(∀ e : Ex,sub e.enc 8 5 = e.ty.enc):=by
 refine ⟨fun _ _ _ _=>rfl,fun _ _ _=>rfl,fun _=>rfl,fun _ _ _ _=>ifK_nd _ _ _ _,fun t o n=>by rw [Ty.enc_eq],fun _ _=>rfl,fun b=>by rw [Ty.enc_eq];rfl,fun _=>rfl,fun b=>by rw [Ty.enc_eq];rfl,fun _=>rfl,fun _=>rfl,fun _=>rfl,fun b=>by rw [Ty.enc_eq];rfl,fun b=>by rw [Ex.enc_eq];rfl,fun _=>rfl,fun _=>rfl,fun _=>rfl,fun _ _=>rfl,id_eq,fun e=>by rw [Ex.enc_eq];rfl,fun e=>by rw [Ex.enc_eq];rfl,fun e=>by rw [Ex.enc_eq,Ty.enc_eq];rfl⟩
theorem jn_to {X : (St'->Prop)->Prop} {k : St'->Prop} (r : St') (h : X fun st=>st = r) (hk : k r) : jn X k:=⟨_,h,fun _ e=>e ▸ hk⟩
theorem ty0_enc : ty0.enc = [vI 0,vI 0,vI 0,vI 0,.sl 0 5 []]:=by rw [Ty.enc_eq];rfl
theorem lt0_enc : (listT ty0).enc = [vI 2,vI 0,vI 0,vI 0,.sl 1 5 [vI 0,vI 0,vI 0,vI 0,.sl 0 5 []]]:=by
 rw [Ty.enc_eq]
 show [dint 2,dint 0,dint 0,dint 0,.sl 1 5 ([ty0].flatMap Ty.enc)] = _
 simp [ty0_enc]
theorem ty1_enc : (Ty.mk 1 id0 []).enc = [vI 1,vI 0,vI 0,vI 0,.sl 0 5 []]:=by rw [Ty.enc_eq];rfl
theorem headD_eq {α : Type} {l : List α} {d : α} (h : 0 < l.length) : l.headD d = l[0]:=by
 cases l with
 | nil=>cases h
 | cons a l=>rfl
theorem tmod_pos {z n : Int} (hz : 0<=z) : z.tmod n = z % n:=Int.tmod_eq_emod_of_nonneg hz
theorem tdiv_pos {z n : Int} (hz : 0<=z) : z.tdiv n = z / n:=Int.tdiv_eq_ediv_of_nonneg hz
end Pm

namespace Go.Proofs.YtfgkhhfkodlbpaaDoor
open Xe Pm
abbrev IS:=Pm.Is Tryd.prog
theorem around_is {z n : Int} (hn : 1<=n) (hz : InI z) : IS s41 [[vI z],[vI n]] [[vI (around z n)]]:=by
 refine w41.is ?_
 unfold g41
 simp only [pmr]
 refine jn_of ?_
 simp only [pmr]
 rw [around_eq z n hn]
 unfold okI InI at *
 refine ⟨fun h=>⟨Q0,Q0,Q0,?_⟩,fun h=>⟨Q0,?_⟩⟩
 ·rw [if_pos h]
 ·rw [if_neg h]
theorem ID_is {z : Int} (h0 : 0<=z) (hz : InI z) : IS s14 [[vI z]] [(idK z).enc]:=by
 refine w14.is ?_
 unfold g14
 simp only [pmr]
 unfold okI InI at *
 have e:=tdiv_pos (n:=32) h0
 refine ⟨⟨Q1,Q0,Q0⟩,Q0,Q1,?_⟩
 rfl
theorem At_is {l : List Int} {i n : Int} (hn : 1<=n) (hl : ∀ x∈l,InI x) : IS s15 [[dints l],[vI i],[vI n]] [[vI (atL l i n)]]:=by
 refine w15.is ?_
 unfold g15 dints atL
 simp only [pmr]
 refine ⟨fun h=>by rw [if_pos (.inl h)],fun h=>⟨fun h1=>by rw [if_pos (.inr h1)],fun h1=>⟨Q0,?_⟩⟩⟩
 have hk : i.toNat < l.length:=Q0
 rw [el_map l hk]
 simp only [pmr]
 refine caK_of (around_is hn (hl _ (List.getElem_mem hk))) ?_
 simp only [pmr]
 rw [if_neg Q0,List.getD_eq_getElem?_getD,List.getElem?_eq_getElem hk]
 rfl
theorem List_is (t : Ty) : IS s42 [t.enc] [[vI 2,vI 0,vI 0,vI 0],[.sl 1 5 t.enc]]:=by
 refine w42.is ?_
 unfold g42
 simp only [pmr,List.append_nil]
theorem Of_is (i : IdT) : IS s5 [i.enc] [(ofT i).enc]:=by
 refine w5.is ?_
 unfold g5
 rw [Ty.enc_eq]
 rfl
abbrev pgL (p : ProgT) : List D:=[.sl p.mods.length 6 (p.mods.flatMap ModT.enc),.sl p.defs.length 31 (p.defs.flatMap DefT.enc)]
theorem rDef_is (p : ProgT) (i : IdT) (hs : p.defs.length<=1000000000000) : IS s43 [pgL p,i.enc] [(theDef p i).enc,[vB (decide (hasDef p i))]]:=by
 refine w43.is ?_
 unfold g43
 simp only [pmr]
 refine jn_of ?_
 refine Lp_to p.defs.length (fun k=>[[vI (k : Int)],pgL p,i.enc,def0.enc]) (fun k=>∀ j (hj : j < p.defs.length),j < k->p.defs[j].id ≠ i) (fun _ _ h=>absurd h (Nat.not_lt_zero _)) rfl fun k next hi hI hn=>?_
 simp only [pmr,pms]
 refine ⟨fun h=>?_,fun h=>?_⟩
 ·have hk : k < p.defs.length:=Q0
  rw [el_Df _ hk]
  simp only [pmr,pms]
  refine ⟨Q0,fun e=>⟨Q0,?_⟩,fun e=>⟨Q4,hn hk fun j hj h=>?_⟩⟩
  ·obtain ⟨h1,h2⟩:=theDef_hit hk hI e
   rw [h2,decide_eq_true h1]
  ·by_cases e' : j = k
   ·subst e'
    exact e
   ·exact hI j hj Q0
 ·obtain rfl : k = p.defs.length:=Q0
  obtain ⟨h1,h2⟩:=theDef_miss fun j hj=>hI j hj hj
  rw [h2,decide_eq_false h1]
  rfl
theorem len_sizes : ∀ l : List Val,l.length<=Val.sizes l
 | []=>by simp
 | x::xs=>by have:=len_sizes xs;have:=Val.size_pos x;rw [Val.sizes,List.length_cons];omega
theorem boolD {p : Prop} [Decidable p] {b : Bool} (h : b = true↔p) : ([[vB b]] : St') = [[vB (decide p)]]:=by cases b <;> simp_all
mutual
theorem depth_le : ∀ v : Val,v.depth<=v.size
 | .mk k n l=>by rw [Val.depth,Val.size];have:=depths_le l;omega
theorem depths_le : ∀ l : List Val,Val.depths l<=Val.sizes l
 | []=>by simp [Val.depths]
 | v::vs=>by rw [Val.depths,Val.sizes];have:=depth_le v;have:=depths_le vs;omega
end
theorem rsize_is (v : Val) : v.size<=1000000000000000->IS s18 [v.enc] [[vI (v.size : Int)]]:=by
 refine Val.rec' (p:=fun v=>v.size<=1000000000000000->IS s18 [v.enc] [[vI (v.size : Int)]]) (fun v ih hv=>?_) v
 refine w18.is ?_
 unfold g18
 rw [Val.enc_eq]
 have he:=Val.size_eq v
 refine Lp_to v.kids.length (fun j=>[[vI (1+(Val.sizes (v.kids.take j) : Int))],[vI (j : Int)],[dint v.kind,dint v.n,.sl v.kids.length 3 (v.kids.flatMap Val.enc)]]) (fun _=>True) trivial (by simp [Val.sizes];rfl) fun j next hj _ hn=>?_
 simp only [pmr]
 refine ⟨fun h=>⟨Q0,?_⟩,fun h=>?_⟩
 ·have hlt : j < v.kids.length:=Q0
  have hm:=Val.size_mem (List.getElem_mem hlt)
  have h1:=Val.sizes_succ v.kids j hlt
  have h2:=Val.sizes_take v.kids (j+1)
  have h3:=len_sizes v.kids
  rw [el_Vl _ hlt]
  refine caK_of (ih _ (List.getElem_mem hlt) Q0) ?_
  simp only [pmr]
  unfold okI
  refine ⟨Q0,Q0,?_⟩
  have:=hn hlt trivial
  rw [h1] at this
  push_cast at this
  rw [<-Int.add_assoc] at this
  exact this
 ·have : j = v.kids.length:=Q0
  subst this
  rw [List.take_length,he]
  push_cast
  rfl
theorem rdepth_is (v : Val) : v.size<=1000000000000000->IS s19 [v.enc] [[vI (v.depth : Int)]]:=by
 refine Val.rec' (p:=fun v=>v.size<=1000000000000000->IS s19 [v.enc] [[vI (v.depth : Int)]]) (fun v ih hv=>?_) v
 refine w19.is ?_
 unfold g19
 rw [Val.enc_eq]
 have he:=Val.size_eq v
 have hd:=Val.depth_eq v
 have hds : Val.depths v.kids<=Val.sizes v.kids:=depths_le v.kids
 refine Lp_to v.kids.length (fun j=>[[vI (Val.depths (v.kids.take j) : Int)],[vI (j : Int)],[dint v.kind,dint v.n,.sl v.kids.length 3 (v.kids.flatMap Val.enc)]]) (fun _=>True) trivial (by simp [Val.depths];rfl) fun j next hj _ hn=>?_
 simp only [pmr]
 refine ⟨fun h=>⟨Q0,?_⟩,fun h=>?_⟩
 ·have hlt : j < v.kids.length:=Q0
  have hm:=Val.size_mem (List.getElem_mem hlt)
  have h1:=Val.depths_succ v.kids j hlt
  have h3:=len_sizes v.kids
  rw [el_Vl _ hlt]
  refine caK_of (ih _ (List.getElem_mem hlt) Q0) ?_
  simp only [pmr]
  unfold okI
  refine ⟨Q0,?_⟩
  have:=hn hlt trivial
  rw [h1] at this
  rw [show max ((Val.depths (v.kids.take j) : Nat) : Int) ((v.kids[j].depth : Nat) : Int) = ((max (Val.depths (v.kids.take j)) v.kids[j].depth : Nat) : Int) by omega]
  exact this
 ·have : j = v.kids.length:=Q0
  subst this
  rw [List.take_length,hd]
  unfold okI
  exact ⟨Q0,rfl⟩
def vlD (l : List Val) : D:=.sl l.length 3 (l.flatMap Val.enc)
section
variable {p : ProgT} {l : List Int}
def mkO (r : MR) : St':=[[vI r.1.kind,vI r.1.n],[vI r.2],[vlD r.1.kids]]
def MkIs (p : ProgT) (l : List Int) (n : Nat) (t : Ty) (pos d : Int) : Prop:=IS s17 [pgL p,t.enc,[dints l],[vI pos],[vI d]] (mkO (mkF p l n t pos d))
theorem v_cells (v : Val) : [vI v.kind,vI v.n,vlD v.kids] = v.enc:=by rw [Val.enc_eq];rfl
theorem vl_snoc (dn : List Val) (v : Val) : D.sl (dn.length+1) 3 (dn.flatMap Val.enc++[vI v.kind,vI v.n,vlD v.kids]) = vlD (dn++[v]):=by
 rw [v_cells]
 unfold vlD
 simp
theorem make_is (hp : p.defs.length<=1000000) (hl : ∀ x∈l,InI x) : ∀ (n : Nat) (t : Ty) (pos d : Int),wfT p n t->0<=pos->pos+4 ^ n<=1000000000000->0<=d->d+n<=1000000->MkIs p l n t pos d:=by
 intro n
 induction n with
 | zero=>intro t pos d h;exact h.elim
 | succ n ih =>
  intro t pos d h h0 hb hd0 hdb
  have hpw : (1 : Int)<=4 ^ n:=Int.pow_pos (n:=4) (m:=n) Q1
  have hs4 : (4 : Int) ^ (n+1) = 4 ^ n * 4:=Int.pow_succ 4 n
  unfold MkIs
  have ht:=mkF_pos (l:=l) (n+1) t pos d h
  rw [mkF] at ht ⊢
  have hz:=atL_lt l pos 1048576 Q0
  refine w17.is ?_
  unfold g17
  simp only [pmr,pms]
  refine caK_of (At_is Q0 hl) ?_
  simp only [pmr]
  generalize hz4 : atL l pos 1048576 = z4 at hz ht ⊢
  have d16 : z4.tdiv 16 = z4 / 16:=tdiv_pos hz.1
  have m3 : (z4.tdiv 16).tmod 3 = (z4 / 16) % 3:=by rw [d16];exact tmod_pos Q0
  have m9 : (z4.tdiv 16).tmod 9 = (z4 / 16) % 9:=by rw [d16];exact tmod_pos Q0
  refine ⟨Q4,fun k0=>?_,fun k0=>⟨fun k1=>?_,fun k1=>⟨fun k2=>?_,fun k2=>?_⟩⟩⟩
  ·rw [if_pos k0]
   refine ⟨Q1,fun c=>⟨⟨Q1,Q4⟩,Q1,Q4,?_⟩,fun c=>⟨Q1,fun c2=>⟨⟨Q1,Q4⟩,Q1,Q4,?_⟩,fun c2=>⟨⟨Q1,Q4⟩,Q1,Q4,?_⟩⟩⟩
   ·rw [if_pos c];rfl
   ·rw [if_neg c,if_pos c2];rfl
   ·rw [if_neg c,if_neg c2];rfl
  ·rw [if_neg k0,if_pos k1]
   exact ⟨Q1,rfl⟩
  ·rw [if_neg k0,if_neg k1,if_pos k2]
   obtain ⟨w1,w2⟩:=wfT_list h k2
   rw [headD_eq w1] at w2
   have w3 : t.kids.headD ty0 = t.kids[0]:=headD_eq w1
   rw [w3]
   refine ⟨Q1,?_⟩
   generalize hm : (if 3 < d then 0 else (z4.tmod 3).toNat) = m
   have hm3 : m<=2:=by
    have : z4.tmod 3 = z4 % 3:=tmod_pos hz.1
    rw [<-hm];split <;> omega
   refine jn_to [[dints l],[vI (pos+1)],[vI d],[vI (m : Int)],pgL p,t.enc,[vI 0,vI 0,.sl 0 3 []],[vI 4,vI 0],[.sl 0 3 []]] ?_ ?_
   ·have : z4.tmod 3 = z4 % 3:=tmod_pos hz.1
    refine ⟨fun c=>by rw [<-hm,if_pos c];rfl,fun c=>?_⟩
    rw [<-hm,if_neg c,Int.toNat_of_nonneg Q0]
   ·simp only [pmr]
    generalize hg : (fun u q=>mkF p l n u q (d+1)) = gg
    generalize hr : mkS gg (List.replicate m t.kids[0]) (pos+1) = r
    refine Lp_on (σ:=Nat×List Val×Int) (fun x=>[[dints l],[vI x.2.2],[vI d],[vI (m : Int)],[vI (x.1 : Int)],pgL p,t.enc,[vI 0,vI 0,.sl 0 3 []],[vI 4,vI 0],[vlD x.2.1]]) (fun x=>m - x.1)
     (fun x=>x.1<=m/\x.2.1.length = x.1/\0<=x.2.2/\x.2.2<=pos+1+x.1 * 4 ^ n/\r = mJ x.2.1 (mkS gg ((List.replicate m t.kids[0]).drop x.1) x.2.2)) (0,[],pos+1) ⟨Nat.zero_le _,rfl,by show 0<=pos+1;omega,by show pos+1<=_;simp,by rw [<-hr];rfl⟩ rfl ?_
    rintro ⟨j,dn,q⟩ next ⟨h1,h2,h3,h4,h5⟩ hn
    dsimp only at h1 h2 h3 h4 h5 hn
    have hmul : (j : Int) * 4 ^ n<=2 * 4 ^ n:=Int.mul_le_mul_of_nonneg_right Q0 Q0
    unfold vlD at hn ⊢
    simp only [pmr]
    refine ⟨fun hj=>?_,fun hj=>?_⟩
    ·have hlt : j < m:=Q0
     have hpos:=mkF_pos (l:=l) n t.kids[0] q (d+1) w2
     have e0 : el (t.kids.flatMap Ty.enc) 5 0 = t.kids[0].enc:=el_Ty t.kids (k:=0) w1
     rw [e0]
     have hj2 : ((j+1 : Nat) : Int) * 4 ^ n = j * 4 ^ n+4 ^ n:=by rw [Int.natCast_add,Int.add_mul];simp
     have hlast : (j : Int) * 4 ^ n<=1 * 4 ^ n:=Int.mul_le_mul_of_nonneg_right Q0 Q0
     refine ⟨⟨Q1,Q0⟩,Q4,caK_of (ih t.kids[0] q (d+1) w2 h3 Q0 Q0 Q0) ?_⟩
     unfold mkO vlD
     simp only [pmr]
     have hstep:=mJ_step (k:=j) (by rw [List.length_replicate];exact hlt) h5
     rw [List.getElem_replicate,<-hg] at hstep
     refine ⟨Qa,Q4,?_⟩
     have:=hn (j+1,dn++[(mkF p l n t.kids[0] q (d+1)).1],(mkF p l n t.kids[0] q (d+1)).2) (by show m - (j+1) < m - j;omega) ⟨by show j+1<=m;omega,by simp [h2],by show 0<=(mkF p l n t.kids[0] q (d+1)).2;omega,by show (mkF p l n t.kids[0] q (d+1)).2<=pos+1+((j+1 : Nat) : Int) * 4 ^ n;omega,by rw [<-hg];exact hstep⟩
     have e:=vl_snoc dn (mkF p l n t.kids[0] q (d+1)).1
     unfold vlD at e
     dsimp only at this
     rw [<-e] at this
     exact this
    ·obtain rfl : j = m:=Q0
     rw [mJ_end Q2 h5]
     rfl
  ·rw [if_neg k0,if_neg k1,if_neg k2]
   obtain ⟨w1,w2,w3⟩:=wfT_def h k0 k1 k2
   refine caK_of (rDef_is p t.df Q0) ?_
   simp only [pmr,pms]
   generalize hdd : theDef p t.df = dd at w1 w2 w3 ht ⊢
   refine ⟨fun kc=>?_,fun kc=>?_⟩
   ·rw [if_pos kc]
    have w2:=w2 kc
    have hm : z4.tmod dd.slots.length = z4 % dd.slots.length:=tmod_pos hz.1
    have hm0:=Int.emod_nonneg z4 (show (dd.slots.length : Int) ≠ 0 by omega)
    have hm1:=Int.emod_lt_of_pos z4 (show (0 : Int) < dd.slots.length by omega)
    rw [<-hm] at hm0 hm1
    generalize hi : z4.tmod dd.slots.length = iz at hm0 hm1 ht ⊢
    have hlt : iz.toNat < dd.slots.length:=Q0
    rw [el_Sl _ hlt]
    simp only [pms]
    have hty : (dd.slots.map SlotT.ty).getD iz.toNat ty0 = dd.slots[iz.toNat].ty:=by rw [List.getD_eq_getElem?_getD,List.getElem?_eq_getElem (by simpa using hlt)];simp
    rw [hty]
    refine ⟨Q0,⟨hm0,hm1⟩,Q4,caK_of (ih _ (pos+1) (d+1) (w3 _ (List.getElem_mem hlt)) Q0 Q0 Q0 Q0) ?_⟩
    unfold mkO
    have e:=v_cells (mkF p l n dd.slots[iz.toNat].ty (pos+1) (d+1)).1
    unfold vlD at e ⊢
    simp only [pmr]
    rw [e]
    simp [Val.kids,Val.kind,Val.n]
   ·rw [if_neg kc]
    generalize hg : (fun u q=>mkF p l n u q (d+1)) = gg
    generalize hr : mkS gg (dd.slots.map SlotT.ty) (pos+1) = r
    refine jn_to [[vI r.2],[vI 0,vI 0,.sl 0 3 []],[vI 2,vI 0],[vlD r.1]] ?_ ?_
    ·refine Lp_on (σ:=Nat×List Val×Int) (fun x=>[[dints l],[vI x.2.2],[vI d],[vI (x.1 : Int)],pgL p,[vI 0,vI 0,.sl 0 3 []],[vI 2,vI 0],dd.enc,[vlD x.2.1]]) (fun x=>dd.slots.length - x.1)
      (fun x=>x.1<=dd.slots.length/\x.2.1.length = x.1/\0<=x.2.2/\x.2.2<=pos+1+x.1 * 4 ^ n/\r = mJ x.2.1 (mkS gg ((dd.slots.map SlotT.ty).drop x.1) x.2.2)) (0,[],pos+1) ⟨Nat.zero_le _,rfl,by show 0<=pos+1;omega,by show pos+1<=_;simp,by rw [<-hr];rfl⟩ rfl ?_
     rintro ⟨j,dn,q⟩ next ⟨h1,h2,h3,h4,h5⟩ hn
     dsimp only at h1 h2 h3 h4 h5 hn
     unfold vlD at hn ⊢
     simp only [pmr,pms]
     refine ⟨fun hj=>?_,fun hj=>?_⟩
     ·have hlt : j < dd.slots.length:=Q0
      have hw:=w3 _ (List.getElem_mem hlt)
      have hpos:=mkF_pos (l:=l) n dd.slots[j].ty q (d+1) hw
      rw [el_Sl _ hlt]
      simp only [pms]
      have hj2 : ((j+1 : Nat) : Int) * 4 ^ n = j * 4 ^ n+4 ^ n:=by rw [Int.natCast_add,Int.add_mul];simp
      have hlast : (j : Int) * 4 ^ n<=2 * 4 ^ n:=Int.mul_le_mul_of_nonneg_right Q0 Q0
      refine ⟨⟨Q0,Q0⟩,Q4,caK_of (ih _ q (d+1) hw h3 Q0 Q0 Q0) ?_⟩
      unfold mkO vlD
      simp only [pmr]
      have hstep:=mJ_step (k:=j) (by rw [List.length_map];exact hlt) h5
      rw [List.getElem_map,<-hg] at hstep
      refine ⟨Qa,Q4,?_⟩
      have:=hn (j+1,dn++[(mkF p l n dd.slots[j].ty q (d+1)).1],(mkF p l n dd.slots[j].ty q (d+1)).2) (by show dd.slots.length - (j+1) < dd.slots.length - j;omega) ⟨by show j+1<=_;omega,by simp [h2],by show 0<=(mkF p l n dd.slots[j].ty q (d+1)).2;omega,by show (mkF p l n dd.slots[j].ty q (d+1)).2<=pos+1+((j+1 : Nat) : Int) * 4 ^ n;omega,by rw [<-hg];exact hstep⟩
      have e:=vl_snoc dn (mkF p l n dd.slots[j].ty q (d+1)).1
      unfold vlD at e
      dsimp only at this
      rw [<-e] at this
      exact this
     ·obtain rfl : j = dd.slots.length:=Q0
      rw [mJ_end Q2 h5]
    ·unfold vlD
     simp only [pmr]
     rfl
end
def vlK (l : List Val) : D:=.sl l.length 3 (l.flatMap Val.enc)
theorem nan_is (z : Int) : IS s46 [[vI z]] [[vB false]]:=by
 refine w46.is ?_
 unfold g46
 simp only [pmr,decide_true,Bool.not_true]
theorem cmpI_is (a b : Int) : IS s26 [[vI a],[vI b]] [[vI (cmpI a b)]]:=by
 refine w26.is ?_
 unfold g26
 simp only [pmr]
 refine caK_of (nan_is a) ?_
 simp only [pmr]
 refine caK_of (nan_is b) ?_
 simp only [pmr]
 unfold cmpI
 exact ⟨fun h=>by rw [if_pos h],fun h=>⟨fun h2=>by rw [if_neg h,if_pos h2],fun h2=>by rw [if_neg h,if_neg h2]⟩⟩
theorem or_is (a b c : Int) : IS s25 [[.sl 3 1 [vI a,vI b,vI c]]] [[vI (if a ≠ 0 then a else if b ≠ 0 then b else c)]]:=by
 refine w25.is ?_
 unfold g25
 simp only [pmr]
 refine Lp_to 3 (fun j=>[[vI 0],[.sl 3 1 [vI a,vI b,vI c]],[vI 3],[vI (j : Int)]]) (fun j=>(0 < j->a = 0)/\(1 < j->b = 0)/\(2 < j->c = 0)) ⟨fun h=>by omega,fun h=>by omega,fun h=>by omega⟩ rfl fun j next hj hI hn=>?_
 simp only [pmr]
 have e0 : el [vI a,vI b,vI c] 1 0 = [vI a]:=rfl
 have e1 : el [vI a,vI b,vI c] 1 1 = [vI b]:=rfl
 have e2 : el [vI a,vI b,vI c] 1 2 = [vI c]:=rfl
 refine ⟨fun h=>⟨Q0,?_⟩,fun h=>?_⟩
 ·have : j = 0\/j = 1\/j = 2:=Q0
  rcases this with rfl | rfl | rfl
  ·rw [e0]
   simp only [pmr,pms]
   exact ⟨fun z=>⟨Q4,hn Q0 ⟨fun _=>z,fun h=>by omega,fun h=>by omega⟩⟩,fun z=>by rw [if_pos z]⟩
  ·rw [e1]
   simp only [pmr,pms]
   have ha:=hI.1 Q0
   exact ⟨fun z=>⟨Q4,hn Q0 ⟨fun _=>ha,fun _=>z,fun h=>by omega⟩⟩,fun z=>by rw [if_neg Q0,if_pos z]⟩
  ·rw [e2]
   simp only [pmr,pms]
   have ha:=hI.1 Q0
   have hb:=hI.2.1 Q0
   exact ⟨fun z=>⟨Q4,hn Q0 ⟨fun _=>ha,fun _=>hb,fun _=>z⟩⟩,fun z=>by rw [if_neg Q0,if_neg Q0]⟩
 ·rw [hI.1 Q0,hI.2.1 Q0,hI.2.2 Q0]
  rfl
theorem ecmp_is (a : Val) : ∀ b : Val,a.size<=1000000000000000->IS s10 [a.enc,b.enc] [[vI (cmpV a b)]]:=by
 refine Val.rec' (p:=fun a=>∀ b : Val,a.size<=1000000000000000->IS s10 [a.enc,b.enc] [[vI (cmpV a b)]]) (fun a ih b ha=>?_) a
 refine w10.is ?_
 unfold g10
 have hc:=cmpV_eq a b
 rw [Val.enc_eq a,Val.enc_eq b]
 simp only [pmr]
 refine caK_of (cmpI_is _ _) ?_
 simp only [pmr]
 refine caK_of (cmpI_is _ _) ?_
 simp only [pmr]
 refine caK_of (cmpI_is _ _) ?_
 simp only [pmr]
 refine caK_of (or_is _ _ _) ?_
 simp only [pmr,pms]
 have hls:=len_sizes a.kids
 have hse:=Val.size_eq a
 refine ⟨fun h=>?_,fun h=>?_⟩
 ·have z : cmpI a.kind b.kind = 0/\cmpI a.n b.n = 0/\cmpI a.kids.length b.kids.length = 0:=by
   split at h
   ·exact absurd h ‹_›
   ·split at h
    ·exact absurd h ‹_›
    ·exact ⟨Q0,Q0,h⟩
  rw [z.1,z.2.1,z.2.2,if_neg Q1,if_neg Q1,if_neg Q1] at hc
  have hl : a.kids.length = b.kids.length:=by
   have:=z.2.2
   unfold cmpI at this
   split at this
   ·omega
   ·split at this <;> omega
  suffices hk : IS s27 [[vlK a.kids],[vlK b.kids]] [[vI (cmpVs a.kids b.kids)]] by
   refine caK_of hk ?_
   rw [<-hc]
   rfl
  refine w27.is ?_
  unfold g27 vlK
  simp only [pmr]
  refine Lp_to a.kids.length (fun j=>[[vlK a.kids],[vlK b.kids],[vlK a.kids],[vI (a.kids.length : Int)],[vI (j : Int)]]) (fun j=>∀ i (h : i < a.kids.length) (h2 : i < b.kids.length),i < j->cmpV a.kids[i] b.kids[i] = 0) (fun _ _ _ h=>absurd h (Nat.not_lt_zero _)) rfl fun j next hj hI hn=>?_
  unfold vlK at hn ⊢
  simp only [pmr]
  refine ⟨fun h=>?_,fun h=>?_⟩
  ·have hlt : j < a.kids.length:=Q0
   have hlt' : j < b.kids.length:=Q0
   have hm:=Val.size_mem (List.getElem_mem hlt)
   refine ⟨Q0,fun c=>absurd c Q0,fun _=>⟨Q0,?_⟩⟩
   rw [el_Vl _ hlt,el_Vl _ hlt']
   refine caK_of (ih _ (List.getElem_mem hlt) _ Q0) ?_
   simp only [pmr,pms]
   refine ⟨fun h0=>⟨Q4,hn hlt fun i h1 h2 h3=>?_⟩,fun h0=>?_⟩
   ·by_cases e : i = j
    ·subst e;exact h0
    ·exact hI i h1 h2 Q0
   ·rw [cmpVs_hit hlt hlt' (fun i h1 h2 h3=>hI i h1 h2 h3) h0]
  ·rw [cmpVs_zero hl fun i h1 h2=>hI i h1 h2 Q0]
   exact ⟨fun c=>absurd c Q0,fun _=>rfl⟩
 ·rw [hc]
  split
  ·rfl
  ·split
   ·rfl
   ·split
    ·rfl
    ·rename_i h1 h2 h3
     rw [if_neg h1,if_neg h2] at h
     exact absurd h h3
theorem rvalidT_is {p : ProgT} (hp : p.defs.length<=1000000000000) : ∀ (n : Nat) (t : Ty) (d : Int),d+n = 25->1<=d->IS s63 [pgL p,t.enc,[vI d]] [[vB (validTF p n t)]]
 | 0,t,d,h,_=>by
  refine w63.is ?_
  unfold g63
  simp only [pmr,pms]
  exact ⟨fun _=>rfl,fun c=>absurd Q0 c⟩
 | n+1,t,d,h,h1=>by
  have hid : ∀ i : IdT,(i.shop = 0/\i.seq = 0/\i.index = 0)↔i = id0:=fun i=>by
   constructor
   ·rintro ⟨a,b,c⟩;exact IdT.ext' a b c
   ·rintro rfl;exact ⟨rfl,rfl,rfl⟩
  have bb : ∀ {q : Prop} [Decidable q],(q↔validTF p (n+1) t = true)->([[vB (decide q)]] : St') = [[vB (validTF p (n+1) t)]]:=fun {q _} h=>by
   cases hb : validTF p (n+1) t with
   | true=>rw [decide_eq_true (h.2 hb)]
   | false=>rw [decide_eq_false (fun c=>by rw [h.1 c] at hb;cases hb)]
  have bf : ¬ validTF p (n+1) t = true->([[vB false]] : St') = [[vB (validTF p (n+1) t)]]:=fun h=>by
   cases hb : validTF p (n+1) t with
   | true=>exact absurd hb h
   | false=>rfl
  have bt : validTF p (n+1) t = true->([[vB true]] : St') = [[vB (validTF p (n+1) t)]]:=fun h=>by rw [h]
  refine w63.is ?_
  unfold g63
  simp only [pmr,pms]
  refine ⟨fun c=>absurd c Q0,fun _=>⟨fun k2=>⟨fun z=>⟨fun o=>⟨Q0,Q4,?_⟩,fun o=>bf ?_⟩,fun z=>bf ?_⟩,fun k2=>⟨fun o=>bf ?_,fun o=>⟨fun k3=>?_,fun k3=>⟨fun z=>⟨fun k0=>bt ?_,fun k0=>bb ?_⟩,fun z=>bf ?_⟩⟩⟩⟩⟩
  ·rw [el_Ty t.kids (k:=0) Q0]
   refine caK_of (rvalidT_is hp n _ (d+1) Q0 Q0) ?_
   simp only [pmr]
   rw [Bool.eq_iff_iff.2 (validTF_kid k2 ((hid _).1 z) Q0)]
  ·exact fun c=>o (by have:=(validTF_kids k2 c).2;omega)
  ·exact fun c=>z ((hid _).2 (validTF_kids k2 c).1)
  ·by_cases k3 : t.kind = 3
   ·rw [validTF_def k3];omega
   ·rw [validTF_one k2 k3];omega
  ·have hv:=validTF_def (p:=p) (n:=n) k3
   refine caK_of (rDef_is p t.df hp) ?_
   simp only [pmr,pms]
   refine ⟨fun hd=>⟨fun k0=>bt ?_,fun k0=>bb ?_⟩,fun hd=>bf ?_⟩
   ·rw [hv];exact ⟨⟨hd,.inl k0⟩,Q0⟩
   ·rw [hv];exact ⟨fun c=>⟨⟨hd,.inr c⟩,Q0⟩,fun c=>c.1.2.elim (fun e=>absurd e k0) id⟩
   ·rw [hv];exact fun c=>hd c.1.1
  ·rw [validTF_one k2 k3];exact ⟨Q0,(hid _).1 z,.inl k0⟩
  ·rw [validTF_one k2 k3];exact ⟨fun c=>⟨Q0,(hid _).1 z,.inr c⟩,fun c=>c.2.2.elim (fun e=>absurd e k0) id⟩
  ·rw [validTF_one k2 k3];exact fun c=>z ((hid _).2 c.2.1)
theorem rvalidType_is {p : ProgT} (hp : p.defs.length<=1000000000000) (t : Ty) : IS s56 [pgL p,t.enc] [[vB (decide (validT p t))]]:=by
 refine w56.is ?_
 unfold g56
 simp only [pmr]
 refine caK_of (rvalidT_is hp 24 t 1 Q1 Q1) ?_
 simp only [pmr]
 exact boolD Iff.rfl
open Go Xe Pm
theorem pick_is {n : Int} {k : Nat} (hn : InI n) (hk : k<=1000) : IS s16 [[vI n],[vI (k : Int)]] [(pickTy n k).enc]:=by
 refine w16.is ?_
 unfold g16
 simp only [pmr]
 have hr:=around_lt n (4+2 * (k : Int)) Q0
 refine ⟨Q4,Q4,caK_of (around_is Q0 hn) ?_⟩
 simp only [pmr]
 unfold pickTy
 generalize around n (4+2 * (k : Int)) = z at hr ⊢
 refine ⟨fun h1=>?_,fun h1=>⟨fun h2=>?_,fun h2=>⟨fun h3=>?_,fun h3=>?_⟩⟩⟩
 ·rw [if_pos h1,ty1_enc]
 ·rw [if_neg h1,if_pos h2]
  refine caK_of (by have:=List_is ty0;rw [ty0_enc] at this;exact this) ?_
  simp only [pmr]
  rw [lt0_enc]
 ·rw [if_neg h1,if_neg h2,if_pos h3]
  have hd : (z - 4).tdiv 2 = (z - 4) / 2:=tdiv_pos Q0
  rw [hd]
  refine ⟨Q4,⟨Q1,Q4⟩,Q4,caK_of (ID_is Q0 (by unfold InI;omega)) ?_⟩
  simp only [pmr]
  refine caK_of (Of_is _) ?_
  have h64:=tdiv_InI hn 64 Q1
  simp only [pmr]
  refine ⟨⟨Q1,h64⟩,caK_of (around_is Q1 h64) ?_⟩
  simp only [pmr]
  refine ⟨fun h5=>?_,fun h5=>?_⟩
  ·rw [if_pos h5]
   refine caK_of (List_is _) ?_
   simp only [pmr]
   rw [Ty.enc_eq (listT _)]
   simp [listT,Ty.kind,Ty.df,Ty.kids,id0]
  ·rw [if_neg h5]
 ·rw [if_neg h1,if_neg h2,if_neg h3,ty0_enc]
theorem nm3_el {j : Nat} (h : j < 3) : cell (el ([vS (ByteArray.mk #[120]),vS (ByteArray.mk #[121]),vS (ByteArray.mk #[122])]) 1 j) 0 = vS (nm3 j):=by
 rcases j with _ | _ | _ | j <;> first | rfl | omega
theorem nm4_el {j : Nat} (h : j < 4) : cell (el ([vS (ByteArray.mk #[80,111,105,110,116]),vS (ByteArray.mk #[83,104,97,112,101]),vS (ByteArray.mk #[83,116,97,116,101]),vS (ByteArray.mk #[69,118,101,110,116])]) 1 j) 0 = vS (nm4 j):=by
 rcases j with _ | _ | _ | _ | j <;> first | rfl | omega
theorem tDef_enc (l : List Int) (i : Nat) : (tDef l i).enc = [vI (idK (1+(i : Int))).shop,vI (idK (1+(i : Int))).seq,vI (idK (1+(i : Int))).index,vI ((tBits l i).tmod 2),vI (idK 0).shop,vI (idK 0).seq,vI (idK 0).index,vS (nm4 i),
  .sl (tArity l i) 11 ((tSlots l i (tArity l i)).flatMap SlotT.enc),vI 0,vI 0,vI 0,vI 0,.sl 0 5 [],vI 0,vI 0,vI 0,vI 0,vI 0,vI 0,vI 0,vI 0,vI 0,vI 0,vI 0,vI 0,.sl 0 5 [],.sl 0 15 [],.sl 0 1 [],vI 0,.sl 0 1 []]:=by
 unfold tDef DefT.enc
 simp only [tSlots_len]
 rfl
def tHead (l : List Int) (i : Nat) : List D:=[vI (idK (1+(i : Int))).shop,vI (idK (1+(i : Int))).seq,vI (idK (1+(i : Int))).index,vI ((tBits l i).tmod 2),vI (idK 0).shop,vI (idK 0).seq,vI (idK 0).index,vS (nm4 i),
  vI 0,vI 0,vI 0,vI 0,.sl 0 5 [],vI 0,vI 0,vI 0,vI 0,vI 0,vI 0,vI 0,vI 0,vI 0,vI 0,vI 0,vI 0,.sl 0 5 [],.sl 0 15 [],.sl 0 1 [],vI 0,.sl 0 1 []]
theorem types_is {l : List Int} (hl : ∀ x∈l,InI x) : IS s4 [[dints l]] [pgL (typesP l)]:=by
 refine w4.is ?_
 unfold g4
 simp only [pmr]
 refine caK_of (ID_is Q1 (by unfold InI;decide)) ?_
 simp only [pmr]
 refine caK_of (At_is Q1 hl) ?_
 simp only [pmr]
 have hm:=tMany_rng l
 have hmc:=tMany_cast l
 rw [<-hmc]
 refine ⟨Q4,Q4,?_⟩
 refine Lp_to (tMany l) (fun i=>[[dints l],[vI (tMany l : Int)],[vI (tNext l i)],[vI (i : Int)],[.sl 0 6 [],.sl 0 31 []],[vI (idK 0).shop,vI (idK 0).seq,vI (idK 0).index,vS sCore,.sl 0 3 []],[.sl i 31 ((tDefs l i).flatMap DefT.enc)],[.sl i 3 ((tIds i).flatMap IdT.enc)]]) (fun _=>True) trivial rfl fun i next hi _ hn=>?_
 simp only [pmr]
 refine ⟨fun h=>?_,fun h=>?_⟩
 ·have hlt : i < tMany l:=Q0
  have hnx:=tNext_rng l i
  have har:=tArity_rng l i
  have hac:=tArity_cast l i
  have hbr:=tBits_rng l i
  have hbd : InI ((tBits l i).tdiv 2):=tdiv_InI (by unfold InI;omega) 2 Q1
  refine ⟨Q4,caK_of (At_is Q1 hl) ?_⟩
  simp only [pmr]
  refine ⟨Q4,caK_of (ID_is Q0 (by unfold InI;omega)) ⟨Q1,caK_of (ID_is Q1 (by unfold InI;decide)) ?_⟩⟩
  rw [show atL l (1+(i : Int)) 65536 = tBits l i from rfl,<-hac]
  rw [nm4_el Q0]
  simp only [pmr]
  refine ⟨Q0,⟨Q1,hbd⟩,Q1,Q4,?_⟩
  refine jn_to [[dints l],[vI (tMany l : Int)],[vI (tNext l (i+1))],[vI (i : Int)],[.sl 0 6 [],.sl 0 31 []],tHead l i,[vI (idK 0).shop,vI (idK 0).seq,vI (idK 0).index,vS sCore,.sl 0 3 []],[.sl i 31 ((tDefs l i).flatMap DefT.enc)],[.sl (tArity l i) 11 ((tSlots l i (tArity l i)).flatMap SlotT.enc)],[.sl i 3 ((tIds i).flatMap IdT.enc)]] ?_ ?_
  ·refine Lp_to (tArity l i) (fun j=>[[dints l],[vI (tMany l : Int)],[vI (tNext l i+j)],[vI (i : Int)],[vI (tArity l i : Int)],[vI (j : Int)],[.sl 0 6 [],.sl 0 31 []],tHead l i,[vI (idK 0).shop,vI (idK 0).seq,vI (idK 0).index,vS sCore,.sl 0 3 []],[.sl i 31 ((tDefs l i).flatMap DefT.enc)],[.sl j 11 ((tSlots l i j).flatMap SlotT.enc)],[.sl i 3 ((tIds i).flatMap IdT.enc)]]) (fun _=>True) trivial (by rw [show tNext l i+((0 : Nat) : Int) = tNext l i by simp];rfl) fun j next2 hj _ hn2=>?_
   simp only [pmr,tHead]
   refine ⟨fun h2=>?_,fun h2=>?_⟩
   ·have hlj : j < tArity l i:=Q0
    refine caK_of (ID_is Q0 (by unfold InI;omega)) ⟨Q0,Q4,Q4,Q4,caK_of (At_is Q1 hl) ?_⟩
    simp only [pmr]
    have hat:=atL_rng l (5+3 * (i : Int)+(j : Int)) 65536 Q1
    refine caK_of (pick_is (by unfold InI;omega) Q0) ?_
    rw [nm3_el Q0]
    refine ⟨Qa,Q4,Q4,?_⟩
    have:=hn2 hlj trivial
    rw [tSlots_succ,show tNext l i+((j+1 : Nat) : Int) = tNext l i+j+1 by omega] at this
    simp only [tHead] at this
    have he : (tSlot l i j).enc = (idK (tNext l i+j)).enc++(vS (nm3 j)::(pickTy (atL l (5+3 * (i : Int)+(j : Int)) 65536) i).enc++[vI 0,vI 0]):=by
     unfold tSlot SlotT.enc
     rw [Ty.enc_eq]
     rfl
    rw [he,Ty.enc_eq] at this
    rw [Ty.enc_eq]
    simp only [pmr]
    exact this
   ·obtain rfl : j = tArity l i:=Q0
    rfl
  ·simp only [pmr,tHead]
   refine ⟨Qa,Q1,Qa,Q1,Q4,?_⟩
   have:=hn hlt trivial
   rw [tDefs_succ,tIds_succ,tDef_enc] at this
   exact this
 ·obtain rfl : i = tMany l:=Q0
  have e1:=tIds_len (tMany l)
  have e2:=tDefs_len l (tMany l)
  unfold pgL typesP ModT.enc
  dsimp only
  rw [e2]
  simp only [List.flatMap_cons,List.flatMap_nil,e1]
  rfl
section
variable {p : ProgT}
def zrO (r : ZR) : St':=[[vI r.1.kind,vI r.1.n],[vI (256 - r.2.2)],[vI r.2.1],[vlD r.1.kids]]
theorem zero_is (hp : p.defs.length<=1000000) : ∀ (n : Nat) (t : Ty) (d l : Int),d+n = 25->1<=d->0<=l->l<=256->(∀ i,(theDef p i).slots.length<=1000000)->IS s44 [pgL p,t.enc,[vI d],[vI (256 - l)]] (zrO (zeroF p n t l)):=by
 intro n
 induction n with
 | zero =>
  intro t d l hd hd1 hl0 hl hsl
  refine w44.is ?_
  unfold g44
  simp only [pmr]
  refine caK_of (rvalidType_is Q0 t) ?_
  simp only [pmr,pms]
  refine ⟨fun hv=>⟨Q4,fun h=>?_,fun h=>⟨fun h2=>?_,fun h2=>absurd Q0 h2⟩⟩,fun hv=>?_⟩
  ·rw [zeroF_lim hv (.inr rfl)]
   unfold zrO
   rw [show (256 : Int) - (l - 1) = 256 - l+1 by omega]
   rfl
  ·rw [zeroF_lim hv (.inr rfl)]
   unfold zrO
   rw [show (256 : Int) - (l - 1) = 256 - l+1 by omega]
   rfl
  ·rw [zeroF_arg hv]
   rfl
 | succ n ih =>
  intro t d l hd hd1 hl0 hl hsl
  refine w44.is ?_
  unfold g44
  simp only [pmr]
  refine caK_of (rvalidType_is Q0 t) ?_
  simp only [pmr,pms]
  refine ⟨fun hv=>⟨Q4,fun h=>?_,fun h=>⟨fun h2=>absurd h2 Q0,fun _=>?_⟩⟩,fun hv=>?_⟩
  ·rw [zeroF_lim hv (.inl Q0)]
   unfold zrO
   rw [show (256 : Int) - (l - 1) = 256 - l+1 by omega]
   rfl
  ·have hl1 : ¬ l - 1 < 0:=Q0
   have e1 : (256 : Int) - l+1 = 256 - (l - 1):=Q0
   rw [zeroF,if_neg (by simp [hv]),if_neg hl1,e1]
   refine ⟨fun k0=>?_,fun k0=>⟨fun k1=>?_,fun k1=>⟨fun k2=>?_,fun k2=>?_⟩⟩⟩
   ·rw [if_pos k0];rfl
   ·rw [if_neg k0,if_pos k1];rfl
   ·rw [if_neg k0,if_neg k1,if_pos k2];rfl
   ·rw [if_neg k0,if_neg k1,if_neg k2]
    refine caK_of (rDef_is p t.df Q0) ?_
    simp only [pmr,pms]
    have hsl0:=hsl t.df
    generalize theDef p t.df = dd at hsl0 ⊢
    have loop : ∀ (m : Nat) (k : Int),m<=dd.slots.length->∀ K : St'->Prop,K (zrO (zNode k (zeroL (zeroF p n) ((dd.slots.take m).map SlotT.ty) (l - 1)))) ->
     Lp (fun next20 st21=>intK (cell (ent st21 0) 0) fun z22=>intK (cell (ent st21 1) 0) fun z23=>intK (cell (ent st21 2) 0) fun z24=>intK (cell (ent st21 3) 0) fun z25=>slcK 3 (cell (ent st21 8) 0) fun n26 c27=>ifK (decide (z25 < z24)) (slcK 11 (cell (ent st21 6) 8) fun n28 c29=>ckK (0<=z25/\z25 < (n28 : Int)) (ckK (okI (z22+1)) (caK (Pm.Is Tryd.prog) s44 [ent st21 4,sub (el c29 11 (Int.toNat z25)) 4 5,[vI (z22+1)],[vI z23]] fun r30=>intK (cell (ent r30 1) 0) fun z31=>intK (cell (ent r30 2) 0) fun z32=>slcK 3 (cell (ent r30 3) 0) fun n33 c34=>ifK (!(decide (z32 = (0 : Int)))) (K [[vI 0,vI 0],[vI z31],[vI z32],[.sl 0 3 []]]) (ckK (room (n26+1) 41) (ckK (okI (z25+1)) (next20 [[vI z22],[vI z31],[vI z24],[vI (z25+1)],ent st21 4,ent st21 5,ent st21 6,[cell (ent st21 7) 0,cell (ent st21 7) 1],[.sl (n26+1) 3 (c27++[cell (ent r30 0) 0,cell (ent r30 0) 1,.sl n33 3 c34])]])))))) (K [[cell (ent st21 7) 0,cell (ent st21 7) 1],[vI z23],[vI 0],[.sl n26 3 c27]]))
      [[vI d],[vI (256 - (l - 1))],[vI (m : Int)],[vI 0],pgL p,[vI 0,vI 0,.sl 0 3 []],dd.enc,[vI k,vI 0],[.sl 0 3 []]]:=by
     intro m k hm K hK
     generalize hts : (dd.slots.take m).map SlotT.ty = ts at hK
     have htl : ts.length = m:=by rw [<-hts];simp;omega
     have htg : ∀ j (h : j < ts.length) (h2 : j < dd.slots.length),ts[j] = dd.slots[j].ty:=fun j h h2=>by subst hts;simp
     refine Lp_on (σ:=Nat×List Val×Int) (fun x=>[[vI d],[vI (256 - x.2.2)],[vI (m : Int)],[vI (x.1 : Int)],pgL p,[vI 0,vI 0,.sl 0 3 []],dd.enc,[vI k,vI 0],[vlD x.2.1]]) (fun x=>m - x.1)
      (fun x=>x.1<=m/\x.2.1.length = x.1/\0<=x.2.2/\x.2.2<=l - 1/\zeroL (zeroF p n) ts (l - 1) = zJoin x.2.1 (zeroL (zeroF p n) (ts.drop x.1) x.2.2)) (0,[],l - 1) ⟨Nat.zero_le _,rfl,by show 0<=l - 1;omega,Int.le_refl _,by rw [List.drop_zero];exact zJoin_nil _ _ _⟩ rfl ?_
     rintro ⟨j,dn,q⟩ next ⟨h1,h2,h3,h4,h5⟩ hn
     dsimp only at h1 h2 h3 h4 h5 hn
     unfold vlD at hn ⊢
     simp only [pmr,pms]
     refine ⟨fun hj=>?_,fun hj=>?_⟩
     ·have hlt : j < dd.slots.length:=Q0
      have hlt2 : j < ts.length:=Q0
      rw [el_Sl _ hlt]
      simp only [pms]
      have hty:=htg j hlt2 hlt
      refine ⟨Q0,Q4,caK_of (ih dd.slots[j].ty (d+1) q Q0 Q0 h3 Q0 hsl) ?_⟩
      unfold zrO vlD
      simp only [pmr,pms]
      rw [<-hty]
      refine ⟨fun he=>?_,fun he=>?_⟩
      ·have hst:=zJoin_step hlt2 h5 (by simp [he])
       have hlf:=zeroF_left p n ts[j] q he
       refine ⟨Qa,Q4,?_⟩
       have:=hn (j+1,dn++[(zeroF p n ts[j] q).1],(zeroF p n ts[j] q).2.2) (by show m - (j+1) < m - j;omega) ⟨by show j+1<=m;omega,by simp [h2],hlf.1,by show (zeroF p n ts[j] q).2.2<=l - 1;omega,hst⟩
       have e:=vl_snoc dn (zeroF p n ts[j] q).1
       unfold vlD at e
       dsimp only at this
       rw [<-e] at this
       exact this
      ·have hst:=zJoin_err hlt2 h5 he
       rw [hst] at hK
       unfold zNode at hK
       rw [if_pos he] at hK
       exact hK
     ·obtain rfl : j = m:=Q0
      rw [zJoin_end Q0 h5] at hK
      unfold zNode at hK
      rw [if_neg Q2] at hK
      exact hK
    refine ⟨fun s=>∃ (m : Nat) (k : Int),s = [[vI d],[vI (256 - (l - 1))],[vI (m : Int)],pgL p,[vI 0,vI 0,.sl 0 3 []],dd.enc,[vI k,vI 0],[.sl 0 3 []]]/\m<=dd.slots.length/\zNode k (zeroL (zeroF p n) ((dd.slots.take m).map SlotT.ty) (l - 1)) = if dd.kind = 1 then (if dd.slots.length = 0 then (v0,1,l - 1) else zNode 3 (zeroL (zeroF p n) ((dd.slots.take 1).map SlotT.ty) (l - 1))) else zNode 2 (zeroL (zeroF p n) (dd.slots.map SlotT.ty) (l - 1)),?_,?_⟩
    ·refine ⟨fun kc=>⟨fun k5=>?_,fun k5=>?_⟩,fun kc=>?_⟩
     ·rw [if_pos kc,if_pos Q0]
      rfl
     ·refine ⟨1,3,rfl,Q0,?_⟩
      rw [if_pos kc,if_neg Q0]
     ·refine ⟨dd.slots.length,2,rfl,Nat.le_refl _,?_⟩
      rw [if_neg kc,List.take_length]
    ·rintro s ⟨m,k,rfl,hm,e⟩
     have:=loop m k hm (fun st=>st = zrO (if dd.kind = 1 then (if dd.slots.length = 0 then (v0,1,l - 1) else zNode 3 (zeroL (zeroF p n) ((dd.slots.take 1).map SlotT.ty) (l - 1))) else zNode 2 (zeroL (zeroF p n) (dd.slots.map SlotT.ty) (l - 1)))) (by rw [e])
     simp only [pmr,pms] at this ⊢
     exact this
  ·rw [zeroF_arg hv]
   rfl
theorem rzero_is (hp : p.defs.length<=1000000) (hsl : ∀ i,(theDef p i).slots.length<=1000000) (t : Ty) : IS s20 [pgL p,t.enc] [[vI (rzV p t).kind,vI (rzV p t).n],[vI (zeroV p t).2.1],[vlD (rzV p t).kids]]:=by
 refine w20.is ?_
 unfold g20
 simp only [pmr]
 have h:=zero_is hp 24 t 1 256 Q1 Q1 Q1 Q1 hsl
 refine caK_of h ?_
 unfold zrO vlD rzV zeroV
 simp only [pmr,pms]
 refine ⟨fun he=>?_,fun he=>?_⟩
 ·rw [if_neg (by simp [he]),he]
 ·rw [if_pos he]
  rfl
theorem value_is {l : List Int} (hp : p.defs.length<=1000000) (hsl : ∀ i,(theDef p i).slots.length<=1000000) (hl : ∀ x∈l,InI x) {n : Nat} {t : Ty} (h : wfT p n t) (hn : n<=18) : IS s6 [pgL p,t.enc,[dints l]] [[vI (valV p n t l).kind,vI (valV p n t l).n],[vlD (valV p n t l).kids]]:=by
 refine w6.is ?_
 unfold g6
 simp only [pmr]
 have hpw : (4 : Int) ^ n<=4 ^ 18:=by
  have:=Nat.pow_le_pow_right (n:=4) Q1 hn
  have h2 : ((4 ^ n : Nat) : Int)<=((4 ^ 18 : Nat) : Int):=Int.ofNat_le.2 this
  simpa using h2
 have h68 : (4 : Int) ^ 18 = 68719476736:=Q1
 have h1:=mkF_size (l:=l) n t 0 1 h
 have h2:=mkF_pos (l:=l) n t 0 1 h
 have h3:=Val.depth_le (mkF p l n t 0 1).1
 refine caK_of (make_is hp hl n t 0 1 h Q1 Q0 Q1 Q0) ?_
 unfold mkO
 have e:=v_cells (mkF p l n t 0 1).1
 unfold vlD at e ⊢
 simp only [pmr]
 rw [e]
 refine caK_of (rsize_is _ Q0) ?_
 have hz:=rzero_is hp hsl t
 unfold valV
 unfold vlD at hz
 simp only [pmr]
 refine ⟨fun c=>?_,fun c=>caK_of (rdepth_is _ Q0) ?_⟩
 ·refine caK_of hz ?_
  simp only [pmr]
  rw [if_pos (.inl Q0)]
 ·simp only [pmr]
  refine ⟨fun c2=>?_,fun c2=>?_⟩
  ·refine caK_of hz ?_
   simp only [pmr]
   rw [if_pos (.inr Q0)]
  ·rw [if_neg Q0]
end
theorem few_is {b : List D} {n : Int} (hn : 0<=n) (hn2 : n<=1000000) : IS s9 [[.sl b.length 1 b],[vI n]] [[.sl (min b.length n.toNat) 1 (b.take n.toNat)]]:=by
 refine w9.is ?_
 unfold g9
 simp only [pmr]
 have e : Int.toNat (min (b.length : Int) n) = min b.length n.toNat:=Q0
 rw [e]
 refine ⟨Q0,Qa,?_⟩
 unfold sub
 simp only [Int.toNat_zero,Nat.zero_mul,Nat.sub_zero,Nat.mul_one,List.drop_zero,Nat.zero_add]
 rw [List.take_eq_take_min,show min (min b.length n.toNat) b.length = min n.toNat b.length by omega,<-List.take_eq_take_min]
def uL (k : IntKind) (zs : List Int) : List D:=zs.map fun z=>.v (.int k z)
def Un (k : IntKind) (n : Nat) (ds : List D) : Prop:=∃ zs : List Int,zs.length = n/\ds = uL k zs
theorem pmk : (∀ (k : IntKind) (z : Int) (K : Int->Prop),ikK k (.v (.int k z)) K = K z)/\(∀ (zs : List Int) (k : IntKind) (K : List Int->Prop),byK k (uL k zs) K = K zs)/\(∀ (k : IntKind) (z : Int) (K : List Int->Prop),byK k [.v (.int k z)] K = K [z]):=by
 have key : ∀ (zs : List Int) (k : IntKind),intsOf k (uL k zs) = some zs:=fun zs k=>by
  induction zs with
  | nil=>rfl
  | cons z zs ih =>
   unfold uL at ih ⊢
   rw [List.map_cons]
   unfold intsOf
   rw [ih]
   cases decEq k k with
   | isTrue _=>rfl
   | isFalse h=>exact absurd rfl h
 refine ⟨fun k z K=>by simp [ikK],fun zs k K=>by unfold byK;rw [key],fun k z K=>?_⟩
 have:=key [z] k
 unfold byK
 rw [show ([.v (.int k z)] : List D) = uL k [z] from rfl,this]
theorem Un.len {k : IntKind} {n : Nat} {ds : List D} (h : Un k n ds) : ds.length = n:=by
 obtain ⟨zs,h1,rfl⟩:=h
 simp [uL,h1]
theorem Un.cell {k : IntKind} {n : Nat} {ds : List D} (h : Un k n ds) {i : Nat} (hi : i < n) : ∃ z,Pm.cell ds i = .v (.int k z):=by
 obtain ⟨zs,h1,rfl⟩:=h
 refine ⟨zs[i]'Q0,?_⟩
 unfold Pm.cell uL
 rw [List.getD_eq_getElem?_getD,List.getElem?_map,List.getElem?_eq_getElem Q0]
 rfl
theorem Un.app {k : IntKind} {n m : Nat} {ds es : List D} (h : Un k n ds) (h' : Un k m es) : Un k (n+m) (ds++es):=by
 obtain ⟨zs,h1,rfl⟩:=h
 obtain ⟨ys,h2,rfl⟩:=h'
 exact ⟨zs++ys,by simp [h1,h2],by simp [uL]⟩
theorem Un.take {k : IntKind} {n m : Nat} {ds : List D} (h : Un k n ds) (hm : m<=n) : Un k m (ds.take m):=by
 obtain ⟨zs,h1,rfl⟩:=h
 exact ⟨zs.take m,by simp [h1];omega,by simp [uL]⟩
theorem Un.drop {k : IntKind} {n m : Nat} {ds : List D} (h : Un k n ds) : Un k (n - m) (ds.drop m):=by
 obtain ⟨zs,h1,rfl⟩:=h
 exact ⟨zs.drop m,by simp [h1],by simp [uL]⟩
theorem Un.sub {k : IntKind} {n o m : Nat} {ds : List D} (h : Un k n ds) (hm : o+m<=n) : Un k m (Pm.sub ds o m):=(h.drop (m:=o)).take Q0
theorem Un.upd {k : IntKind} {n m o : Nat} {ds vs : List D} (h : Un k n ds) (hv : Un k m vs) (hm : o+m<=n) : Un k n (Pm.upd ds o vs):=by
 unfold Pm.upd
 have:=((h.take (m:=o) Q0).app hv).app (h.drop (m:=o+vs.length))
 rw [hv.len] at *
 rwa [show o+m+(n - (o+m)) = n by omega] at this
theorem Un.one {k : IntKind} (z : Int) : Un k 1 [.v (.int k z)]:=⟨[z],rfl,rfl⟩
theorem Un.rep {k : IntKind} (n : Nat) (z : Int) : Un k n (List.replicate n (.v (.int k z))):=⟨List.replicate n z,Q2,by simp [uL]⟩
theorem wrap_nn {k : IntKind} (h : k.signed = false) (z : Int) : 0<=k.wrap z:=by
 unfold IntKind.wrap
 simp only [h,Bool.false_and,if_neg Bool.false_ne_true]
 exact Int.emod_nonneg _ (by have : (0 : Int) < 2 ^ k.bits:=Int.pow_pos Q1;omega)
theorem bits_nn {k : IntKind} (h : k.signed = false) (op : BinOp) (a b : Int) : 0<=bits op k a b:=by
 unfold bits
 exact wrap_nn h _
theorem rot_is {z k : Int} (hk : -64<=k/\k<=64) : ∃ r,(∃ u,r = [[.v (.int .u32 u)]])/\IS s64 [[.v (.int .u32 z)],[vI k]] r:=by
 refine w64.some ?_ fun r hr=>by obtain ⟨u,rfl⟩:=hr;trivial
 unfold g64
 simp only [pmr,pmk]
 exact ⟨bits_nn rfl _ _ _,wrap_nn rfl _,_,rfl⟩
theorem ca_some {s : Sig} {a : St'} {k K : St'->Prop} (h : ∃ r,K r/\IS s a r) (hk : ∀ r,K r->k r) : caK IS s a k:=by
 obtain ⟨r,h1,h2⟩:=h
 exact ⟨r,h2,hk r h1⟩
theorem mix_is {z a b c : Int} (ha : 0<=a/\a<=32) (hb : 0<=b/\b<=32) (hc : 0<=c/\c<=32) : ∃ r,(∃ u,r = [[.v (.int .u32 u)]])/\IS s58 [[.v (.int .u32 z)],[vI a],[vI b],[vI c]] r:=by
 refine w58.some ?_ fun r hr=>by obtain ⟨u,rfl⟩:=hr;trivial
 unfold g58
 simp only [pmr,pmk]
 unfold okI
 refine ⟨Q0,ca_some (rot_is Q0) ?_⟩
 rintro r ⟨u,rfl⟩
 refine ⟨Q0,ca_some (rot_is Q0) ?_⟩
 rintro r ⟨u',rfl⟩
 simp only [pmr,pmk]
 refine ⟨Q0,ca_some (rot_is Q0) ?_⟩
 rintro r ⟨u'',rfl⟩
 simp only [pmr,pmk]
 exact ⟨_,rfl⟩
theorem Un.el {k : IntKind} {n : Nat} {ds : List D} (h : Un k n ds) {i : Nat} (hi : i < n) : ∃ z,Pm.el ds 1 i = [.v (.int k z)]:=by
 obtain ⟨zs,h1,rfl⟩:=h
 refine ⟨zs[i]'Q0,?_⟩
 unfold Pm.el uL
 rw [Nat.mul_one,List.drop_eq_getElem_cons Qc,List.take_succ_cons,List.take_zero]
 simp
theorem sched_is {bs : List D} (hb : Un .u8 64 bs) : ∃ r,(∃ ds,Un .u32 64 ds/\r = [ds])/\IS s57 [[.sl 64 1 bs]] r:=by
 refine w57.some ?_ fun r hr=>by obtain ⟨ds,_,rfl⟩:=hr;trivial
 unfold g57
 simp only [pmr,pmk]
 generalize hR : List.replicate 64 (vK .u32 0) = R
 have hR64 : Un .u32 64 R:=hR ▸ Un.rep 64 0
 refine Lp_on (σ:=Nat×List D) (fun x=>[[.sl 64 1 bs],[vI (x.1 : Int)],R,x.2]) (fun x=>64 - x.1) (fun x=>x.1<=64/\Un .u32 64 x.2) (0,R) ⟨Nat.zero_le _,hR64⟩ rfl ?_
 rintro ⟨j,w⟩ next ⟨hj,hw⟩ hn
 dsimp only at hj hw hn ⊢
 simp only [pmr]
 refine ⟨fun h1=>⟨fun h2=>?_,fun h2=>?_⟩,fun h1=>⟨w,hw,rfl⟩⟩
 ·unfold okI
  refine ⟨Q0,Q0,Q0,Q0,?_⟩
  have e1 : Int.toNat (4 * (j : Int)+4) - Int.toNat (4 * (j : Int)) = 4:=Q0
  have e2 : Int.toNat (4 * (j : Int)) * 1 = 4 * j:=Q0
  rw [e1,e2]
  have hc : Un .u8 4 (Pm.sub bs (4 * j) (4 * 1)):=hb.sub Q0
  generalize Pm.sub bs (4 * j) (4 * 1) = cs at hc ⊢
  refine Lp_on (σ:=Nat×List D) (fun x=>[[.sl 64 1 bs],[vI (j : Int)],[vI (j : Int)],[.sl 4 1 cs],[vI ((4 : Nat) : Int)],[vI (x.1 : Int)],R,x.2]) (fun x=>4 - x.1) (fun x=>x.1<=4/\Un .u32 64 x.2) (0,w) ⟨Nat.zero_le _,hw⟩ rfl ?_
  rintro ⟨i,v⟩ next2 ⟨hi,hv⟩ hn2
  dsimp only at hi hv hn2 ⊢
  simp only [pmr]
  refine ⟨fun h3=>?_,fun h3=>?_⟩
  ·have hlt : i < 4:=Q0
   obtain ⟨z,ez⟩:=hv.cell (i:=0+j * 1) Q0
   obtain ⟨y,ey⟩:=hc.el hlt
   rw [ez,ey]
   simp only [pmr,pmk]
   exact ⟨Q0,Q0,Q0,Q0,Q0,Q0,Q0,hn2 (i+1,_) (by show 4 - (i+1) < 4 - i;omega) ⟨hlt,hv.upd (Un.one _) Q0⟩⟩
  ·exact ⟨Q0,hn (j+1,v) (by show 64 - (j+1) < 64 - j;omega) ⟨by show j+1<=64;omega,hv⟩⟩
 ·unfold okI
  have e15 : Int.toNat ((j : Int) - 15) = j - 15:=Q0
  have e2 : Int.toNat ((j : Int) - 2) = j - 2:=Q0
  have e16 : Int.toNat ((j : Int) - 16) = j - 16:=Q0
  have e7 : Int.toNat ((j : Int) - 7) = j - 7:=Q0
  rw [e15,e2,e16,e7]
  obtain ⟨z1,ez1⟩:=hw.cell (i:=0+(j - 15) * 1) Q0
  obtain ⟨z2,ez2⟩:=hw.cell (i:=0+(j - 2) * 1) Q0
  obtain ⟨z3,ez3⟩:=hw.cell (i:=0+(j - 16) * 1) Q0
  obtain ⟨z4,ez4⟩:=hw.cell (i:=0+(j - 7) * 1) Q0
  rw [ez1,ez2,ez3,ez4]
  refine ⟨Q0,Q0,Q0,Q0,Q0,Q0,ca_some (rot_is Q0) ?_⟩
  rintro r ⟨u1,rfl⟩
  refine ca_some (rot_is Q0) ?_
  rintro r ⟨u2,rfl⟩
  simp only [pmr,pmk]
  refine ⟨Q0,ca_some (rot_is Q0) ?_⟩
  rintro r ⟨u3,rfl⟩
  refine ca_some (rot_is Q0) ?_
  rintro r ⟨u4,rfl⟩
  simp only [pmr,pmk]
  exact ⟨Q0,Q0,Q0,Q0,Q0,Q0,Q0,Q0,Q0,Q0,hn (j+1,_) (by show 64 - (j+1) < 64 - j;omega) ⟨by show j+1<=64;omega,hw.upd (Un.one _) Q0⟩⟩
theorem sha_un : Un .u32 64 shaD:=⟨shaK,rfl,rfl⟩
theorem comp_is {st bs : List D} (hs : Un .u32 8 st) (hb : Un .u8 64 bs) : ∃ r,(∃ ds,Un .u32 8 ds/\r = [ds])/\IS s47 [st,[.sl 64 1 bs]] r:=by
 refine w47.some ?_ fun r hr=>by obtain ⟨ds,_,rfl⟩:=hr;trivial
 unfold g47
 simp only [pmr]
 refine ca_some (sched_is hb) ?_
 rintro r ⟨ws,hws,rfl⟩
 simp only [pmr]
 generalize hZ : ([vK .u32 0,vK .u32 0,vK .u32 0,vK .u32 0,vK .u32 0,vK .u32 0,vK .u32 0,vK .u32 0] : List D) = Z
 refine ⟨Q1,Nat.le_refl _,Q1,Nat.le_refl _,?_⟩
 have h04 : Un .u32 4 (Pm.sub st 0 4):=hs.sub Q0
 have h44 : Un .u32 4 (Pm.sub st 4 4):=hs.sub Q0
 generalize Pm.sub st 0 4 = v0 at h04 ⊢
 generalize Pm.sub st 4 4 = e0 at h44 ⊢
 refine ⟨fun s=>∃ v e,Un .u32 4 v/\Un .u32 4 e/\s = [st,Z,v,e],?_,?_⟩
 ·refine Lp_on (σ:=Nat×List D×List D) (fun x=>[shaD,[vI (x.1 : Int)],st,Z,ws,x.2.1,x.2.2]) (fun x=>64 - x.1) (fun x=>x.1<=64/\Un .u32 4 x.2.1/\Un .u32 4 x.2.2) (0,v0,e0) ⟨Nat.zero_le _,h04,h44⟩ rfl ?_
  rintro ⟨j,v,e⟩ next ⟨hj,hv,he⟩ hn
  dsimp only at hj hv he hn ⊢
  simp only [pmr]
  refine ⟨fun h1=>?_,fun h1=>⟨v,e,hv,he,rfl⟩⟩
  have hlt : j < 64:=Q0
  obtain ⟨x0,hx0⟩:=he.cell (i:=0) Q0
  obtain ⟨x1,hx1⟩:=he.cell (i:=1) Q0
  obtain ⟨x2,hx2⟩:=he.cell (i:=2) Q0
  obtain ⟨x3,hx3⟩:=he.cell (i:=3) Q0
  obtain ⟨y0,hy0⟩:=hv.cell (i:=0) Q0
  obtain ⟨y1,hy1⟩:=hv.cell (i:=1) Q0
  obtain ⟨y2,hy2⟩:=hv.cell (i:=2) Q0
  obtain ⟨y3,hy3⟩:=hv.cell (i:=3) Q0
  obtain ⟨k0,hk0⟩:=sha_un.cell hlt
  obtain ⟨w0,hw0⟩:=hws.cell (i:=0+j * 1) Q0
  rw [hx0,hx1,hx2,hx3,hy0,hy1,hy2,hy3,hk0,hw0]
  refine ⟨Q0,Q1,Q1,Q1,Q1,ca_some (mix_is Q1 Q1 Q1) ?_⟩
  rintro r ⟨u1,rfl⟩
  simp only [pmr,pmk]
  refine ⟨Q1,Q1,Q1,Q1,Q1,Q1,Q1,Q1,Q0,Q0,Q1,Q1,ca_some (mix_is Q1 Q1 Q1) ?_⟩
  rintro r ⟨u2,rfl⟩
  simp only [pmr,pmk]
  unfold okI
  have fin : ∀ (a b : Int),next [shaD,[vI ((j : Int)+1)],st,Z,ws,[vK .u32 a,vK .u32 y0,vK .u32 y1,vK .u32 y2],[vK .u32 b,vK .u32 x0,vK .u32 x1,vK .u32 x2]]:=fun a b=>by
   have:=hn (j+1,[vK .u32 a,vK .u32 y0,vK .u32 y1,vK .u32 y2],[vK .u32 b,vK .u32 x0,vK .u32 x1,vK .u32 x2]) (by show 64 - (j+1) < 64 - j;omega) ⟨hlt,⟨[a,y0,y1,y2],rfl,rfl⟩,⟨[b,x0,x1,x2],rfl,rfl⟩⟩
   exact this
  repeat (first | exact fin _ _ | refine ⟨by first | decide | omega,?_⟩)
 ·rintro s ⟨v,e,hv,he,rfl⟩
  simp only [pmr]
  refine Lp_on (σ:=Nat×List D) (fun x=>[[vI (x.1 : Int)],x.2,Z,v,e]) (fun x=>4 - x.1) (fun x=>x.1<=4/\Un .u32 8 x.2) (0,st) ⟨Nat.zero_le _,hs⟩ rfl ?_
  rintro ⟨j,w⟩ next ⟨hj,hw⟩ hn
  dsimp only at hj hw hn ⊢
  simp only [pmr]
  refine ⟨fun h1=>?_,fun h1=>⟨w,hw,rfl⟩⟩
  have hlt : j < 4:=Q0
  obtain ⟨x0,hx0⟩:=hw.cell (i:=0+j * 1) Q0
  obtain ⟨y0,hy0⟩:=hv.cell (i:=0+j * 1) Q0
  obtain ⟨y1,hy1⟩:=he.cell (i:=0+j * 1) Q0
  have e4 : Int.toNat ((j : Int)+4) = j+4:=Q0
  rw [hx0,hy0,hy1,e4]
  simp only [pmr,pmk]
  have hup : ∀ z : Int,Un .u32 8 (upd w (0+j * 1) [vK .u32 z]):=fun z=>hw.upd (Un.one z) Q0
  obtain ⟨x4,hx4⟩:=(hup (IntKind.wrap .u32 (x0+y0))).cell (i:=0+(j+4) * 1) Q0
  rw [hx4]
  simp only [pmr,pmk]
  unfold okI
  exact ⟨Q0,Q0,Q0,Q0,Q0,Q0,Q0,Q0,Q0,Q0,Q0,Q0,Q0,Q0,hn (j+1,_) (by show 4 - (j+1) < 4 - j;omega) ⟨hlt,(hup _).upd (Un.one _) Q0⟩⟩
def Strm (n : Nat) (ds : List D) : Prop:=∃ a b,Un .u32 8 a/\Un .u8 64 b/\ds = a++(b++[.v (.int .u64 (n : Int))])
theorem upd_app {a l vs : List D} {o m : Nat} (h : a.length = m) : Pm.upd (a++l) (m+o) vs = a++Pm.upd l o vs:=by
 subst h
 unfold Pm.upd
 rw [List.take_append,List.drop_append,List.take_of_length_le Q0,List.drop_eq_nil_of_le Q0,show a.length+o - a.length = o by omega,show a.length+o+vs.length - a.length = o+vs.length by omega]
 simp
theorem upd_in {b c vs : List D} {o : Nat} (h : o+vs.length<=b.length) : Pm.upd (b++c) o vs = Pm.upd b o vs++c:=by
 unfold Pm.upd
 rw [List.take_append_of_le_length Q0,List.drop_append_of_le_length h]
 simp
theorem upd_all {a vs : List D} (h : vs.length = a.length) : Pm.upd a 0 vs = vs:=by
 unfold Pm.upd
 simp [h]
theorem sub_head {a l : List D} {m : Nat} (h : a.length = m) : Pm.sub (a++l) 0 m = a:=by
 subst h
 unfold Pm.sub
 simp
theorem sub_mid {a b l : List D} {m n : Nat} (h : a.length = m) (h' : b.length = n) : Pm.sub (a++(b++l)) m n = b:=by
 subst h h'
 unfold Pm.sub
 simp
theorem cell_at {a l : List D} {m i : Nat} (h : a.length = m) : Pm.cell (a++l) (m+i) = Pm.cell l i:=by
 subst h
 unfold Pm.cell
 rw [List.getD_eq_getElem?_getD,List.getElem?_append_right Q0,List.getD_eq_getElem?_getD,show a.length+i - a.length = i by omega]
theorem Strm.n {n : Nat} {ds : List D} (h : Strm n ds) : Pm.cell ds 72 = .v (.int .u64 (n : Int)):=by
 obtain ⟨a,b,ha,hb,rfl⟩:=h
 rw [show 72 = 8+64 from rfl,cell_at ha.len,show 64 = 64+0 from rfl,cell_at hb.len]
 rfl
theorem Un.allV {k : IntKind} {n : Nat} {ds : List D} (h : Un k n ds) : Pm.allV ds = true:=by
 obtain ⟨zs,_,rfl⟩:=h
 have key : ∀ zs : List Int,Pm.allV (uL k zs) = true:=fun zs=>by
  induction zs with
  | nil=>rfl
  | cons z zs ih=>exact ih
 exact key zs
theorem byteD_un (s : ByteArray) : Un .u8 s.size (byteD s):=⟨s.data.toList.map fun b=>(b.toNat : Int),by rw [List.length_map,Array.length_toList];rfl,by unfold byteD uL;rw [List.map_map];rfl⟩
theorem size_zero {s : ByteArray} (h : s.size = 0) : s = ByteArray.mk #[]:=by
 obtain ⟨d⟩:=s
 have : d.size = 0:=h
 rw [Array.size_eq_zero_iff] at this
 rw [this]
theorem wrap_i64 {z : Int} (h : InI z) : IntKind.wrap .i64 z = z:=by
 unfold InI at h
 unfold IntKind.wrap
 simp only [IntKind.bits,IntKind.signed,Bool.true_and]
 split
 ·rename_i h2;simp at h2;omega
 ·rename_i h2;simp at h2;omega
theorem wrap_u64 {z : Int} (h : 0<=z/\z < 18446744073709551616) : IntKind.wrap .u64 z = z:=by
 unfold IntKind.wrap
 simp only [IntKind.bits,IntKind.signed,Bool.false_and,if_neg Bool.false_ne_true]
 omega
theorem add_is {n : Nat} {ds : List D} {s : ByteArray} (hs : Strm n ds) (hN : n+s.size<=1000000000000) : ∃ r,(∃ es,Strm (n+s.size) es/\r = [es])/\IS s29 [ds,[vS s]] r:=by
 refine w29.some ?_ fun r hr=>by obtain ⟨ds,_,rfl⟩:=hr;trivial
 unfold g29
 simp only [pmr]
 generalize hZ : List.replicate 8 (vK .u32 0)++(List.replicate 64 (vK .u8 0)++List.replicate 1 (vK .u64 0)) = Z
 generalize hT : n+s.size = N at hN ⊢
 refine Lp_on (σ:=ByteArray×List D×Nat) (fun x=>[[vS x.1],x.2.1,Z]) (fun x=>x.1.size) (fun x=>Strm x.2.2 x.2.1/\x.2.2+x.1.size = N) (s,ds,n) ⟨hs,hT⟩ rfl ?_
 rintro ⟨t,es,m⟩ next ⟨hm,hmN⟩ hn
 dsimp only at hm hmN hn ⊢
 simp only [pmr,pms]
 rw [hm.n]
 simp only [pmk]
 refine ⟨fun h0=>?_,fun h0=>?_⟩
 ·have : t.size = 0:=by rw [h0];rfl
  exact ⟨es,by rw [<-hmN,this,Nat.add_zero];exact hm,rfl⟩
 ·have ht : 0 < t.size:=by
   rcases Nat.eq_zero_or_pos t.size with h | h
   ·exact absurd (size_zero h) h0
   ·exact h
  have ew : IntKind.wrap .i64 (Int.tmod (m : Int) 64) = ((m % 64 : Nat) : Int):=by
   rw [tmod_pos Q0,wrap_i64 (by unfold InI;omega)]
   omega
  rw [ew]
  simp only [pmr]
  generalize hk : min t.size (64 - m % 64) = k
  have hk1 : 0 < k/\k<=t.size/\m % 64+k<=64:=Q0
  obtain ⟨a,b,ha,hb,rfl⟩:=hm
  have hbt : Un .u8 k (List.take k (byteD t)):=(byteD_un t).take hk1.2.1
  have e1 : upd (a++(b++[.v (.int .u64 (m : Int))])) (8+m % 64 * 1) (List.take k (byteD t)) = a++(upd b (m % 64) (List.take k (byteD t))++[.v (.int .u64 (m : Int))]):=by
   rw [Nat.mul_one,upd_app ha.len,upd_in (by rw [hbt.len,hb.len];omega)]
  have hb1 : Un .u8 64 (upd b (m % 64) (List.take k (byteD t))):=hb.upd hbt Q0
  rw [e1]
  generalize upd b (m % 64) (List.take k (byteD t)) = b1 at hb1 ⊢
  have hm1 : Strm m (a++(b1++[.v (.int .u64 (m : Int))])):=⟨a,b1,ha,hb1,rfl⟩
  rw [hm1.n]
  simp only [pmk]
  have ew2 : IntKind.wrap .u64 ((m : Int)+IntKind.wrap .u64 (k : Int)) = ((m+k : Nat) : Int):=by
   rw [wrap_u64 (z:=(k : Int)) Q0,wrap_u64 Q0]
   omega
  rw [ew2]
  have e2 : upd (a++(b1++[.v (.int .u64 (m : Int))])) 72 [vK .u64 ((m+k : Nat) : Int)] = a++(b1++[.v (.int .u64 ((m+k : Nat) : Int))]):=by
   rw [show 72 = 8+64 from rfl,upd_app ha.len,show 64 = 64+0 from rfl,upd_app hb1.len]
   rfl
  rw [e2,sub_head ha.len,sub_mid ha.len hb1.len]
  have hm2 : Strm (m+k) (a++(b1++[.v (.int .u64 ((m+k : Nat) : Int))])):=⟨a,b1,ha,hb1,rfl⟩
  have hsz : (t.extract k t.size).size = t.size - k:=by simp [ByteArray.size_extract]
  unfold okI
  refine ⟨Q1,Q0,Q0,Q0,Q0,fun _=>⟨Q1,ca_some (comp_is ha hb1) ?_⟩,fun _=>?_⟩
  ·rintro r ⟨a',ha',rfl⟩
   simp only [pmr]
   have e5 : upd (a++(b1++[.v (.int .u64 ((m+k : Nat) : Int))])) 0 a' = a'++(b1++[.v (.int .u64 ((m+k : Nat) : Int))]):=by rw [upd_in (by rw [ha'.len,ha.len];omega),upd_all (by rw [ha'.len,ha.len])]
   rw [e5]
   exact ⟨ha'.allV,hn (t.extract k t.size,_,m+k) (by show (t.extract k t.size).size < t.size;omega) ⟨⟨a',b1,ha',hb1,rfl⟩,by show m+k+(t.extract k t.size).size = N;omega⟩⟩
  ·exact hn (t.extract k t.size,_,m+k) (by show (t.extract k t.size).size < t.size;omega) ⟨hm2,by show m+k+(t.extract k t.size).size = N;omega⟩
theorem strB_size (l : List Int) : (strB l).size = l.length:=by
 show (List.map (fun z=>UInt8.ofNat z.toNat) l).toArray.size = _
 simp
theorem sum_is {n : Nat} {ds : List D} (hs : Strm n ds) (hN : n<=100000000000) : ∃ r,(∃ es,Un .u8 32 es/\r = [es])/\IS s30 [ds] r:=by
 refine w30.some ?_ fun r hr=>by obtain ⟨ds,_,rfl⟩:=hr;trivial
 unfold g30
 simp only [pmr,pmk]
 rw [hs.n]
 simp only [pmk]
 generalize IntKind.wrap .u64 (8 * (n : Int)) = bitn
 generalize hZ : ([vK .u8 0,vK .u8 0,vK .u8 0,vK .u8 0,vK .u8 0,vK .u8 0,vK .u8 0,vK .u8 0,vK .u8 0,vK .u8 0,vK .u8 0,vK .u8 0,vK .u8 0,vK .u8 0,vK .u8 0,vK .u8 0,vK .u8 0,vK .u8 0,vK .u8 0,vK .u8 0,vK .u8 0,vK .u8 0,vK .u8 0,vK .u8 0,vK .u8 0,vK .u8 0,vK .u8 0,vK .u8 0,vK .u8 0,vK .u8 0,vK .u8 0,vK .u8 0] : List D) = Z
 have hZ32 : Un .u8 32 Z:=hZ ▸ Un.rep 32 0
 refine Lp_on (σ:=Nat×List D) (fun x=>[[vK .u64 bitn],ds,Z,[.sl x.1 1 x.2]]) (fun x=>1000 - x.1) (fun x=>1<=x.1/\x.1<=64/\(∀ j : Nat,1<=j->j < x.1->(n+j) % 64 ≠ 56)/\Un .u8 x.1 x.2) (1,[vK .u8 128]) ⟨Nat.le_refl _,(by show 1<=64;decide),fun j h1 h2=>absurd h2 (by show ¬ j < 1;omega),Un.one _⟩ rfl ?_
 rintro ⟨l,ps⟩ next ⟨h1,h64,hno,hp⟩ hn
 dsimp only at h1 h64 hno hp hn ⊢
 simp only [pmr,pms]
 rw [hs.n]
 simp only [pmk]
 have ew : IntKind.wrap .i64 (n : Int) = (n : Int):=wrap_i64 (by unfold InI;omega)
 have em : Int.tmod ((n : Int)+(l : Int)) 64 = (((n+l) % 64 : Nat) : Int):=by
  rw [tmod_pos Q0]
  omega
 rw [ew,em]
 unfold okI
 refine ⟨Q0,Q1,fun h56=>?_,fun h56=>?_⟩
 ·refine Lp_on (σ:=Nat×List D) (fun x=>[[vK .u64 bitn],[vI (x.1 : Int)],ds,Z,[.sl (l+x.1) 1 x.2]]) (fun x=>8 - x.1) (fun x=>x.1<=8/\Un .u8 (l+x.1) x.2) (0,ps) ⟨Nat.zero_le _,hp⟩ rfl ?_
  rintro ⟨j,qs⟩ next2 ⟨hj,hq⟩ hn2
  dsimp only at hj hq hn2 ⊢
  simp only [pmr,pmk]
  refine ⟨fun h8=>?_,fun h8=>?_⟩
  ·refine ⟨Q0,Q0,Q0,Qa,Q0,?_⟩
   exact hn2 (j+1,_) (by show 8 - (j+1) < 8 - j;omega) ⟨by show j+1<=8;omega,hq.app (Un.one _)⟩
  ·obtain ⟨zs,hz,rfl⟩:=hq
   simp only [pmk]
   refine ca_some (add_is hs (by rw [strB_size];omega)) ?_
   rintro r ⟨es,hes,rfl⟩
   simp only [pmr]
   refine Lp_on (σ:=Nat×List D) (fun x=>[[vI (x.1 : Int)],es,Z,x.2]) (fun x=>32 - x.1) (fun x=>x.1<=32/\Un .u8 32 x.2) (0,Z) ⟨Nat.zero_le _,hZ32⟩ rfl ?_
   rintro ⟨i,os⟩ next3 ⟨hi,ho⟩ hn3
   dsimp only at hi ho hn3 ⊢
   simp only [pmr]
   refine ⟨fun h32=>?_,fun h32=>⟨os,ho,rfl⟩⟩
   have hd : Int.tdiv (i : Int) 4 = ((i / 4 : Nat) : Int):=by rw [tdiv_pos Q0];omega
   have hm : Int.tmod (i : Int) 4 = ((i % 4 : Nat) : Int):=by rw [tmod_pos Q0];omega
   rw [hd,hm]
   obtain ⟨a,b,ha,hb,rfl⟩:=hes
   obtain ⟨z,hz⟩:=ha.cell (i:=i / 4) Q0
   have hc : cell (a++(b++[.v (.int .u64 ((n+(strB zs).size : Nat) : Int))])) (0+i / 4 * 1) = .v (.int .u32 z):=by
    rw [<-hz]
    unfold Pm.cell
    rw [List.getD_eq_getElem?_getD,List.getElem?_append_left (by rw [ha.len];omega),List.getD_eq_getElem?_getD,Nat.zero_add,Nat.mul_one]
   simp only [pmr]
   rw [hc]
   simp only [pmk]
   exact ⟨Q0,Q0,Q0,Q1,Q0,Q0,Q0,Q0,Q0,Q0,hn3 (i+1,_) (by show 32 - (i+1) < 32 - i;omega) ⟨by show i+1<=32;omega,ho.upd (Un.one _) Q0⟩⟩
 ·have h56 : (n+l) % 64 ≠ 56:=fun c=>h56 (by rw [c];rfl)
  have hlt : l < 64:=by
   rcases Nat.lt_or_ge l 64 with h | h
   ·exact h
   ·exfalso
    have hl : l = 64:=Q0
    subst hl
    by_cases c : (n+64) % 64<=56
    ·rcases Nat.eq_or_lt_of_le c with c | c
     ·exact h56 c
     ·exact hno (56 - n % 64) Q0 Q0 Q0
    ·exact hno (120 - n % 64) Q0 Q0 Q0
  exact ⟨Qa,hn (l+1,_) (by show 1000 - (l+1) < 1000 - l;omega) ⟨by show 1<=l+1;omega,by show l+1<=64;omega,fun j hj hj2=>by
   by_cases e : j = l
   ·subst e;exact h56
   ·exact hno j hj (by have : j < l+1:=hj2;omega),hp.app (Un.one _)⟩⟩
open Xe
theorem int_ok (w0 : World) (M : Mem) (Γ : List As) (n : Int)   (hn : InI n) :
   CallOk Tryd.prog w0 M Γ 22 #[vint n] (Gives M Γ fun M' u=>Rd M' (dbytes (encI n)) u):=by
 have hml:=mag_lt hn
 refine enter (f:=22) Tryd.func22 rfl Tryd.ntmps22 rfl rfl fun w1 hw1=>?_
 refine CW.seq fun K1 hK1=>?_
 refine CW.region ?_
 refine RL.q (Y.assign rfl) rfl ?_
 refine RL.nil ?_
 refine hK1 _ _ _ ?_
 refine CW.kp [0] rfl ?_
 refine CW.scope ?_
 refine CW.seq fun K2 hK2=>?_
 refine CW.region ?_
 refine RL.q (Y.move rfl) rfl ?_
 refine RL.q (Y.convTo (r:=(((n % 18446744073709551616).toNat : Nat) : Int)) KR KR rfl (by rw [wrap_u64'];omega)) rfl ?_
 refine RL.q (Y.assign rfl) rfl ?_
 refine RL.q (v:=vbyte 0) (Y.assign rfl) rfl ?_
 refine RL.nil ?_
 refine hK2 _ _ _ ?_
 refine CW.kp [0,3,4] rfl ?_
 refine CW.seq fun K3 hK3=>?_
 refine CW.seq fun K4 hK4=>?_
 refine CW.region ?_
 refine RL.q (Y.move rfl) rfl ?_
 refine RL.q (Y.lss rfl rfl) rfl ?_
 refine RL.nil ?_
 refine hK4 _ _ _ ?_
 refine CW.kp [3,4,11] rfl ?_
 refine CW.ite rfl (fun h1=>?_) (fun h1=>?_)
 ·refine CW.region ?_
  refine RL.q (Y.move rfl) rfl ?_
  refine RL.q (Y.not64 rfl OM) rfl ?_
  refine RL.q (Y.assign rfl) rfl ?_
  refine RL.q (v:=vbyte 255) (Y.assign rfl) rfl ?_
  refine RL.nil ?_
  refine hK3 _ _ _ ?_
  refine CW.kp [3,4] rfl ?_
  refine CW.keep (L':=[(3,vword (mag n)),(4,vbyte (sgn n))]) (Keep.cons 3 (by rw [<-mag_ng hn h1];rfl) (Keep.cons 4 (by rw [show sgn n = 255 from if_pos h1];rfl) (Keep.nil _))) ?_
  refine CW.seq fun K5 hK5=>?_
  refine CW.region ?_
  refine RL.q (Y.assign rfl) rfl ?_
  refine RL.nil ?_
  refine hK5 _ _ _ ?_
  refine CW.kp [3,4,5] rfl ?_
  refine CW.seq fun K6 hK6=>?_
  refine CW.label ?_
  refine hK6 _ _ _ ?_
  refine CW.seq fun K7 hK7=>?_
  refine CW.block ?_
  -- LOOP 1: live [3,4,5] changed [5]
  refine CW.kp [5,3,4] rfl ?_
  refine CW.loopF (fun j Lc M1 Γc=>j<=8/\Lc = [(5,vint j)]/\Γc = []/\M1 = M/\mag n < 256 ^ j) 8 [(5,_)] [] rfl rfl ⟨Q0,rfl,rfl,rfl,Q0⟩ ?_
  rintro j Lc M Γc hs ⟨hj,rfl,rfl,rfl,hF⟩
  refine CW.seq fun K8 hK8=>?_
  refine CW.seq fun K9 hK9=>?_
  refine CW.region ?_
  refine RL.q (Y.move rfl) rfl ?_
  refine RL.q (Y.gtr rfl rfl) rfl ?_
  refine RL.nil ?_
  refine hK9 _ _ _ ?_
  refine CW.kp [3,4,5,15] rfl ?_
  refine CW.ite rfl (fun h2=>?_) (fun h2=>?_)
  ·refine CW.skip ?_
   refine hK8 _ _ _ ?_
   refine CW.block ?_
   refine CW.seq fun K10 hK10=>?_
   refine CW.seq fun K11 hK11=>?_
   refine CW.region ?_
   refine RL.q (Y.move rfl) rfl ?_
   refine RL.q (Y.move rfl) rfl ?_
   refine RL.q (Y.sub rfl rfl OM) rfl ?_
   refine RL.q (Y.mul rfl rfl OM) rfl ?_
   refine RL.q (Y.shrN (8 * (j - 1)) rfl rfl OM OM) rfl ?_
   refine RL.q (Y.gtrK rfl rfl) rfl ?_
   refine RL.nil ?_
   refine hK11 _ _ _ ?_
   refine CW.kp [3,4,5,21] rfl ?_
   refine CW.ite rfl (fun h3=>?_) (fun h3=>?_)
   ·refine CW.exit ?_
    refine hK7 _ _ _ ?_
    refine CW.seq fun K12 hK12=>?_
    have hk : nd (mag n) = j:=nd_eq hF (by first | exact .inl OM | exact .inr OM)
    refine CW.region ?_
    refine RL.q (Y.move rfl) rfl ?_
    refine RL.q (Y.add rfl rfl OM) rfl ?_
    refine RL.q (Y.convTo (r:=((128+j : Nat) : Int)) KR KR rfl (by rw [wrap_u8];omega)) rfl ?_
    refine RL.q (Y.move rfl) rfl ?_
    refine RL.q (Y.xor8 rfl rfl OM (sgn_or n)) rfl ?_
    refine RL.buildSlice [vbyte (flip8 (sgn n) (128+j))] elem23 rfl Q1 (fill1 rfl rfl) rfl fun b29=>?_
    refine RL.ownAcc (k:=1) (sz:=1) PK rfl Q1 ?_
    refine RL.q (Y.assign rfl) rfl ?_
    refine RL.nil ?_
    refine hK12 _ _ _ ?_
    refine CW.kp [3,4,5,6] rfl ?_
    refine CW.seq fun K13 hK13=>?_
    refine CW.seq fun K14 hK14=>?_
    refine CW.region ?_
    refine RL.q (Y.move rfl) rfl ?_
    refine RL.q (Y.sub rfl rfl OM) rfl ?_
    refine RL.q (Y.assign rfl) rfl ?_
    refine RL.nil ?_
    refine hK14 _ _ _ ?_
    refine CW.kp [3,4,6,7] rfl ?_
    refine CW.block ?_
    -- LOOP 2: live [3,4,6,7] changed [6,7]
    refine CW.kp [6,7,3,4] rfl ?_
    refine CW.loopF (fun m Lc M1 Γc=>∃ (r : Nat) (ua : Option Addr) (ca : Nat),m = j - r/\r<=j/\Lc = [(6,.slice ua (1+r) ca),(7,vint ((j : Int) - 1 - r))]/\Γc = [.acc (.slice ua (1+r) ca) 5 1 (1+r) (byteV (encP n j r))]/\M1 = M) j [(6,_),(7,_)] [_] rfl rfl ⟨0,some ⟨b29,0,none⟩,1,rfl,Nat.zero_le _,Q2,rfl,rfl⟩ ?_
    rintro m Lc M Γc hs2 ⟨r,ua,ca,rfl,hr,rfl,rfl,rfl⟩
    refine CW.seq fun K15 hK15=>?_
    refine CW.seq fun K16 hK16=>?_
    refine CW.region ?_
    refine RL.q (Y.move rfl) rfl ?_
    refine RL.q (Y.geq rfl rfl) rfl ?_
    refine RL.nil ?_
    refine hK16 _ _ _ ?_
    refine CW.kp [3,4,6,7,33] rfl ?_
    refine CW.ite rfl (fun h4=>?_) (fun h4=>?_)
    ·have hrj : r < j:=Q0
     refine CW.skip ?_
     refine hK15 _ _ _ ?_
     refine CW.seq fun K17 hK17=>?_
     refine CW.block ?_
     refine CW.region ?_
     refine RL.q (Y.move rfl) rfl ?_
     refine RL.q (Y.move rfl) rfl ?_
     refine RL.q (Y.move rfl) rfl ?_
     refine RL.q (Y.mul rfl rfl OM) rfl ?_
     refine RL.q (Y.shrN (8 * (j - 1 - r)) rfl rfl OM OM) rfl ?_
     refine RL.q (Y.convTo (r:=((mag n / 2 ^ (8 * (j - 1 - r)) % 256 : Nat) : Int)) KR KR rfl (by rw [wrap_u8];omega)) rfl ?_
     refine RL.q (Y.move rfl) rfl ?_
     refine RL.q (Y.xor8 rfl rfl OM (sgn_or n)) rfl ?_
     refine RL.buildSlice [vbyte (digitJ n j r)] elem23 rfl Q1 (fill1 rfl rfl) rfl fun b44=>?_
     refine RL.append elem23 rfl rfl PK (SrcOk.own (sz:=1) (m:=1) MM rfl (bytes_one [digitJ n j r])) OM (by unfold lim;omega) rfl fun a45 c45 hc45=>?_
     refine RL.q (Y.assign rfl) rfl ?_
     refine RL.nil ?_
     refine hK17 _ _ _ ?_
     refine CW.kp [3,4,6,7] rfl ?_
     refine CW.region ?_
     refine RL.q (Y.move rfl) rfl ?_
     refine RL.q (Y.sub rfl rfl OM) rfl ?_
     refine RL.q (Y.assign rfl) rfl ?_
     refine RL.nil ?_
     refine ⟨j - (r+1),[(6,_),(7,_)],?_,(KP [6,7,3,4]),?_⟩
     · omega
     · exact Turn.drop ⟨[.acc (.slice a45 (1+r+1) c45) 5 1 (1+r+1) (byteV (encP n j r)++byteV [digitJ n j r])],rfl,hs2,r+1,a45,c45,rfl,Q0,by rw [show ((j : Int) - 1 - r - 1) = (j : Int) - 1 - ((r+1 : Nat) : Int) from by omega] <;> rfl,by rw [show byteV (encP n j (r+1)) = byteV (encP n j r)++byteV [digitJ n j r] from by rw [encP_succ];exact List.map_append] <;> rfl,rfl⟩ SB
    refine CW.exit ?_
    refine hK13 _ _ _ ?_
    refine CW.seq fun K18 hK18=>?_
    refine CW.region ?_
    refine RL.q (Y.move rfl) rfl ?_
    refine RL.q (Y.assign rfl) rfl ?_
    refine RL.nil ?_
    refine hK18 _ _ _ ?_
    refine CW.kp [2] rfl ?_
    refine CW.ret ?_
    obtain rfl : r = j:=Q0
    have he : encI n = encP n r r:=by rw [encI,hk]
    exact ⟨_,rfl,Turn.sealAcc (ds:=(encP n r r).map dbyte) PK (bytes_rd _) (by unfold lim;omega) SB fun M2 hs3 hr2=>⟨hs3,rfl,by rw [dbytes,he,encP_len];exact hr2⟩⟩
   refine CW.skip ?_
   refine hK10 _ _ _ ?_
   refine CW.region ?_
   refine RL.q (Y.move rfl) rfl ?_
   refine RL.q (Y.sub rfl rfl OM) rfl ?_
   refine RL.q (Y.assign rfl) rfl ?_
   refine RL.nil ?_
   refine ⟨j - 1,[(5,_)],?_,(KP [5,3,4]),?_⟩
   · omega
   · exact Turn.drop ⟨[],rfl,hs,Q0,by rw [show ((j : Int) - 1) = ((j - 1 : Nat) : Int) from by omega],rfl,rfl,lt_pow_pred OM OM⟩ SB
  refine CW.exit ?_
  refine hK7 _ _ _ ?_
  refine CW.seq fun K19 hK19=>?_
  have hk : nd (mag n) = j:=nd_eq hF (by first | exact .inl OM | exact .inr OM)
  refine CW.region ?_
  refine RL.q (Y.move rfl) rfl ?_
  refine RL.q (Y.add rfl rfl OM) rfl ?_
  refine RL.q (Y.convTo (r:=((128+j : Nat) : Int)) KR KR rfl (by rw [wrap_u8];omega)) rfl ?_
  refine RL.q (Y.move rfl) rfl ?_
  refine RL.q (Y.xor8 rfl rfl OM (sgn_or n)) rfl ?_
  refine RL.buildSlice [vbyte (flip8 (sgn n) (128+j))] elem23 rfl Q1 (fill1 rfl rfl) rfl fun b29=>?_
  refine RL.ownAcc (k:=1) (sz:=1) PK rfl Q1 ?_
  refine RL.q (Y.assign rfl) rfl ?_
  refine RL.nil ?_
  refine hK19 _ _ _ ?_
  refine CW.kp [3,4,5,6] rfl ?_
  refine CW.seq fun K20 hK20=>?_
  refine CW.seq fun K21 hK21=>?_
  refine CW.region ?_
  refine RL.q (Y.move rfl) rfl ?_
  refine RL.q (Y.sub rfl rfl OM) rfl ?_
  refine RL.q (Y.assign rfl) rfl ?_
  refine RL.nil ?_
  refine hK21 _ _ _ ?_
  refine CW.kp [3,4,6,7] rfl ?_
  refine CW.block ?_
  -- LOOP 2: live [3,4,6,7] changed [6,7]
  refine CW.kp [6,7,3,4] rfl ?_
  refine CW.loopF (fun m Lc M1 Γc=>∃ (r : Nat) (ua : Option Addr) (ca : Nat),m = j - r/\r<=j/\Lc = [(6,.slice ua (1+r) ca),(7,vint ((j : Int) - 1 - r))]/\Γc = [.acc (.slice ua (1+r) ca) 5 1 (1+r) (byteV (encP n j r))]/\M1 = M) j [(6,_),(7,_)] [_] rfl rfl ⟨0,some ⟨b29,0,none⟩,1,rfl,Nat.zero_le _,Q2,rfl,rfl⟩ ?_
  rintro m Lc M Γc hs2 ⟨r,ua,ca,rfl,hr,rfl,rfl,rfl⟩
  refine CW.seq fun K22 hK22=>?_
  refine CW.seq fun K23 hK23=>?_
  refine CW.region ?_
  refine RL.q (Y.move rfl) rfl ?_
  refine RL.q (Y.geq rfl rfl) rfl ?_
  refine RL.nil ?_
  refine hK23 _ _ _ ?_
  refine CW.kp [3,4,6,7,33] rfl ?_
  refine CW.ite rfl (fun h4=>?_) (fun h4=>?_)
  ·have hrj : r < j:=Q0
   refine CW.skip ?_
   refine hK22 _ _ _ ?_
   refine CW.seq fun K24 hK24=>?_
   refine CW.block ?_
   refine CW.region ?_
   refine RL.q (Y.move rfl) rfl ?_
   refine RL.q (Y.move rfl) rfl ?_
   refine RL.q (Y.move rfl) rfl ?_
   refine RL.q (Y.mul rfl rfl OM) rfl ?_
   refine RL.q (Y.shrN (8 * (j - 1 - r)) rfl rfl OM OM) rfl ?_
   refine RL.q (Y.convTo (r:=((mag n / 2 ^ (8 * (j - 1 - r)) % 256 : Nat) : Int)) KR KR rfl (by rw [wrap_u8];omega)) rfl ?_
   refine RL.q (Y.move rfl) rfl ?_
   refine RL.q (Y.xor8 rfl rfl OM (sgn_or n)) rfl ?_
   refine RL.buildSlice [vbyte (digitJ n j r)] elem23 rfl Q1 (fill1 rfl rfl) rfl fun b44=>?_
   refine RL.append elem23 rfl rfl PK (SrcOk.own (sz:=1) (m:=1) MM rfl (bytes_one [digitJ n j r])) OM (by unfold lim;omega) rfl fun a45 c45 hc45=>?_
   refine RL.q (Y.assign rfl) rfl ?_
   refine RL.nil ?_
   refine hK24 _ _ _ ?_
   refine CW.kp [3,4,6,7] rfl ?_
   refine CW.region ?_
   refine RL.q (Y.move rfl) rfl ?_
   refine RL.q (Y.sub rfl rfl OM) rfl ?_
   refine RL.q (Y.assign rfl) rfl ?_
   refine RL.nil ?_
   refine ⟨j - (r+1),[(6,_),(7,_)],?_,(KP [6,7,3,4]),?_⟩
   · omega
   · exact Turn.drop ⟨[.acc (.slice a45 (1+r+1) c45) 5 1 (1+r+1) (byteV (encP n j r)++byteV [digitJ n j r])],rfl,hs2,r+1,a45,c45,rfl,Q0,by rw [show ((j : Int) - 1 - r - 1) = (j : Int) - 1 - ((r+1 : Nat) : Int) from by omega] <;> rfl,by rw [show byteV (encP n j (r+1)) = byteV (encP n j r)++byteV [digitJ n j r] from by rw [encP_succ];exact List.map_append] <;> rfl,rfl⟩ SB
  refine CW.exit ?_
  refine hK20 _ _ _ ?_
  refine CW.seq fun K25 hK25=>?_
  refine CW.region ?_
  refine RL.q (Y.move rfl) rfl ?_
  refine RL.q (Y.assign rfl) rfl ?_
  refine RL.nil ?_
  refine hK25 _ _ _ ?_
  refine CW.kp [2] rfl ?_
  refine CW.ret ?_
  obtain rfl : r = j:=Q0
  have he : encI n = encP n r r:=by rw [encI,hk]
  exact ⟨_,rfl,Turn.sealAcc (ds:=(encP n r r).map dbyte) PK (bytes_rd _) (by unfold lim;omega) SB fun M2 hs3 hr2=>⟨hs3,rfl,by rw [dbytes,he,encP_len];exact hr2⟩⟩
 refine CW.keep (L':=[(3,vword (mag n)),(4,vbyte (sgn n))]) (Keep.cons 3 (by rw [<-mag_nn hn h1];rfl) (Keep.cons 4 (by rw [show sgn n = 0 from if_neg h1];rfl) (Keep.nil _))) ?_
 refine CW.skip ?_
 refine hK3 _ _ _ ?_
 refine CW.seq fun K26 hK26=>?_
 refine CW.region ?_
 refine RL.q (Y.assign rfl) rfl ?_
 refine RL.nil ?_
 refine hK26 _ _ _ ?_
 refine CW.kp [3,4,5] rfl ?_
 refine CW.seq fun K27 hK27=>?_
 refine CW.label ?_
 refine hK27 _ _ _ ?_
 refine CW.seq fun K28 hK28=>?_
 refine CW.block ?_
 -- LOOP 1: live [3,4,5] changed [5]
 refine CW.kp [5,3,4] rfl ?_
 refine CW.loopF (fun j Lc M1 Γc=>j<=8/\Lc = [(5,vint j)]/\Γc = []/\M1 = M/\mag n < 256 ^ j) 8 [(5,_)] [] rfl rfl ⟨Q0,rfl,rfl,rfl,Q0⟩ ?_
 rintro j Lc M Γc hs ⟨hj,rfl,rfl,rfl,hF⟩
 refine CW.seq fun K29 hK29=>?_
 refine CW.seq fun K30 hK30=>?_
 refine CW.region ?_
 refine RL.q (Y.move rfl) rfl ?_
 refine RL.q (Y.gtr rfl rfl) rfl ?_
 refine RL.nil ?_
 refine hK30 _ _ _ ?_
 refine CW.kp [3,4,5,15] rfl ?_
 refine CW.ite rfl (fun h2=>?_) (fun h2=>?_)
 ·refine CW.skip ?_
  refine hK29 _ _ _ ?_
  refine CW.block ?_
  refine CW.seq fun K31 hK31=>?_
  refine CW.seq fun K32 hK32=>?_
  refine CW.region ?_
  refine RL.q (Y.move rfl) rfl ?_
  refine RL.q (Y.move rfl) rfl ?_
  refine RL.q (Y.sub rfl rfl OM) rfl ?_
  refine RL.q (Y.mul rfl rfl OM) rfl ?_
  refine RL.q (Y.shrN (8 * (j - 1)) rfl rfl OM OM) rfl ?_
  refine RL.q (Y.gtrK rfl rfl) rfl ?_
  refine RL.nil ?_
  refine hK32 _ _ _ ?_
  refine CW.kp [3,4,5,21] rfl ?_
  refine CW.ite rfl (fun h3=>?_) (fun h3=>?_)
  ·refine CW.exit ?_
   refine hK28 _ _ _ ?_
   refine CW.seq fun K33 hK33=>?_
   have hk : nd (mag n) = j:=nd_eq hF (by first | exact .inl OM | exact .inr OM)
   refine CW.region ?_
   refine RL.q (Y.move rfl) rfl ?_
   refine RL.q (Y.add rfl rfl OM) rfl ?_
   refine RL.q (Y.convTo (r:=((128+j : Nat) : Int)) KR KR rfl (by rw [wrap_u8];omega)) rfl ?_
   refine RL.q (Y.move rfl) rfl ?_
   refine RL.q (Y.xor8 rfl rfl OM (sgn_or n)) rfl ?_
   refine RL.buildSlice [vbyte (flip8 (sgn n) (128+j))] elem23 rfl Q1 (fill1 rfl rfl) rfl fun b29=>?_
   refine RL.ownAcc (k:=1) (sz:=1) PK rfl Q1 ?_
   refine RL.q (Y.assign rfl) rfl ?_
   refine RL.nil ?_
   refine hK33 _ _ _ ?_
   refine CW.kp [3,4,5,6] rfl ?_
   refine CW.seq fun K34 hK34=>?_
   refine CW.seq fun K35 hK35=>?_
   refine CW.region ?_
   refine RL.q (Y.move rfl) rfl ?_
   refine RL.q (Y.sub rfl rfl OM) rfl ?_
   refine RL.q (Y.assign rfl) rfl ?_
   refine RL.nil ?_
   refine hK35 _ _ _ ?_
   refine CW.kp [3,4,6,7] rfl ?_
   refine CW.block ?_
   -- LOOP 2: live [3,4,6,7] changed [6,7]
   refine CW.kp [6,7,3,4] rfl ?_
   refine CW.loopF (fun m Lc M1 Γc=>∃ (r : Nat) (ua : Option Addr) (ca : Nat),m = j - r/\r<=j/\Lc = [(6,.slice ua (1+r) ca),(7,vint ((j : Int) - 1 - r))]/\Γc = [.acc (.slice ua (1+r) ca) 5 1 (1+r) (byteV (encP n j r))]/\M1 = M) j [(6,_),(7,_)] [_] rfl rfl ⟨0,some ⟨b29,0,none⟩,1,rfl,Nat.zero_le _,Q2,rfl,rfl⟩ ?_
   rintro m Lc M Γc hs2 ⟨r,ua,ca,rfl,hr,rfl,rfl,rfl⟩
   refine CW.seq fun K36 hK36=>?_
   refine CW.seq fun K37 hK37=>?_
   refine CW.region ?_
   refine RL.q (Y.move rfl) rfl ?_
   refine RL.q (Y.geq rfl rfl) rfl ?_
   refine RL.nil ?_
   refine hK37 _ _ _ ?_
   refine CW.kp [3,4,6,7,33] rfl ?_
   refine CW.ite rfl (fun h4=>?_) (fun h4=>?_)
   ·have hrj : r < j:=Q0
    refine CW.skip ?_
    refine hK36 _ _ _ ?_
    refine CW.seq fun K38 hK38=>?_
    refine CW.block ?_
    refine CW.region ?_
    refine RL.q (Y.move rfl) rfl ?_
    refine RL.q (Y.move rfl) rfl ?_
    refine RL.q (Y.move rfl) rfl ?_
    refine RL.q (Y.mul rfl rfl OM) rfl ?_
    refine RL.q (Y.shrN (8 * (j - 1 - r)) rfl rfl OM OM) rfl ?_
    refine RL.q (Y.convTo (r:=((mag n / 2 ^ (8 * (j - 1 - r)) % 256 : Nat) : Int)) KR KR rfl (by rw [wrap_u8];omega)) rfl ?_
    refine RL.q (Y.move rfl) rfl ?_
    refine RL.q (Y.xor8 rfl rfl OM (sgn_or n)) rfl ?_
    refine RL.buildSlice [vbyte (digitJ n j r)] elem23 rfl Q1 (fill1 rfl rfl) rfl fun b44=>?_
    refine RL.append elem23 rfl rfl PK (SrcOk.own (sz:=1) (m:=1) MM rfl (bytes_one [digitJ n j r])) OM (by unfold lim;omega) rfl fun a45 c45 hc45=>?_
    refine RL.q (Y.assign rfl) rfl ?_
    refine RL.nil ?_
    refine hK38 _ _ _ ?_
    refine CW.kp [3,4,6,7] rfl ?_
    refine CW.region ?_
    refine RL.q (Y.move rfl) rfl ?_
    refine RL.q (Y.sub rfl rfl OM) rfl ?_
    refine RL.q (Y.assign rfl) rfl ?_
    refine RL.nil ?_
    refine ⟨j - (r+1),[(6,_),(7,_)],?_,(KP [6,7,3,4]),?_⟩
    · omega
    · exact Turn.drop ⟨[.acc (.slice a45 (1+r+1) c45) 5 1 (1+r+1) (byteV (encP n j r)++byteV [digitJ n j r])],rfl,hs2,r+1,a45,c45,rfl,Q0,by rw [show ((j : Int) - 1 - r - 1) = (j : Int) - 1 - ((r+1 : Nat) : Int) from by omega] <;> rfl,by rw [show byteV (encP n j (r+1)) = byteV (encP n j r)++byteV [digitJ n j r] from by rw [encP_succ];exact List.map_append] <;> rfl,rfl⟩ SB
   refine CW.exit ?_
   refine hK34 _ _ _ ?_
   refine CW.seq fun K39 hK39=>?_
   refine CW.region ?_
   refine RL.q (Y.move rfl) rfl ?_
   refine RL.q (Y.assign rfl) rfl ?_
   refine RL.nil ?_
   refine hK39 _ _ _ ?_
   refine CW.kp [2] rfl ?_
   refine CW.ret ?_
   obtain rfl : r = j:=Q0
   have he : encI n = encP n r r:=by rw [encI,hk]
   exact ⟨_,rfl,Turn.sealAcc (ds:=(encP n r r).map dbyte) PK (bytes_rd _) (by unfold lim;omega) SB fun M2 hs3 hr2=>⟨hs3,rfl,by rw [dbytes,he,encP_len];exact hr2⟩⟩
  refine CW.skip ?_
  refine hK31 _ _ _ ?_
  refine CW.region ?_
  refine RL.q (Y.move rfl) rfl ?_
  refine RL.q (Y.sub rfl rfl OM) rfl ?_
  refine RL.q (Y.assign rfl) rfl ?_
  refine RL.nil ?_
  refine ⟨j - 1,[(5,_)],?_,(KP [5,3,4]),?_⟩
  · omega
  · exact Turn.drop ⟨[],rfl,hs,Q0,by rw [show ((j : Int) - 1) = ((j - 1 : Nat) : Int) from by omega],rfl,rfl,lt_pow_pred OM OM⟩ SB
 refine CW.exit ?_
 refine hK28 _ _ _ ?_
 refine CW.seq fun K40 hK40=>?_
 have hk : nd (mag n) = j:=nd_eq hF (by first | exact .inl OM | exact .inr OM)
 refine CW.region ?_
 refine RL.q (Y.move rfl) rfl ?_
 refine RL.q (Y.add rfl rfl OM) rfl ?_
 refine RL.q (Y.convTo (r:=((128+j : Nat) : Int)) KR KR rfl (by rw [wrap_u8];omega)) rfl ?_
 refine RL.q (Y.move rfl) rfl ?_
 refine RL.q (Y.xor8 rfl rfl OM (sgn_or n)) rfl ?_
 refine RL.buildSlice [vbyte (flip8 (sgn n) (128+j))] elem23 rfl Q1 (fill1 rfl rfl) rfl fun b29=>?_
 refine RL.ownAcc (k:=1) (sz:=1) PK rfl Q1 ?_
 refine RL.q (Y.assign rfl) rfl ?_
 refine RL.nil ?_
 refine hK40 _ _ _ ?_
 refine CW.kp [3,4,5,6] rfl ?_
 refine CW.seq fun K41 hK41=>?_
 refine CW.seq fun K42 hK42=>?_
 refine CW.region ?_
 refine RL.q (Y.move rfl) rfl ?_
 refine RL.q (Y.sub rfl rfl OM) rfl ?_
 refine RL.q (Y.assign rfl) rfl ?_
 refine RL.nil ?_
 refine hK42 _ _ _ ?_
 refine CW.kp [3,4,6,7] rfl ?_
 refine CW.block ?_
 -- LOOP 2: live [3,4,6,7] changed [6,7]
 refine CW.kp [6,7,3,4] rfl ?_
 refine CW.loopF (fun m Lc M1 Γc=>∃ (r : Nat) (ua : Option Addr) (ca : Nat),m = j - r/\r<=j/\Lc = [(6,.slice ua (1+r) ca),(7,vint ((j : Int) - 1 - r))]/\Γc = [.acc (.slice ua (1+r) ca) 5 1 (1+r) (byteV (encP n j r))]/\M1 = M) j [(6,_),(7,_)] [_] rfl rfl ⟨0,some ⟨b29,0,none⟩,1,rfl,Nat.zero_le _,Q2,rfl,rfl⟩ ?_
 rintro m Lc M Γc hs2 ⟨r,ua,ca,rfl,hr,rfl,rfl,rfl⟩
 refine CW.seq fun K43 hK43=>?_
 refine CW.seq fun K44 hK44=>?_
 refine CW.region ?_
 refine RL.q (Y.move rfl) rfl ?_
 refine RL.q (Y.geq rfl rfl) rfl ?_
 refine RL.nil ?_
 refine hK44 _ _ _ ?_
 refine CW.kp [3,4,6,7,33] rfl ?_
 refine CW.ite rfl (fun h4=>?_) (fun h4=>?_)
 ·have hrj : r < j:=Q0
  refine CW.skip ?_
  refine hK43 _ _ _ ?_
  refine CW.seq fun K45 hK45=>?_
  refine CW.block ?_
  refine CW.region ?_
  refine RL.q (Y.move rfl) rfl ?_
  refine RL.q (Y.move rfl) rfl ?_
  refine RL.q (Y.move rfl) rfl ?_
  refine RL.q (Y.mul rfl rfl OM) rfl ?_
  refine RL.q (Y.shrN (8 * (j - 1 - r)) rfl rfl OM OM) rfl ?_
  refine RL.q (Y.convTo (r:=((mag n / 2 ^ (8 * (j - 1 - r)) % 256 : Nat) : Int)) KR KR rfl (by rw [wrap_u8];omega)) rfl ?_
  refine RL.q (Y.move rfl) rfl ?_
  refine RL.q (Y.xor8 rfl rfl OM (sgn_or n)) rfl ?_
  refine RL.buildSlice [vbyte (digitJ n j r)] elem23 rfl Q1 (fill1 rfl rfl) rfl fun b44=>?_
  refine RL.append elem23 rfl rfl PK (SrcOk.own (sz:=1) (m:=1) MM rfl (bytes_one [digitJ n j r])) OM (by unfold lim;omega) rfl fun a45 c45 hc45=>?_
  refine RL.q (Y.assign rfl) rfl ?_
  refine RL.nil ?_
  refine hK45 _ _ _ ?_
  refine CW.kp [3,4,6,7] rfl ?_
  refine CW.region ?_
  refine RL.q (Y.move rfl) rfl ?_
  refine RL.q (Y.sub rfl rfl OM) rfl ?_
  refine RL.q (Y.assign rfl) rfl ?_
  refine RL.nil ?_
  refine ⟨j - (r+1),[(6,_),(7,_)],?_,(KP [6,7,3,4]),?_⟩
  · omega
  · exact Turn.drop ⟨[.acc (.slice a45 (1+r+1) c45) 5 1 (1+r+1) (byteV (encP n j r)++byteV [digitJ n j r])],rfl,hs2,r+1,a45,c45,rfl,Q0,by rw [show ((j : Int) - 1 - r - 1) = (j : Int) - 1 - ((r+1 : Nat) : Int) from by omega] <;> rfl,by rw [show byteV (encP n j (r+1)) = byteV (encP n j r)++byteV [digitJ n j r] from by rw [encP_succ];exact List.map_append] <;> rfl,rfl⟩ SB
 refine CW.exit ?_
 refine hK41 _ _ _ ?_
 refine CW.seq fun K46 hK46=>?_
 refine CW.region ?_
 refine RL.q (Y.move rfl) rfl ?_
 refine RL.q (Y.assign rfl) rfl ?_
 refine RL.nil ?_
 refine hK46 _ _ _ ?_
 refine CW.kp [2] rfl ?_
 refine CW.ret ?_
 obtain rfl : r = j:=Q0
 have he : encI n = encP n r r:=by rw [encI,hk]
 exact ⟨_,rfl,Turn.sealAcc (ds:=(encP n r r).map dbyte) PK (bytes_rd _) (by unfold lim;omega) SB fun M2 hs3 hr2=>⟨hs3,rfl,by rw [dbytes,he,encP_len];exact hr2⟩⟩
theorem grow_ok (w0 : World) (M : Mem) (Γ : List As) (n : Nat) (hn : n<=1000000) :
   CallOk Tryd.prog w0 M Γ 45 #[.slice none 0 0,vint n] (fun u M' Γ'=>∃ a c,u = .slice a 0 c/\n<=c/\M' = M/\Γ' = .acc (.slice a 0 c) 5 1 0 []::Γ):=by
 refine enter (f:=45) Tryd.func45 rfl Tryd.ntmps45 rfl rfl fun w1 hw1=>?_
 refine CW.seq fun K1 hK1=>?_
 refine CW.region ?_
 refine RL.q (Y.assign rfl) rfl ?_
 refine RL.nil ?_
 refine hK1 _ _ _ ?_
 refine CW.kp [0,1] rfl ?_
 refine CW.seq fun K2 hK2=>?_
 refine CW.seq fun K3 hK3=>?_
 refine CW.region ?_
 refine RL.q (Y.move rfl) rfl ?_
 refine RL.q (Y.lss rfl rfl) rfl ?_
 refine RL.nil ?_
 refine hK3 _ _ _ ?_
 refine CW.kp [0,1,6] rfl ?_
 refine CW.ite rfl (fun h1=>absurd h1 OM) (fun h1=>?_)
 refine CW.skip ?_
 refine hK2 _ _ _ ?_
 refine CW.seq fun K4 hK4=>?_
 refine CW.seq fun K5 hK5=>?_
 refine CW.region ?_
 refine RL.q (Y.move rfl) rfl ?_
 refine RL.q (Y.move rfl) rfl ?_
 refine RL.q (Y.cap rfl Tryd.underlying23) rfl ?_
 refine RL.q (Y.move rfl) rfl ?_
 refine RL.q (Y.len rfl Tryd.underlying23) rfl ?_
 refine RL.q (Y.sub rfl rfl OM) rfl ?_
 refine RL.q (Y.sub rfl rfl OM) rfl ?_
 refine RL.q (Y.assign rfl) rfl ?_
 refine RL.nil ?_
 refine hK5 _ _ _ ?_
 refine CW.kp [0,1] rfl ?_
 refine CW.seq fun K6 hK6=>?_
 refine CW.region ?_
 refine RL.q (Y.move rfl) rfl ?_
 refine RL.q (Y.gtr rfl rfl) rfl ?_
 refine RL.nil ?_
 refine hK6 _ _ _ ?_
 refine CW.kp [0,1,16] rfl ?_
 refine CW.ite rfl (fun h2=>?_) (fun h2=>?_)
 ·refine CW.region ?_
  refine RL.q (Y.move rfl) rfl ?_
  refine RL.q (Y.move rfl) rfl ?_
  refine RL.q (Y.cap rfl Tryd.underlying23) rfl ?_
  refine RL.q (Y.slice0 0 0 rfl ⟨_,rfl,rfl⟩ rfl Q2 (Nat.le_refl _) (Nat.le_refl _) slice23) rfl ?_
  refine RL.q (Y.move rfl) rfl ?_
  refine RL.appendZeros n elem23 Tryd.underlying3 rfl rfl OM OM OM (by unfold lim;omega) rfl fun b22 c22 us22 hus22 hc22=>?_
  refine RL.q (Y.move rfl) rfl ?_
  refine RL.q (Y.len rfl Tryd.underlying23) rfl ?_
  refine RL.accTake (k:=0) (Nat.zero_le _) ?_
  refine RL.q (Y.slice0 0 c22 rfl ⟨_,rfl,rfl⟩ rfl Q2 (Nat.zero_le _) (Nat.le_refl _) slice23) rfl ?_
  refine RL.q (Y.assign rfl) rfl ?_
  refine RL.nil ?_
  refine hK4 _ _ _ ?_
  refine CW.kp [0] rfl ?_
  refine CW.seq fun K7 hK7=>?_
  refine CW.region ?_
  refine RL.q (Y.move rfl) rfl ?_
  refine RL.q (Y.assign rfl) rfl ?_
  refine RL.nil ?_
  refine hK7 _ _ _ ?_
  refine CW.kp [4] rfl ?_
  refine CW.ret ?_
  exact ⟨_,rfl,Turn.drop ⟨_,_,rfl,Q0,rfl,rfl⟩ SB⟩
 refine CW.accNil 5 1 ?_
 refine CW.skip ?_
 refine hK4 _ _ _ ?_
 refine CW.seq fun K8 hK8=>?_
 refine CW.region ?_
 refine RL.q (Y.move rfl) rfl ?_
 refine RL.q (Y.assign rfl) rfl ?_
 refine RL.nil ?_
 refine hK8 _ _ _ ?_
 refine CW.kp [4] rfl ?_
 refine CW.ret ?_
 exact ⟨_,rfl,Turn.drop ⟨_,_,rfl,Q0,rfl,rfl⟩ SB⟩

theorem concat_ok (w0 : World) (M : Mem) (Γ : List As) (p : Addr) (us : List Value) (ls : List (List Nat)) (n : Nat) (hn : n = ls.flatten.length) (hc : CellsK w0 M Γ p us) (hr : RdL M (ls.map dbytes) us) (hl : ls.length<=1000) (hls : ∀ l∈ls,l.length<=1000) :
   CallOk Tryd.prog w0 M Γ 21 #[.slice (some p) us.length us.length] (fun u M' Γ'=>∃ a c,u = .slice a n c/\n<=c/\M' = M/\Γ' = .acc (.slice a n c) 5 1 n (byteV ls.flatten)::Γ):=by
 have hul : us.length = ls.length:=by rw [hr.1];simp
 have htk : ∀ k,(ls.take k).flatten.length<=1000000:=fun k=>by
   have h1:=flat_le 1000 (ls.take k) fun l h=>hls l (List.mem_of_mem_take h)
   have h2 : (ls.take k).length<=1000:=by rw [List.length_take];omega
   have h3:=Nat.mul_le_mul_right 1000 h2
   omega
 refine enter (f:=21) Tryd.func21 rfl Tryd.ntmps21 rfl rfl fun w1 hw1=>?_
 refine CW.seq fun K1 hK1=>?_
 refine CW.region ?_
 refine RL.q (Y.assign rfl) rfl ?_
 refine RL.nil ?_
 refine hK1 _ _ _ ?_
 refine CW.kp [0] rfl ?_
 refine CW.seq fun K2 hK2=>?_
 refine CW.region ?_
 refine RL.q (Y.assign rfl) rfl ?_
 refine RL.nil ?_
 refine hK2 _ _ _ ?_
 refine CW.kp [0,3] rfl ?_
 refine CW.seq fun K3 hK3=>?_
 refine CW.seq fun K4 hK4=>?_
 refine CW.region ?_
 refine RL.q (Y.move rfl) rfl ?_
 refine RL.q (Y.len rfl Tryd.underlying100) rfl ?_
 refine RL.q (Y.move rfl) rfl ?_
 refine RL.nil ?_
 refine hK4 _ _ _ ?_
 refine CW.kp [0,3,9,10,11] rfl ?_
 refine CW.block ?_
 -- LOOP 1: live [0,3,9,10,11] changed [3,11]
 refine CW.kp [3,11,0,9,10] rfl ?_
 refine CW.loopF (fun m Lc M1 Γc=>∃ k : Nat,m = us.length - k/\k<=us.length/\Lc = [(3,vint ((ls.take k).flatten.length : Nat)),(11,vint k)]/\Γc = []/\M1 = M) (us.length) [(3,_),(11,_)] _ rfl rfl ⟨0,rfl,Nat.zero_le _,rfl,rfl,rfl⟩ ?_
 rintro m Lc M Γc hs ⟨k,rfl,hk,rfl,rfl,rfl⟩
 refine CW.seq fun K5 hK5=>?_
 refine CW.region ?_
 refine RL.q (Y.lss rfl rfl) rfl ?_
 refine RL.nil ?_
 refine hK5 _ _ _ ?_
 refine CW.kp [0,3,9,10,11,12] rfl ?_
 refine CW.seq fun K6 hK6=>?_
 refine CW.ite rfl (fun h1=>?_) (fun h1=>?_)
 ·have hka : k < us.length:=Q0
  have hkl : k < ls.length:=Q0
  have hrk : Rd M (dbytes ls[k]) us[k]:=hr.2 k _ _ (by simp [hkl]) (List.getElem?_eq_getElem hka)
  obtain ⟨ak,ck,huk,hck,hlk,_⟩:=hrk.slice
  have hgk : us[k]? = some (.slice ak ls[k].length ck):=by rw [List.getElem?_eq_getElem hka,huk]
  have htk1:=htk k
  have hlk1:=hls _ (List.getElem_mem hkl)
  refine CW.skip ?_
  refine hK6 _ _ _ ?_
  refine CW.seq fun K7 hK7=>?_
  refine CW.block ?_
  refine CW.seq fun K8 hK8=>?_
  refine CW.region ?_
  refine RL.q (Y.index k rfl rfl rfl hka slice100 (fun _ _=>rfl)) rfl ?_
  refine RL.q (Y.load (v:=.slice ak ls[k].length ck) rfl flat23 (fun w hw=>by rw [Nat.mul_one];exact (hc.mono (fun _ h=>h.sub SB)) w hw k _ hgk)) rfl ?_
  refine RL.q (Y.assign rfl) rfl ?_
  refine RL.nil ?_
  refine hK8 _ _ _ ?_
  refine CW.kp [0,3,5,9,10,11] rfl ?_
  refine CW.seq fun K9 hK9=>?_
  refine CW.region ?_
  refine RL.q (Y.move rfl) rfl ?_
  refine RL.q (Y.move rfl) rfl ?_
  refine RL.q (Y.len rfl Tryd.underlying23) rfl ?_
  refine RL.q (Y.add rfl rfl OM) rfl ?_
  refine RL.q (Y.assign rfl) rfl ?_
  refine RL.nil ?_
  refine hK9 _ _ _ ?_
  refine CW.kp [0,3,9,10,11] rfl ?_
  refine CW.seq fun K10 hK10=>?_
  refine CW.region ?_
  refine RL.q (Y.move rfl) rfl ?_
  refine RL.q (Y.lss rfl rfl) rfl ?_
  refine RL.nil ?_
  refine hK10 _ _ _ ?_
  refine CW.kp [0,3,9,10,11,20] rfl ?_
  refine CW.ite rfl (fun h2=>absurd h2 OM) (fun h2=>?_)
  refine CW.skip ?_
  refine hK7 _ _ _ ?_
  refine CW.region ?_
  refine RL.q (Y.add rfl rfl OM) rfl ?_
  refine RL.q (Y.move rfl) rfl ?_
  refine RL.nil ?_
  refine ⟨us.length - (k+1),[(3,_),(11,_)],?_,(KP [3,11,0,9,10]),?_⟩
  · omega
  · exact Turn.drop ⟨[],rfl,hs,k+1,rfl,Q0,by rw [take_flat_succ ls k hkl,List.length_append] <;> rfl,rfl,rfl⟩ SB
 refine CW.exit ?_
 refine hK3 _ _ _ ?_
 refine CW.seq fun K11 hK11=>?_
 obtain rfl : k = us.length:=Q0
 rw [show ls.take us.length = ls from by rw [hul,List.take_length]]
 have htl : ls.flatten.length<=1000000:=by have:=htk us.length;rwa [hul,List.take_length] at this
 refine CW.region ?_
 refine RL.q (Y.move rfl) rfl ?_
 refine RL.call rfl func45 rfl rfl (by exact grow_ok _ _ _ ls.flatten.length htl) ?_
 rintro v24 M _ ⟨a24,c24,rfl,hc24,rfl,rfl⟩
 refine RL.q (Y.assign rfl) rfl ?_
 refine RL.nil ?_
 refine hK11 _ _ _ ?_
 refine CW.kp [0,6] rfl ?_
 refine CW.seq fun K12 hK12=>?_
 refine CW.seq fun K13 hK13=>?_
 refine CW.region ?_
 refine RL.q (Y.move rfl) rfl ?_
 refine RL.q (Y.len rfl Tryd.underlying100) rfl ?_
 refine RL.q (Y.move rfl) rfl ?_
 refine RL.nil ?_
 refine hK13 _ _ _ ?_
 refine CW.kp [6,25,26,27] rfl ?_
 refine CW.block ?_
 -- LOOP 2: live [6,25,26,27] changed [6,27]
 refine CW.kp [6,27,25,26] rfl ?_
 refine CW.front (x:=.acc (.slice a24 0 c24) 5 1 0 []) PK ?_
 refine CW.loopF (fun m Lc M1 Γc=>∃ (k : Nat) (ua : Option Addr) (ca : Nat),m = us.length - k/\k<=us.length/\Lc = [(6,.slice ua (ls.take k).flatten.length ca),(27,vint k)]/\Γc = [.acc (.slice ua (ls.take k).flatten.length ca) 5 1 (ls.take k).flatten.length (byteV (ls.take k).flatten)]/\M1 = M/\(ls.take k).flatten.length<=ca) us.length [(6,_),(27,_)] [_] rfl rfl ⟨0,a24,c24,rfl,Nat.zero_le _,rfl,rfl,rfl,Nat.zero_le _⟩ ?_
 rintro m Lc M Γc hs2 ⟨k,ua,ca,rfl,hk,rfl,rfl,rfl,hca⟩
 refine CW.seq fun K14 hK14=>?_
 refine CW.region ?_
 refine RL.q (Y.lss rfl rfl) rfl ?_
 refine RL.nil ?_
 refine hK14 _ _ _ ?_
 refine CW.kp [6,25,26,27,28] rfl ?_
 refine CW.seq fun K15 hK15=>?_
 refine CW.ite rfl (fun h3=>?_) (fun h3=>?_)
 ·have hka : k < us.length:=Q0
  have hkl : k < ls.length:=Q0
  have hrk : Rd M (dbytes ls[k]) us[k]:=hr.2 k _ _ (by simp [hkl]) (List.getElem?_eq_getElem hka)
  obtain ⟨ak,ck,huk,hck,hlk,_⟩:=hrk.slice
  have hgk : us[k]? = some (.slice ak ls[k].length ck):=by rw [List.getElem?_eq_getElem hka,huk]
  have htk1:=htk k
  have hlk1:=hls _ (List.getElem_mem hkl)
  rw [huk] at hrk
  refine CW.addRd hrk ?_
  refine CW.skip ?_
  refine hK15 _ _ _ ?_
  refine CW.seq fun K16 hK16=>?_
  refine CW.block ?_
  refine CW.seq fun K17 hK17=>?_
  refine CW.region ?_
  refine RL.q (Y.index k rfl rfl rfl hka slice100 (fun _ _=>rfl)) rfl ?_
  refine RL.q (Y.load (v:=.slice ak ls[k].length ck) rfl flat23 (fun w hw=>by rw [Nat.mul_one];exact (hc.mono (fun _ h=>h.sub SB)) w hw k _ hgk)) rfl ?_
  refine RL.q (Y.assign rfl) rfl ?_
  refine RL.nil ?_
  refine hK17 _ _ _ ?_
  refine CW.kp [6,8,25,26,27] rfl ?_
  refine CW.region ?_
  refine RL.q (Y.move rfl) rfl ?_
  refine RL.q (Y.move rfl) rfl ?_
  refine RL.appendRd elem23 rfl rfl PK MM OM (by unfold lim;omega) rfl fun a33 c33 n33 hc33 hn33=>?_
  refine RL.q (Y.assign rfl) rfl ?_
  refine RL.nil ?_
  refine hK16 _ _ _ ?_
  refine CW.kp [6,25,26,27] rfl ?_
  refine CW.region ?_
  refine RL.q (Y.add rfl rfl OM) rfl ?_
  refine RL.q (Y.move rfl) rfl ?_
  refine RL.nil ?_
  have e33 : (ls.take (k+1)).flatten.length = (ls.take k).flatten.length+ls[k].length:=by rw [take_flat_succ ls k hkl,List.length_append]
  refine ⟨us.length - (k+1),[(6,_),(27,_)],?_,(KP [6,27,25,26]),?_⟩
  · omega
  · refine Turn.drop (Γ':=[.acc (.slice a33 ((ls.take k).flatten.length+ls[k].length) c33) 5 1 ((ls.take k).flatten.length+ls[k].length) (byteV (ls.take k).flatten++n33)]++_) ⟨_,rfl,hs2,k+1,a33,c33,rfl,Q0,by rw [e33] <;> rfl,?_,rfl,Q0⟩ SB
    rw [e33,take_flat_succ ls k hkl,bytes_of_rd hn33]
    simp [byteV]
 refine CW.exit ?_
 refine hK12 _ _ _ ?_
 refine CW.seq fun K18 hK18=>?_
 refine CW.region ?_
 refine RL.q (Y.move rfl) rfl ?_
 refine RL.q (Y.assign rfl) rfl ?_
 refine RL.nil ?_
 refine hK18 _ _ _ ?_
 refine CW.kp [2] rfl ?_
 refine CW.ret ?_
 obtain rfl : k = us.length:=Q0
 have e:=hul ▸ (List.take_length (l:=ls))
 rw [show ls.take us.length = ls from by rw [hul,List.take_length]] at hca ⊢
 subst hn
 exact ⟨_,rfl,Turn.drop ⟨_,_,rfl,hca,rfl,rfl⟩ SB⟩
theorem encode_ok (N : Nat) : ∀ (w0 : World) (M : Mem) (Γ : List As) (v : Val) (usv : List Value) ,v.size = N->Kn w0 M Γ (RdL M v.enc usv)->v.Ok->v.size<=1099511627776 -> 
   CallOk Tryd.prog w0 M Γ 7 #[.agg usv.toArray] (Gives M Γ fun M' u=>Rd M' (dbytes (encV v)) u):=by
 induction N using Nat.strongRecOn
 rename_i N ih
 intro w0 M Γ v usv hN hv hok hsz
 have hik:=hok.kind
 have hin:=hok.n
 have hks:=kids_le_size v
 have hil : InI (v.kids.length : Int):=by unfold InI;omega
 have hl1:=encI_len hik
 have hl2:=encI_len hin
 have hl3:=encI_len hil
 refine CallOk.kn hv fun hv=>?_
 rw [Val.enc_eq] at hv
 refine enter (f:=7) Tryd.func7 rfl Tryd.ntmps7 rfl rfl fun w1 hw1=>?_
 refine CW.addRds hv ?_
 refine CW.seq fun K1 hK1=>?_
 refine CW.region ?_
 refine RL.box _ rfl rfl rfl fun b1=>?_
 refine RL.q (Y.assign rfl) rfl ?_
 refine RL.nil ?_
 refine hK1 _ _ _ ?_
 refine CW.kp [1] rfl ?_
 refine CW.seq fun K2 hK2=>?_
 refine CW.regionH mix _ _ (fun _ hw=>hw) ?_
 refine HL.take 0 rfl KR KR KR rfl (Y.field rfl field44_0) rfl ?_
 first | refine HL.take 1 rfl KR KR KR rfl (Y.loadOwnV rfl MM MM Q3 flat3) rfl ?_ | refine HL.take 1 rfl KR KR KR rfl (Y.loadOwn rfl MM Q3 flat3) rfl ?_ | refine HL.loadOwnSl 1 rfl KR KR KR rfl rfl MM MM Q3 flat3 rfl fun a7 c7 hu7 hc7 hl7=>?_
 refine HL.take 3 rfl KR KR KR rfl (Y.field rfl field44_1) rfl ?_
 first | refine HL.take 4 rfl KR KR KR rfl (Y.loadOwnV rfl MM MM Q3 flat3) rfl ?_ | refine HL.take 4 rfl KR KR KR rfl (Y.loadOwn rfl MM Q3 flat3) rfl ?_ | refine HL.loadOwnSl 4 rfl KR KR KR rfl rfl MM MM Q3 flat3 rfl fun a10 c10 hu10 hc10 hl10=>?_
 refine HL.take 6 rfl KR KR KR rfl (Y.field rfl field44_2) rfl ?_
 first | refine HL.take 7 rfl KR KR KR rfl (Y.loadOwnV rfl MM MM Q3 flat42) rfl ?_ | refine HL.take 7 rfl KR KR KR rfl (Y.loadOwn rfl MM Q3 flat42) rfl ?_ | refine HL.loadOwnSl 7 rfl KR KR KR rfl rfl MM MM Q3 flat42 rfl fun a13 c13 hu13 hc13 hl13=>?_
 refine HL.take 8 rfl KR KR KR rfl (Y.len rfl Tryd.underlying42) rfl ?_
 refine HL.step 2 rfl KR ?_
 refine RL.call rfl func22 rfl rfl (by exact int_ok _ _ _ _ AO) ?_
 rintro v8 M8 _ ⟨hs8,rfl,hr8⟩
 obtain ⟨a8,c8,rfl,hc8,hlim8,hln8⟩:=hr8.slice
 refine RL.addRd hr8 ?_
 refine RL.nil ⟨keep_more (hs8) SB,?_⟩
 refine HL.step 5 rfl KR ?_
 refine RL.call rfl func22 rfl rfl (by exact int_ok _ _ _ _ AO) ?_
 rintro v11 M11 _ ⟨hs11,rfl,hr11⟩
 obtain ⟨a11,c11,rfl,hc11,hlim11,hln11⟩:=hr11.slice
 refine RL.addRd hr11 ?_
 refine RL.nil ⟨keep_more (hs8.trans (hs11)) SB,?_⟩
 refine HL.step 9 rfl KR ?_
 refine RL.call rfl func22 rfl rfl (by exact int_ok _ _ _ _ AO) ?_
 rintro v15 M15 _ ⟨hs15,rfl,hr15⟩
 obtain ⟨a15,c15,rfl,hc15,hlim15,hln15⟩:=hr15.slice
 refine RL.addRd hr15 ?_
 refine RL.nil ⟨keep_more (hs8.trans (hs11.trans (hs15))) SB,?_⟩
 refine HL.step 10 rfl KR ?_
 refine RL.buildSlice [.slice a8 (encI v.kind).length c8,.slice a11 (encI v.n).length c11,.slice a15 (encI (v.kids.length : Int)).length c15] elem100 rfl Q1 (fill3 (out:=[.slice a8 (encI v.kind).length c8]) (out':=[.slice a11 (encI v.n).length c11]) (out'':=[.slice a15 (encI (v.kids.length : Int)).length c15]) rfl rfl rfl rfl rfl rfl) rfl fun b16=>?_
 refine RL.nil ⟨keep_more (hs8.trans (hs11.trans (hs15))) SB,?_⟩
 refine HL.step 11 rfl KR ?_
 refine RL.call rfl func21 rfl rfl (by exact concat_ok _ _ _ _ [.slice a8 (encI v.kind).length c8,.slice a11 (encI v.n).length c11,.slice a15 (encI (v.kids.length : Int)).length c15] [encI v.kind,encI v.n,encI (v.kids.length : Int)] (headB v).length (by simp only [headB,List.flatten_cons,List.flatten_nil,List.length_append,List.append_nil];omega) (CellsK.own MM) (RdL.cons (Rd.mono (hs11.trans hs15) _ _ hr8) (RdL.cons (Rd.mono hs15 _ _ hr11) (RdL.cons hr15 (RdL.nil _)))) Q2 Qc) ?_
 rintro v17 M15 _ ⟨a17,c17,rfl,hc17,rfl,rfl⟩
 rw [show [encI v.kind,encI v.n,encI (v.kids.length : Int)].flatten = headB v from by simp [headB]]
 refine RL.nil ⟨keep_more (hs8.trans (hs11.trans (hs15))) SB,?_⟩
 refine HL.take 12 rfl KR KR KR rfl (Y.assign rfl) rfl ?_
 refine HL.done KR ?_
 refine hK2 _ _ _ ?_
 refine CW.kp [1,3] rfl ?_
 refine CW.seq fun K3 hK3=>?_
 refine CW.seq fun K4 hK4=>?_
 refine CW.region ?_
 refine RL.q (Y.field rfl field44_2) rfl ?_
 first | refine RL.q (Y.loadOwnV rfl MM MM Q3 flat42) rfl ?_ | refine RL.q (Y.loadOwn rfl MM Q3 flat42) rfl ?_ | refine RL.loadOwnSl rfl rfl MM MM Q3 flat42 rfl fun a19 c19 hu19 hc19 hl19=>?_
 refine RL.q (Y.len rfl Tryd.underlying42) rfl ?_
 refine RL.q (Y.move rfl) rfl ?_
 refine RL.nil ?_
 refine hK4 _ _ _ ?_
 refine CW.kp [3,19,20,21] rfl ?_
 refine CW.block ?_
 -- LOOP 1: live [3,19,20,21] changed [3,21]
 refine CW.kp [3,21,19,20] rfl ?_
 refine CW.front (x:=.acc (.slice a17 (headB v).length c17) 5 1 (headB v).length (byteV (headB v))) PK ?_
 refine CW.loopF (fun m Lc M1 Γc=>∃ (k : Nat) (ua : Option Addr) (ca : Nat),m = v.kids.length - k/\k<=v.kids.length/\Lc = [(3,.slice ua (headB v++encVs (v.kids.take k)).length ca),(21,vint k)]/\Γc = [.acc (.slice ua (headB v++encVs (v.kids.take k)).length ca) 5 1 (headB v++encVs (v.kids.take k)).length (byteV (headB v++encVs (v.kids.take k)))]) v.kids.length [(3,_),(21,_)] [_] rfl rfl ⟨0,a17,c17,rfl,Nat.zero_le _,by simp [encVs],by simp [encVs]⟩ ?_
 rintro m Lc M1 Γc hs ⟨k,ua,ca,rfl,hk,rfl,rfl⟩
 refine CW.seq fun K5 hK5=>?_
 refine CW.region ?_
 refine RL.q (Y.lss rfl rfl) rfl ?_
 refine RL.nil ?_
 refine hK5 _ _ _ ?_
 refine CW.kp [3,19,20,21,22] rfl ?_
 refine CW.seq fun K6 hK6=>?_
 refine CW.ite rfl (fun h1=>?_) (fun h1=>?_)
 ·have hka : k < v.kids.length:=Q0
  have hb1:=encB_le hok hsz (k+1)
  rw [encVs_succ _ _ hka,<-List.append_assoc,List.length_append] at hb1
  refine CW.skip ?_
  refine hK6 _ _ _ ?_
  refine CW.seq fun K7 hK7=>?_
  refine CW.block ?_
  refine CW.seq fun K8 hK8=>?_
  refine CW.region ?_
  refine RL.q (Y.index _ rfl rfl rfl AO slice42 SM) rfl ?_
  refine RL.loadAgg rfl rfl MM (Eq.trans (flat_take Val.enc_len _ _ _ (List.getElem?_eq_getElem AO)) (Val.enc_eq _)) Q3 agg44 rfl fun us24 hul24 hur24=>?_
  refine RL.alloc _ zero44 rfl rfl fun b5=>?_
  first | refine RL.storeRds 3 rfl rfl RP MM EL Q7 size44 ?_ | refine RL.storeAgg _ rfl rfl RP Q3 Q5 Q6 size44 ?_
  refine RL.nil ?_
  refine hK8 _ _ _ ?_
  refine CW.kp [3,5,19,20,21] rfl ?_
  refine CW.region ?_
  refine RL.q (Y.move rfl) rfl ?_
  first | refine RL.q (Y.loadAllR rfl MM MM EL agg44) rfl ?_ | refine RL.q (Y.loadAll rfl MM Q3 agg44) rfl ?_ | refine RL.loadPart rfl rfl MM MM Q3 Q3 agg44 rfl fun us26 hul26 hur26=>?_
  refine RL.call rfl func7 rfl rfl (by exact ih _ (by rw [<-hN];exact Val.size_kid (List.getElem_mem hka)) _ _ _ v.kids[k] _ rfl (by first | exact Kn.val MM | fail) (hok.kid (List.getElem_mem hka)) (by have:=Val.size_kid (List.getElem_mem hka);omega)) ?_
  rintro v27 M27 _ ⟨hs27,rfl,hr27⟩
  obtain ⟨a27,c27,rfl,hc27,hlim27,hln27⟩:=hr27.slice
  refine RL.addRd hr27 ?_
  refine RL.appendRd elem23 rfl rfl PK MM OM (by unfold lim;omega) rfl fun a28 c28 n28 hc28 hn28=>?_
  refine RL.q (Y.assign rfl) rfl ?_
  refine RL.nil ?_
  refine hK7 _ _ _ ?_
  refine CW.kp [3,19,20,21] rfl ?_
  refine CW.region ?_
  refine RL.q (Y.add rfl rfl OM) rfl ?_
  refine RL.q (Y.move rfl) rfl ?_
  refine RL.nil ?_
  have e28 : (headB v++encVs (v.kids.take (k+1))).length = (headB v++encVs (v.kids.take k)).length+(encV v.kids[k]).length:=by rw [encVs_succ _ _ hka,<-List.append_assoc,List.length_append]
  refine ⟨v.kids.length - (k+1),[(3,_),(21,_)],?_,(KP [3,21,19,20]),?_⟩
  · omega
  · refine Turn.drop (Γ':=[.acc (.slice a28 ((headB v++encVs (v.kids.take k)).length+(encV v.kids[k]).length) c28) 5 1 ((headB v++encVs (v.kids.take k)).length+(encV v.kids[k]).length) (byteV (headB v++encVs (v.kids.take k))++n28)]++_) ⟨_,rfl,hs.trans hs27,k+1,a28,c28,rfl,Q0,by rw [e28] <;> rfl,?_⟩ SB
    rw [e28,encVs_succ _ _ hka,<-List.append_assoc,bytes_of_rd hn28]
    simp [byteV]
 refine CW.exit ?_
 refine hK3 _ _ _ ?_
 refine CW.seq fun K9 hK9=>?_
 refine CW.region ?_
 refine RL.q (Y.move rfl) rfl ?_
 refine RL.q (Y.assign rfl) rfl ?_
 refine RL.nil ?_
 refine hK9 _ _ _ ?_
 refine CW.kp [2] rfl ?_
 refine CW.ret ?_
 obtain rfl : k = v.kids.length:=Q0
 have hb1:=encB_le hok hsz v.kids.length
 have e : headB v++encVs (v.kids.take v.kids.length) = encV v:=by rw [List.take_length,encV_head]
 rw [e] at hb1 ⊢
 exact ⟨_,rfl,Turn.sealAcc (ds:=(encV v).map dbyte) PK (bytes_rd _) (by unfold lim;omega) SB fun M2 hs3 hr2=>⟨hs8.trans (hs11.trans (hs15.trans (hs.trans hs3))),rfl,hr2⟩⟩
theorem getI_ok (w0 : World) (M : Mem) (Γ : List As) (b : List Nat) (ub : Value)  (hb : Kn w0 M Γ (Rd M (dbytes b) ub)) (h256 : ∀ x∈b,x < 256) :
   CallOk Tryd.prog w0 M Γ 24 #[ub] (Is M Γ (.tuple #[vint (getI b).1,vint (getI b).2.1,vint (getI b).2.2])):=by
 refine CallOk.kn hb fun hb=>?_
 obtain ⟨ab,cb,rfl,hcb,hlimb,hlenb⟩:=hb.slice
 refine enter3 (f:=24) Tryd.func24 rfl Tryd.ntmps24 rfl rfl fun w1 hw1=>?_
 refine CW.addRd hb ?_
 refine CW.seq fun K1 hK1=>?_
 refine CW.region ?_
 refine RL.q (Y.assign rfl) rfl ?_
 refine RL.q (Y.assign rfl) rfl ?_
 refine RL.q (Y.assign rfl) rfl ?_
 refine RL.nil ?_
 refine hK1 _ _ _ ?_
 refine CW.kp [0] rfl ?_
 refine CW.seq fun K2 hK2=>?_
 refine CW.seq fun K3 hK3=>?_
 refine CW.region ?_
 refine RL.q (Y.move rfl) rfl ?_
 refine RL.q (Y.len rfl Tryd.underlying23) rfl ?_
 refine RL.q (Y.eql rfl rfl) rfl ?_
 refine RL.nil ?_
 refine hK3 _ _ _ ?_
 refine CW.kp [0,12] rfl ?_
 refine CW.ite rfl (fun h1=>?_) (fun h1=>?_)
 ·refine CW.seq fun K4 hK4=>?_
  refine CW.region ?_
  refine RL.q (Y.assign rfl) rfl ?_
  refine RL.q (Y.assign rfl) rfl ?_
  refine RL.q (Y.assign rfl) rfl ?_
  refine RL.nil ?_
  refine hK4 _ _ _ ?_
  refine CW.kp [2,3,4] rfl ?_
  refine CW.ret ?_
  obtain rfl : b = []:=List.eq_nil_of_length_eq_zero OM
  exact ⟨_,_,_,rfl,rfl,rfl,Turn.drop ⟨rfl,rfl,rfl⟩ SB⟩
 obtain ⟨h0,t,rfl⟩ : ∃ h t,b = h::t:=by
   cases b with
   | nil=>simp at h1
   | cons x xs=>exact ⟨x,xs,rfl⟩
 have hh0:=h256 h0 (List.mem_cons_self ..)
 have hfl:=flip8_lt (f:=flipOf h0) hh0
 have hkg:=kOf_ge hh0
 have hln : (h0::t).length = t.length+1:=rfl
 refine CW.skip ?_
 refine hK2 _ _ _ ?_
 refine CW.seq fun K5 hK5=>?_
 refine CW.region ?_
 refine RL.q (v:=vbyte 0) (Y.assign rfl) rfl ?_
 refine RL.nil ?_
 refine hK5 _ _ _ ?_
 refine CW.kp [0,5] rfl ?_
 refine CW.seq fun K6 hK6=>?_
 refine CW.seq fun K7 hK7=>?_
 refine CW.region ?_
 refine RL.q (Y.move rfl) rfl ?_
 refine RL.q (Y.index 0 rfl rfl rfl AO slice23 SM) rfl ?_
 refine RL.q (Y.loadRd (v:=vbyte h0) rfl MM rfl flat5) rfl ?_
 refine RL.q (Y.lssK rfl rfl) rfl ?_
 refine RL.nil ?_
 refine hK7 _ _ _ ?_
 refine CW.kp [0,5,16] rfl ?_
 refine CW.ite rfl (fun h2=>?_) (fun h2=>?_)
 ·refine CW.region ?_
  refine RL.q (v:=vbyte 255) (Y.assign rfl) rfl ?_
  refine RL.nil ?_
  refine hK6 _ _ _ ?_
  refine CW.kp [0,5] rfl ?_
  refine CW.keep (L':=[(0,.slice ab (h0::t).length cb),(5,vbyte (flipOf h0))]) (Keep.cons 0 rfl (Keep.cons 5 (by rw [show flipOf h0 = 255 from if_pos OM];rfl) (Keep.nil _))) ?_
  refine CW.seq fun K8 hK8=>?_
  refine CW.region ?_
  refine RL.q (Y.move rfl) rfl ?_
  refine RL.q (Y.index 0 rfl rfl rfl AO slice23 SM) rfl ?_
  refine RL.q (Y.loadRd (v:=vbyte h0) rfl MM rfl flat5) rfl ?_
  refine RL.q (Y.move rfl) rfl ?_
  refine RL.q (Y.xor8 rfl rfl hh0 (flipOf_or h0)) rfl ?_
  refine RL.q (Y.convTo (r:=((flip8 (flipOf h0) h0 : Nat) : Int)) KR KR rfl (Y.wrap_in ⟨Q0,Q0⟩)) rfl ?_
  refine RL.q (Y.sub rfl rfl OM) rfl ?_
  refine RL.q (Y.assign rfl) rfl ?_
  refine RL.nil ?_
  refine hK8 _ _ _ ?_
  refine CW.kp [0,5,6] rfl ?_
  rw [show ((flip8 (flipOf h0) h0 : Nat) : Int) - 128 = ((kOf h0 : Nat) : Int) from by unfold kOf;omega]
  refine CW.seq fun K9 hK9=>?_
  refine CW.block ?_
  refine CW.seq fun K10 hK10=>?_
  refine CW.region ?_
  refine RL.q (Y.move rfl) rfl ?_
  refine RL.q (Y.gtr rfl rfl) rfl ?_
  refine RL.q (Y.assign rfl) rfl ?_
  refine RL.nil ?_
  refine hK10 _ _ _ ?_
  refine CW.kp [0,5,6,24] rfl ?_
  refine CW.ite rfl (fun h3=>?_) (fun h3=>?_)
  ·refine CW.seq fun K11 hK11=>?_
   refine CW.region ?_
   refine RL.q (Y.assign rfl) rfl ?_
   refine RL.q (Y.assign rfl) rfl ?_
   refine RL.q (Y.assign rfl) rfl ?_
   refine RL.nil ?_
   refine hK11 _ _ _ ?_
   refine CW.kp [2,3,4] rfl ?_
   refine CW.ret ?_
   have e : getI (h0::t) = (0,0,2):=by rw [getI,if_pos OM]
   rw [e]
   exact ⟨_,_,_,rfl,rfl,rfl,Turn.drop ⟨rfl,rfl,rfl⟩ SB⟩
  refine CW.seq fun K12 hK12=>?_
  refine CW.region ?_
  refine RL.q (Y.move rfl) rfl ?_
  refine RL.q (Y.len rfl Tryd.underlying23) rfl ?_
  refine RL.q (Y.move rfl) rfl ?_
  refine RL.q (Y.leq rfl rfl) rfl ?_
  refine RL.q (Y.assign rfl) rfl ?_
  refine RL.nil ?_
  refine hK12 _ _ _ ?_
  refine CW.kp [0,5,6,27] rfl ?_
  refine CW.ite rfl (fun h4=>?_) (fun h4=>?_)
  ·refine CW.seq fun K13 hK13=>?_
   refine CW.region ?_
   refine RL.q (Y.assign rfl) rfl ?_
   refine RL.q (Y.assign rfl) rfl ?_
   refine RL.q (Y.assign rfl) rfl ?_
   refine RL.nil ?_
   refine hK13 _ _ _ ?_
   refine CW.kp [2,3,4] rfl ?_
   refine CW.ret ?_
   have e : getI (h0::t) = (0,0,3):=by rw [getI,if_neg OM,if_pos OM]
   rw [e]
   exact ⟨_,_,_,rfl,rfl,rfl,Turn.drop ⟨rfl,rfl,rfl⟩ SB⟩
  have hkt : kOf h0<=t.length:=Q0
  refine CW.seq fun K14 hK14=>?_
  have hh1 : 0 < kOf h0->((h0::t).map dbyte)[1 * 1]? = some (dbyte (t.headD 0))/\t.headD 0 < 256:=by
    intro hp
    cases t with
    | nil=>simp at hkt;omega
    | cons x xs=>exact ⟨rfl,h256 x (List.mem_cons_of_mem _ (List.mem_cons_self ..))⟩
  refine CW.region ?_
  refine RL.q (Y.move rfl) rfl ?_
  refine RL.qs (Y.gtr rfl rfl) rfl (fun g34=>?_) (fun g34=>?_)
  ·refine RL.q (Y.move rfl) rfl ?_
   refine RL.qg WG (Y.move rfl) rfl ?_
   refine RL.qg WG (Y.index 1 rfl rfl rfl OM slice23 (fun _ hw=>hw.rd_some MM OM)) rfl ?_
   refine RL.qg WG (Y.loadRd (v:=vbyte (t.headD 0)) rfl MM (hh1 OM).1 flat5) rfl ?_
   refine RL.qg WG (Y.move rfl) rfl ?_
   refine RL.qg WG (Y.xor8 rfl rfl (hh1 OM).2 (flipOf_or h0)) rfl ?_
   refine RL.qg WG (Y.eqlK rfl rfl) rfl ?_
   refine RL.q (Y.pickT rfl rfl) rfl ?_
   refine RL.q (Y.assign rfl) rfl ?_
   refine RL.nil ?_
   refine hK14 _ _ _ ?_
   refine CW.kp [0,5,6,32] rfl ?_
   refine CW.ite rfl (fun h5=>?_) (fun h5=>?_)
   ·refine CW.seq fun K15 hK15=>?_
    refine CW.region ?_
    refine RL.q (Y.assign rfl) rfl ?_
    refine RL.q (Y.assign rfl) rfl ?_
    refine RL.q (Y.assign rfl) rfl ?_
    refine RL.nil ?_
    refine hK15 _ _ _ ?_
    refine CW.kp [2,3,4] rfl ?_
    refine CW.ret ?_
    have e : getI (h0::t) = (0,0,2):=by rw [getI,if_neg OM,if_neg OM,if_pos ⟨Q0,Q0⟩]
    rw [e]
    exact ⟨_,_,_,rfl,rfl,rfl,Turn.drop ⟨rfl,rfl,rfl⟩ SB⟩
   refine CW.skip ?_
   refine hK9 _ _ _ ?_
   refine CW.seq fun K16 hK16=>?_
   refine CW.region ?_
   refine RL.q (v:=vword (wordOf (flipOf h0) [])) (Y.assign rfl) rfl ?_
   refine RL.nil ?_
   refine hK16 _ _ _ ?_
   refine CW.kp [0,5,6,7] rfl ?_
   refine CW.seq fun K17 hK17=>?_
   refine CW.seq fun K18 hK18=>?_
   have hcut : Rd M (dbytes (t.take (kOf h0))) (cutV ab 1 (kOf h0+1) cb 1):=by
     have h:=Rd.cut hb 1 (kOf h0+1) cb OM OM (Nat.le_refl _) OM
     have hl : (t.take (kOf h0)).length = kOf h0:=by rw [List.length_take];omega
     rw [dbytes,hl,List.map_take]
     simpa using h
   refine CW.region ?_
   refine RL.q (Y.move rfl) rfl ?_
   refine RL.q (Y.move rfl) rfl ?_
   refine RL.q (Y.add rfl rfl OM) rfl ?_
   refine RL.q (Y.slice 1 (kOf h0+1) cb rfl ⟨1,rfl,rfl⟩ ⟨_,rfl,Q0⟩ rfl Q2 OM OM OM slice23) rfl ?_
   have hk8 : kOf h0<=8:=Q0
   have hLk : (t.take (kOf h0)).length = kOf h0:=by rw [List.length_take];omega
   have hL256 : ∀ c∈t.take (kOf h0),c < 256:=fun c hc=>h256 c (List.mem_cons_of_mem _ (List.mem_of_mem_take hc))
   have hget : getI (h0::t) = if 9223372036854775808<=wordOf (flipOf h0) (t.take (kOf h0)) then (0,0,2) else (if h0 < 128 then -1 - (wordOf (flipOf h0) (t.take (kOf h0)) : Int) else (wordOf (flipOf h0) (t.take (kOf h0)) : Int),(kOf h0 : Int)+1,0):=by
     rw [getI,if_neg OM,if_neg OM,if_neg (fun h=>by first | omega | (have:=h.1;omega) | (have:=h.2;omega))]
   obtain ⟨L,hL⟩ : ∃ L,L = t.take (kOf h0):=⟨_,rfl⟩
   rw [<-hL] at hcut hLk hL256 hget
   obtain ⟨a46,c46,hu46,hc46,hl46,_⟩:=hcut.slice
   rw [hu46] at hcut ⊢
   refine RL.addRd hcut ?_
   refine RL.q (Y.len rfl Tryd.underlying23) rfl ?_
   refine RL.q (Y.move rfl) rfl ?_
   refine RL.nil ?_
   refine hK18 _ _ _ ?_
   refine CW.kp [5,6,7,46,47,48] rfl ?_
   refine CW.block ?_
   -- LOOP 1: live [5,6,7,46,47,48] changed [7,48]
   refine CW.kp [7,48,5,6,46,47] rfl ?_
   refine CW.loopF (fun m Lc M1 Γc=>∃ k : Nat,m = L.length - k/\k<=L.length/\Lc = [(7,vword (wordOf (flipOf h0) (L.take k))),(48,vint k)]/\Γc = []/\M1 = M) (L.length) [(7,_),(48,_)] _ rfl rfl ⟨0,rfl,Nat.zero_le _,rfl,rfl,rfl⟩ ?_
   rintro m Lc M Γc hs ⟨k,rfl,hk,rfl,rfl,rfl⟩
   refine CW.seq fun K19 hK19=>?_
   refine CW.region ?_
   refine RL.q (Y.lss rfl rfl) rfl ?_
   refine RL.nil ?_
   refine hK19 _ _ _ ?_
   refine CW.kp [5,6,7,46,47,48,49] rfl ?_
   refine CW.seq fun K20 hK20=>?_
   refine CW.ite rfl (fun h6=>?_) (fun h6=>?_)
   ·have hka : k < L.length:=Q0
    have hck:=hL256 _ (List.getElem_mem hka)
    have hfk:=flip8_lt (f:=flipOf h0) hck
    have hwk : wordOf (flipOf h0) (L.take k) < 72057594037927936:=by
      have h:=wordOf_lt (flipOf h0) (L.take k) fun c hc=>hL256 c (List.mem_of_mem_take hc)
      refine Nat.lt_of_lt_of_le h ?_
      rw [show (72057594037927936 : Nat) = 256 ^ 7 from rfl]
      exact Nat.pow_le_pow_right OM (by rw [List.length_take];omega)
    refine CW.skip ?_
    refine hK20 _ _ _ ?_
    refine CW.seq fun K21 hK21=>?_
    refine CW.block ?_
    refine CW.seq fun K22 hK22=>?_
    refine CW.region ?_
    refine RL.q (Y.index _ rfl rfl rfl AO slice23 SM) rfl ?_
    first | refine RL.q (Y.loadRd rfl MM (dbyte_get (List.getElem?_eq_getElem AO)) flat5) rfl ?_ | refine RL.loadSl rfl rfl MM (dbyte_get (List.getElem?_eq_getElem AO)) flat5 rfl fun a51 c51 hc51 hl51=>?_
    refine RL.q (Y.assign rfl) rfl ?_
    refine RL.nil ?_
    refine hK22 _ _ _ ?_
    refine CW.kp [5,6,7,9,46,47,48] rfl ?_
    refine CW.region ?_
    refine RL.q (Y.move rfl) rfl ?_
    refine RL.q (Y.shl8 rfl rfl) rfl ?_
    refine RL.q (Y.move rfl) rfl ?_
    refine RL.q (Y.move rfl) rfl ?_
    refine RL.q (Y.xor8 rfl rfl hck (flipOf_or h0)) rfl ?_
    refine RL.q (Y.convTo (r:=((flip8 (flipOf h0) L[k] : Nat) : Int)) KR KR rfl (by rw [wrap_u64'];omega)) rfl ?_
    refine RL.q (Y.or8 rfl rfl OM OM hfk) rfl ?_
    refine RL.q (Y.assign rfl) rfl ?_
    refine RL.nil ?_
    refine hK21 _ _ _ ?_
    refine CW.kp [5,6,7,46,47,48] rfl ?_
    refine CW.region ?_
    refine RL.q (Y.add rfl rfl OM) rfl ?_
    refine RL.q (Y.move rfl) rfl ?_
    refine RL.nil ?_
    refine ⟨L.length - (k+1),[(7,_),(48,_)],?_,(KP [7,48,5,6,46,47]),?_⟩
    · omega
    · exact Turn.drop ⟨[],rfl,hs,k+1,rfl,Q0,by rw [List.take_succ_eq_append_getElem hka,wordOf_snoc,Nat.mod_eq_of_lt OM] <;> rfl,rfl,rfl⟩ SB
   refine CW.exit ?_
   refine hK17 _ _ _ ?_
   refine CW.seq fun K23 hK23=>?_
   refine CW.seq fun K24 hK24=>?_
   obtain rfl : k = L.length:=Q0
   rw [List.take_length]
   have hwl:=wordOf_lt (flipOf h0) L hL256
   have hwl2 : wordOf (flipOf h0) L < 18446744073709551616:=Nat.lt_of_lt_of_le hwl (by rw [hLk];exact Nat.pow_le_pow_right (n:=256) OM hk8)
   refine CW.region ?_
   refine RL.q (Y.move rfl) rfl ?_
   refine RL.q (Y.shrN 63 rfl rfl rfl OM) rfl ?_
   refine RL.q (Y.gtrK rfl rfl) rfl ?_
   refine RL.nil ?_
   refine hK24 _ _ _ ?_
   refine CW.kp [5,6,7,62] rfl ?_
   refine CW.ite rfl (fun h7=>?_) (fun h7=>?_)
   ·refine CW.seq fun K25 hK25=>?_
    refine CW.region ?_
    refine RL.q (Y.assign rfl) rfl ?_
    refine RL.q (Y.assign rfl) rfl ?_
    refine RL.q (Y.assign rfl) rfl ?_
    refine RL.nil ?_
    refine hK25 _ _ _ ?_
    refine CW.kp [2,3,4] rfl ?_
    refine CW.ret ?_
    have e : getI (h0::t) = (0,0,2):=by rw [hget,if_pos OM]
    rw [e]
    exact ⟨_,_,_,rfl,rfl,rfl,Turn.drop ⟨rfl,rfl,rfl⟩ SB⟩
   refine CW.skip ?_
   refine hK23 _ _ _ ?_
   refine CW.seq fun K26 hK26=>?_
   refine CW.seq fun K27 hK27=>?_
   refine CW.region ?_
   refine RL.q (Y.move rfl) rfl ?_
   refine RL.q (Y.gtrK rfl rfl) rfl ?_
   refine RL.nil ?_
   refine hK27 _ _ _ ?_
   refine CW.kp [6,7,64] rfl ?_
   refine CW.ite rfl (fun h8=>?_) (fun h8=>?_)
   ·refine CW.region ?_
    refine RL.q (Y.move rfl) rfl ?_
    refine RL.q (Y.not64 rfl hwl2) rfl ?_
    refine RL.q (Y.assign rfl) rfl ?_
    refine RL.nil ?_
    refine hK26 _ _ _ ?_
    refine CW.kp [6,7] rfl ?_
    refine CW.seq fun K28 hK28=>?_
    refine CW.region ?_
    refine RL.q (Y.move rfl) rfl ?_
    refine RL.q (Y.convTo (r:=(if (0 : Int) < (flipOf h0 : Int) then -1 - ((wordOf (flipOf h0) L) : Int) else ((wordOf (flipOf h0) L) : Int))) KR KR rfl (by first | (show Xe.w64 _ = _;rw [if_pos h8,w64_eq];omega) | (show Xe.w64 _ = _;rw [if_neg h8,w64_eq];omega))) rfl ?_
    refine RL.q (Y.move rfl) rfl ?_
    refine RL.q (Y.add rfl rfl OM) rfl ?_
    refine RL.q (Y.assign rfl) rfl ?_
    refine RL.q (Y.assign rfl) rfl ?_
    refine RL.q (Y.assign rfl) rfl ?_
    refine RL.nil ?_
    refine hK28 _ _ _ ?_
    refine CW.kp [2,3,4] rfl ?_
    refine CW.ret ?_
    have hlt : ¬ 9223372036854775808<=wordOf (flipOf h0) L:=Q0
    rw [hget,if_neg hlt]
    rw [show (if h0 < 128 then -1 - (wordOf (flipOf h0) L : Int) else (wordOf (flipOf h0) L : Int)) = (if (0 : Int) < (flipOf h0 : Int) then -1 - (wordOf (flipOf h0) L : Int) else (wordOf (flipOf h0) L : Int)) from by simp only [flipOf_pos]]
    exact ⟨_,_,_,rfl,rfl,rfl,Turn.drop ⟨rfl,rfl,rfl⟩ SB⟩
   refine CW.skip ?_
   refine hK26 _ _ _ ?_
   refine CW.seq fun K29 hK29=>?_
   refine CW.region ?_
   refine RL.q (Y.move rfl) rfl ?_
   refine RL.q (Y.convTo (r:=(if (0 : Int) < (flipOf h0 : Int) then -1 - ((wordOf (flipOf h0) L) : Int) else ((wordOf (flipOf h0) L) : Int))) KR KR rfl (by first | (show Xe.w64 _ = _;rw [if_pos h8,w64_eq];omega) | (show Xe.w64 _ = _;rw [if_neg h8,w64_eq];omega))) rfl ?_
   refine RL.q (Y.move rfl) rfl ?_
   refine RL.q (Y.add rfl rfl OM) rfl ?_
   refine RL.q (Y.assign rfl) rfl ?_
   refine RL.q (Y.assign rfl) rfl ?_
   refine RL.q (Y.assign rfl) rfl ?_
   refine RL.nil ?_
   refine hK29 _ _ _ ?_
   refine CW.kp [2,3,4] rfl ?_
   refine CW.ret ?_
   have hlt : ¬ 9223372036854775808<=wordOf (flipOf h0) L:=Q0
   rw [hget,if_neg hlt]
   rw [show (if h0 < 128 then -1 - (wordOf (flipOf h0) L : Int) else (wordOf (flipOf h0) L : Int)) = (if (0 : Int) < (flipOf h0 : Int) then -1 - (wordOf (flipOf h0) L : Int) else (wordOf (flipOf h0) L : Int)) from by simp only [flipOf_pos]]
   exact ⟨_,_,_,rfl,rfl,rfl,Turn.drop ⟨rfl,rfl,rfl⟩ SB⟩
  refine RL.q (Y.move rfl) rfl ?_
  refine RL.no WG rfl ?_
  refine RL.no WG rfl ?_
  refine RL.no WG rfl ?_
  refine RL.no WG rfl ?_
  refine RL.no WG rfl ?_
  refine RL.no WG rfl ?_
  refine RL.q (Y.pickF rfl rfl) rfl ?_
  refine RL.q (Y.assign rfl) rfl ?_
  refine RL.nil ?_
  refine hK14 _ _ _ ?_
  refine CW.kp [0,5,6,32] rfl ?_
  refine CW.no rfl ?_
  refine CW.skip ?_
  refine hK9 _ _ _ ?_
  refine CW.seq fun K30 hK30=>?_
  refine CW.region ?_
  refine RL.q (v:=vword (wordOf (flipOf h0) [])) (Y.assign rfl) rfl ?_
  refine RL.nil ?_
  refine hK30 _ _ _ ?_
  refine CW.kp [0,5,6,7] rfl ?_
  refine CW.seq fun K31 hK31=>?_
  refine CW.seq fun K32 hK32=>?_
  have hcut : Rd M (dbytes (t.take (kOf h0))) (cutV ab 1 (kOf h0+1) cb 1):=by
    have h:=Rd.cut hb 1 (kOf h0+1) cb OM OM (Nat.le_refl _) OM
    have hl : (t.take (kOf h0)).length = kOf h0:=by rw [List.length_take];omega
    rw [dbytes,hl,List.map_take]
    simpa using h
  refine CW.region ?_
  refine RL.q (Y.move rfl) rfl ?_
  refine RL.q (Y.move rfl) rfl ?_
  refine RL.q (Y.add rfl rfl OM) rfl ?_
  refine RL.q (Y.slice 1 (kOf h0+1) cb rfl ⟨1,rfl,rfl⟩ ⟨_,rfl,Q0⟩ rfl Q2 OM OM OM slice23) rfl ?_
  have hk8 : kOf h0<=8:=Q0
  have hLk : (t.take (kOf h0)).length = kOf h0:=by rw [List.length_take];omega
  have hL256 : ∀ c∈t.take (kOf h0),c < 256:=fun c hc=>h256 c (List.mem_cons_of_mem _ (List.mem_of_mem_take hc))
  have hget : getI (h0::t) = if 9223372036854775808<=wordOf (flipOf h0) (t.take (kOf h0)) then (0,0,2) else (if h0 < 128 then -1 - (wordOf (flipOf h0) (t.take (kOf h0)) : Int) else (wordOf (flipOf h0) (t.take (kOf h0)) : Int),(kOf h0 : Int)+1,0):=by
    rw [getI,if_neg OM,if_neg OM,if_neg (fun h=>by first | omega | (have:=h.1;omega) | (have:=h.2;omega))]
  obtain ⟨L,hL⟩ : ∃ L,L = t.take (kOf h0):=⟨_,rfl⟩
  rw [<-hL] at hcut hLk hL256 hget
  obtain ⟨a46,c46,hu46,hc46,hl46,_⟩:=hcut.slice
  rw [hu46] at hcut ⊢
  refine RL.addRd hcut ?_
  refine RL.q (Y.len rfl Tryd.underlying23) rfl ?_
  refine RL.q (Y.move rfl) rfl ?_
  refine RL.nil ?_
  refine hK32 _ _ _ ?_
  refine CW.kp [5,6,7,46,47,48] rfl ?_
  refine CW.block ?_
  -- LOOP 1: live [5,6,7,46,47,48] changed [7,48]
  refine CW.kp [7,48,5,6,46,47] rfl ?_
  refine CW.loopF (fun m Lc M1 Γc=>∃ k : Nat,m = L.length - k/\k<=L.length/\Lc = [(7,vword (wordOf (flipOf h0) (L.take k))),(48,vint k)]/\Γc = []/\M1 = M) (L.length) [(7,_),(48,_)] _ rfl rfl ⟨0,rfl,Nat.zero_le _,rfl,rfl,rfl⟩ ?_
  rintro m Lc M Γc hs ⟨k,rfl,hk,rfl,rfl,rfl⟩
  refine CW.seq fun K33 hK33=>?_
  refine CW.region ?_
  refine RL.q (Y.lss rfl rfl) rfl ?_
  refine RL.nil ?_
  refine hK33 _ _ _ ?_
  refine CW.kp [5,6,7,46,47,48,49] rfl ?_
  refine CW.seq fun K34 hK34=>?_
  refine CW.ite rfl (fun h6=>?_) (fun h6=>?_)
  ·have hka : k < L.length:=Q0
   have hck:=hL256 _ (List.getElem_mem hka)
   have hfk:=flip8_lt (f:=flipOf h0) hck
   have hwk : wordOf (flipOf h0) (L.take k) < 72057594037927936:=by
     have h:=wordOf_lt (flipOf h0) (L.take k) fun c hc=>hL256 c (List.mem_of_mem_take hc)
     refine Nat.lt_of_lt_of_le h ?_
     rw [show (72057594037927936 : Nat) = 256 ^ 7 from rfl]
     exact Nat.pow_le_pow_right OM (by rw [List.length_take];omega)
   refine CW.skip ?_
   refine hK34 _ _ _ ?_
   refine CW.seq fun K35 hK35=>?_
   refine CW.block ?_
   refine CW.seq fun K36 hK36=>?_
   refine CW.region ?_
   refine RL.q (Y.index _ rfl rfl rfl AO slice23 SM) rfl ?_
   first | refine RL.q (Y.loadRd rfl MM (dbyte_get (List.getElem?_eq_getElem AO)) flat5) rfl ?_ | refine RL.loadSl rfl rfl MM (dbyte_get (List.getElem?_eq_getElem AO)) flat5 rfl fun a51 c51 hc51 hl51=>?_
   refine RL.q (Y.assign rfl) rfl ?_
   refine RL.nil ?_
   refine hK36 _ _ _ ?_
   refine CW.kp [5,6,7,9,46,47,48] rfl ?_
   refine CW.region ?_
   refine RL.q (Y.move rfl) rfl ?_
   refine RL.q (Y.shl8 rfl rfl) rfl ?_
   refine RL.q (Y.move rfl) rfl ?_
   refine RL.q (Y.move rfl) rfl ?_
   refine RL.q (Y.xor8 rfl rfl hck (flipOf_or h0)) rfl ?_
   refine RL.q (Y.convTo (r:=((flip8 (flipOf h0) L[k] : Nat) : Int)) KR KR rfl (by rw [wrap_u64'];omega)) rfl ?_
   refine RL.q (Y.or8 rfl rfl OM OM hfk) rfl ?_
   refine RL.q (Y.assign rfl) rfl ?_
   refine RL.nil ?_
   refine hK35 _ _ _ ?_
   refine CW.kp [5,6,7,46,47,48] rfl ?_
   refine CW.region ?_
   refine RL.q (Y.add rfl rfl OM) rfl ?_
   refine RL.q (Y.move rfl) rfl ?_
   refine RL.nil ?_
   refine ⟨L.length - (k+1),[(7,_),(48,_)],?_,(KP [7,48,5,6,46,47]),?_⟩
   · omega
   · exact Turn.drop ⟨[],rfl,hs,k+1,rfl,Q0,by rw [List.take_succ_eq_append_getElem hka,wordOf_snoc,Nat.mod_eq_of_lt OM] <;> rfl,rfl,rfl⟩ SB
  refine CW.exit ?_
  refine hK31 _ _ _ ?_
  refine CW.seq fun K37 hK37=>?_
  refine CW.seq fun K38 hK38=>?_
  obtain rfl : k = L.length:=Q0
  rw [List.take_length]
  have hwl:=wordOf_lt (flipOf h0) L hL256
  have hwl2 : wordOf (flipOf h0) L < 18446744073709551616:=Nat.lt_of_lt_of_le hwl (by rw [hLk];exact Nat.pow_le_pow_right (n:=256) OM hk8)
  refine CW.region ?_
  refine RL.q (Y.move rfl) rfl ?_
  refine RL.q (Y.shrN 63 rfl rfl rfl OM) rfl ?_
  refine RL.q (Y.gtrK rfl rfl) rfl ?_
  refine RL.nil ?_
  refine hK38 _ _ _ ?_
  refine CW.kp [5,6,7,62] rfl ?_
  refine CW.ite rfl (fun h7=>?_) (fun h7=>?_)
  ·refine CW.seq fun K39 hK39=>?_
   refine CW.region ?_
   refine RL.q (Y.assign rfl) rfl ?_
   refine RL.q (Y.assign rfl) rfl ?_
   refine RL.q (Y.assign rfl) rfl ?_
   refine RL.nil ?_
   refine hK39 _ _ _ ?_
   refine CW.kp [2,3,4] rfl ?_
   refine CW.ret ?_
   have e : getI (h0::t) = (0,0,2):=by rw [hget,if_pos OM]
   rw [e]
   exact ⟨_,_,_,rfl,rfl,rfl,Turn.drop ⟨rfl,rfl,rfl⟩ SB⟩
  refine CW.skip ?_
  refine hK37 _ _ _ ?_
  refine CW.seq fun K40 hK40=>?_
  refine CW.seq fun K41 hK41=>?_
  refine CW.region ?_
  refine RL.q (Y.move rfl) rfl ?_
  refine RL.q (Y.gtrK rfl rfl) rfl ?_
  refine RL.nil ?_
  refine hK41 _ _ _ ?_
  refine CW.kp [6,7,64] rfl ?_
  refine CW.ite rfl (fun h8=>?_) (fun h8=>?_)
  ·refine CW.region ?_
   refine RL.q (Y.move rfl) rfl ?_
   refine RL.q (Y.not64 rfl hwl2) rfl ?_
   refine RL.q (Y.assign rfl) rfl ?_
   refine RL.nil ?_
   refine hK40 _ _ _ ?_
   refine CW.kp [6,7] rfl ?_
   refine CW.seq fun K42 hK42=>?_
   refine CW.region ?_
   refine RL.q (Y.move rfl) rfl ?_
   refine RL.q (Y.convTo (r:=(if (0 : Int) < (flipOf h0 : Int) then -1 - ((wordOf (flipOf h0) L) : Int) else ((wordOf (flipOf h0) L) : Int))) KR KR rfl (by first | (show Xe.w64 _ = _;rw [if_pos h8,w64_eq];omega) | (show Xe.w64 _ = _;rw [if_neg h8,w64_eq];omega))) rfl ?_
   refine RL.q (Y.move rfl) rfl ?_
   refine RL.q (Y.add rfl rfl OM) rfl ?_
   refine RL.q (Y.assign rfl) rfl ?_
   refine RL.q (Y.assign rfl) rfl ?_
   refine RL.q (Y.assign rfl) rfl ?_
   refine RL.nil ?_
   refine hK42 _ _ _ ?_
   refine CW.kp [2,3,4] rfl ?_
   refine CW.ret ?_
   have hlt : ¬ 9223372036854775808<=wordOf (flipOf h0) L:=Q0
   rw [hget,if_neg hlt]
   rw [show (if h0 < 128 then -1 - (wordOf (flipOf h0) L : Int) else (wordOf (flipOf h0) L : Int)) = (if (0 : Int) < (flipOf h0 : Int) then -1 - (wordOf (flipOf h0) L : Int) else (wordOf (flipOf h0) L : Int)) from by simp only [flipOf_pos]]
   exact ⟨_,_,_,rfl,rfl,rfl,Turn.drop ⟨rfl,rfl,rfl⟩ SB⟩
  refine CW.skip ?_
  refine hK40 _ _ _ ?_
  refine CW.seq fun K43 hK43=>?_
  refine CW.region ?_
  refine RL.q (Y.move rfl) rfl ?_
  refine RL.q (Y.convTo (r:=(if (0 : Int) < (flipOf h0 : Int) then -1 - ((wordOf (flipOf h0) L) : Int) else ((wordOf (flipOf h0) L) : Int))) KR KR rfl (by first | (show Xe.w64 _ = _;rw [if_pos h8,w64_eq];omega) | (show Xe.w64 _ = _;rw [if_neg h8,w64_eq];omega))) rfl ?_
  refine RL.q (Y.move rfl) rfl ?_
  refine RL.q (Y.add rfl rfl OM) rfl ?_
  refine RL.q (Y.assign rfl) rfl ?_
  refine RL.q (Y.assign rfl) rfl ?_
  refine RL.q (Y.assign rfl) rfl ?_
  refine RL.nil ?_
  refine hK43 _ _ _ ?_
  refine CW.kp [2,3,4] rfl ?_
  refine CW.ret ?_
  have hlt : ¬ 9223372036854775808<=wordOf (flipOf h0) L:=Q0
  rw [hget,if_neg hlt]
  rw [show (if h0 < 128 then -1 - (wordOf (flipOf h0) L : Int) else (wordOf (flipOf h0) L : Int)) = (if (0 : Int) < (flipOf h0 : Int) then -1 - (wordOf (flipOf h0) L : Int) else (wordOf (flipOf h0) L : Int)) from by simp only [flipOf_pos]]
  exact ⟨_,_,_,rfl,rfl,rfl,Turn.drop ⟨rfl,rfl,rfl⟩ SB⟩
 refine CW.keep (L':=[(0,.slice ab (h0::t).length cb),(5,vbyte (flipOf h0))]) (Keep.cons 0 rfl (Keep.cons 5 (by rw [show flipOf h0 = 0 from if_neg OM];rfl) (Keep.nil _))) ?_
 refine CW.skip ?_
 refine hK6 _ _ _ ?_
 refine CW.seq fun K44 hK44=>?_
 refine CW.region ?_
 refine RL.q (Y.move rfl) rfl ?_
 refine RL.q (Y.index 0 rfl rfl rfl AO slice23 SM) rfl ?_
 refine RL.q (Y.loadRd (v:=vbyte h0) rfl MM rfl flat5) rfl ?_
 refine RL.q (Y.move rfl) rfl ?_
 refine RL.q (Y.xor8 rfl rfl hh0 (flipOf_or h0)) rfl ?_
 refine RL.q (Y.convTo (r:=((flip8 (flipOf h0) h0 : Nat) : Int)) KR KR rfl (Y.wrap_in ⟨Q0,Q0⟩)) rfl ?_
 refine RL.q (Y.sub rfl rfl OM) rfl ?_
 refine RL.q (Y.assign rfl) rfl ?_
 refine RL.nil ?_
 refine hK44 _ _ _ ?_
 refine CW.kp [0,5,6] rfl ?_
 rw [show ((flip8 (flipOf h0) h0 : Nat) : Int) - 128 = ((kOf h0 : Nat) : Int) from by unfold kOf;omega]
 refine CW.seq fun K45 hK45=>?_
 refine CW.block ?_
 refine CW.seq fun K46 hK46=>?_
 refine CW.region ?_
 refine RL.q (Y.move rfl) rfl ?_
 refine RL.q (Y.gtr rfl rfl) rfl ?_
 refine RL.q (Y.assign rfl) rfl ?_
 refine RL.nil ?_
 refine hK46 _ _ _ ?_
 refine CW.kp [0,5,6,24] rfl ?_
 refine CW.ite rfl (fun h3=>?_) (fun h3=>?_)
 ·refine CW.seq fun K47 hK47=>?_
  refine CW.region ?_
  refine RL.q (Y.assign rfl) rfl ?_
  refine RL.q (Y.assign rfl) rfl ?_
  refine RL.q (Y.assign rfl) rfl ?_
  refine RL.nil ?_
  refine hK47 _ _ _ ?_
  refine CW.kp [2,3,4] rfl ?_
  refine CW.ret ?_
  have e : getI (h0::t) = (0,0,2):=by rw [getI,if_pos OM]
  rw [e]
  exact ⟨_,_,_,rfl,rfl,rfl,Turn.drop ⟨rfl,rfl,rfl⟩ SB⟩
 refine CW.seq fun K48 hK48=>?_
 refine CW.region ?_
 refine RL.q (Y.move rfl) rfl ?_
 refine RL.q (Y.len rfl Tryd.underlying23) rfl ?_
 refine RL.q (Y.move rfl) rfl ?_
 refine RL.q (Y.leq rfl rfl) rfl ?_
 refine RL.q (Y.assign rfl) rfl ?_
 refine RL.nil ?_
 refine hK48 _ _ _ ?_
 refine CW.kp [0,5,6,27] rfl ?_
 refine CW.ite rfl (fun h4=>?_) (fun h4=>?_)
 ·refine CW.seq fun K49 hK49=>?_
  refine CW.region ?_
  refine RL.q (Y.assign rfl) rfl ?_
  refine RL.q (Y.assign rfl) rfl ?_
  refine RL.q (Y.assign rfl) rfl ?_
  refine RL.nil ?_
  refine hK49 _ _ _ ?_
  refine CW.kp [2,3,4] rfl ?_
  refine CW.ret ?_
  have e : getI (h0::t) = (0,0,3):=by rw [getI,if_neg OM,if_pos OM]
  rw [e]
  exact ⟨_,_,_,rfl,rfl,rfl,Turn.drop ⟨rfl,rfl,rfl⟩ SB⟩
 have hkt : kOf h0<=t.length:=Q0
 refine CW.seq fun K50 hK50=>?_
 have hh1 : 0 < kOf h0->((h0::t).map dbyte)[1 * 1]? = some (dbyte (t.headD 0))/\t.headD 0 < 256:=by
   intro hp
   cases t with
   | nil=>simp at hkt;omega
   | cons x xs=>exact ⟨rfl,h256 x (List.mem_cons_of_mem _ (List.mem_cons_self ..))⟩
 refine CW.region ?_
 refine RL.q (Y.move rfl) rfl ?_
 refine RL.qs (Y.gtr rfl rfl) rfl (fun g34=>?_) (fun g34=>?_)
 ·refine RL.q (Y.move rfl) rfl ?_
  refine RL.qg WG (Y.move rfl) rfl ?_
  refine RL.qg WG (Y.index 1 rfl rfl rfl OM slice23 (fun _ hw=>hw.rd_some MM OM)) rfl ?_
  refine RL.qg WG (Y.loadRd (v:=vbyte (t.headD 0)) rfl MM (hh1 OM).1 flat5) rfl ?_
  refine RL.qg WG (Y.move rfl) rfl ?_
  refine RL.qg WG (Y.xor8 rfl rfl (hh1 OM).2 (flipOf_or h0)) rfl ?_
  refine RL.qg WG (Y.eqlK rfl rfl) rfl ?_
  refine RL.q (Y.pickT rfl rfl) rfl ?_
  refine RL.q (Y.assign rfl) rfl ?_
  refine RL.nil ?_
  refine hK50 _ _ _ ?_
  refine CW.kp [0,5,6,32] rfl ?_
  refine CW.ite rfl (fun h5=>?_) (fun h5=>?_)
  ·refine CW.seq fun K51 hK51=>?_
   refine CW.region ?_
   refine RL.q (Y.assign rfl) rfl ?_
   refine RL.q (Y.assign rfl) rfl ?_
   refine RL.q (Y.assign rfl) rfl ?_
   refine RL.nil ?_
   refine hK51 _ _ _ ?_
   refine CW.kp [2,3,4] rfl ?_
   refine CW.ret ?_
   have e : getI (h0::t) = (0,0,2):=by rw [getI,if_neg OM,if_neg OM,if_pos ⟨Q0,Q0⟩]
   rw [e]
   exact ⟨_,_,_,rfl,rfl,rfl,Turn.drop ⟨rfl,rfl,rfl⟩ SB⟩
  refine CW.skip ?_
  refine hK45 _ _ _ ?_
  refine CW.seq fun K52 hK52=>?_
  refine CW.region ?_
  refine RL.q (v:=vword (wordOf (flipOf h0) [])) (Y.assign rfl) rfl ?_
  refine RL.nil ?_
  refine hK52 _ _ _ ?_
  refine CW.kp [0,5,6,7] rfl ?_
  refine CW.seq fun K53 hK53=>?_
  refine CW.seq fun K54 hK54=>?_
  have hcut : Rd M (dbytes (t.take (kOf h0))) (cutV ab 1 (kOf h0+1) cb 1):=by
    have h:=Rd.cut hb 1 (kOf h0+1) cb OM OM (Nat.le_refl _) OM
    have hl : (t.take (kOf h0)).length = kOf h0:=by rw [List.length_take];omega
    rw [dbytes,hl,List.map_take]
    simpa using h
  refine CW.region ?_
  refine RL.q (Y.move rfl) rfl ?_
  refine RL.q (Y.move rfl) rfl ?_
  refine RL.q (Y.add rfl rfl OM) rfl ?_
  refine RL.q (Y.slice 1 (kOf h0+1) cb rfl ⟨1,rfl,rfl⟩ ⟨_,rfl,Q0⟩ rfl Q2 OM OM OM slice23) rfl ?_
  have hk8 : kOf h0<=8:=Q0
  have hLk : (t.take (kOf h0)).length = kOf h0:=by rw [List.length_take];omega
  have hL256 : ∀ c∈t.take (kOf h0),c < 256:=fun c hc=>h256 c (List.mem_cons_of_mem _ (List.mem_of_mem_take hc))
  have hget : getI (h0::t) = if 9223372036854775808<=wordOf (flipOf h0) (t.take (kOf h0)) then (0,0,2) else (if h0 < 128 then -1 - (wordOf (flipOf h0) (t.take (kOf h0)) : Int) else (wordOf (flipOf h0) (t.take (kOf h0)) : Int),(kOf h0 : Int)+1,0):=by
    rw [getI,if_neg OM,if_neg OM,if_neg (fun h=>by first | omega | (have:=h.1;omega) | (have:=h.2;omega))]
  obtain ⟨L,hL⟩ : ∃ L,L = t.take (kOf h0):=⟨_,rfl⟩
  rw [<-hL] at hcut hLk hL256 hget
  obtain ⟨a46,c46,hu46,hc46,hl46,_⟩:=hcut.slice
  rw [hu46] at hcut ⊢
  refine RL.addRd hcut ?_
  refine RL.q (Y.len rfl Tryd.underlying23) rfl ?_
  refine RL.q (Y.move rfl) rfl ?_
  refine RL.nil ?_
  refine hK54 _ _ _ ?_
  refine CW.kp [5,6,7,46,47,48] rfl ?_
  refine CW.block ?_
  -- LOOP 1: live [5,6,7,46,47,48] changed [7,48]
  refine CW.kp [7,48,5,6,46,47] rfl ?_
  refine CW.loopF (fun m Lc M1 Γc=>∃ k : Nat,m = L.length - k/\k<=L.length/\Lc = [(7,vword (wordOf (flipOf h0) (L.take k))),(48,vint k)]/\Γc = []/\M1 = M) (L.length) [(7,_),(48,_)] _ rfl rfl ⟨0,rfl,Nat.zero_le _,rfl,rfl,rfl⟩ ?_
  rintro m Lc M Γc hs ⟨k,rfl,hk,rfl,rfl,rfl⟩
  refine CW.seq fun K55 hK55=>?_
  refine CW.region ?_
  refine RL.q (Y.lss rfl rfl) rfl ?_
  refine RL.nil ?_
  refine hK55 _ _ _ ?_
  refine CW.kp [5,6,7,46,47,48,49] rfl ?_
  refine CW.seq fun K56 hK56=>?_
  refine CW.ite rfl (fun h6=>?_) (fun h6=>?_)
  ·have hka : k < L.length:=Q0
   have hck:=hL256 _ (List.getElem_mem hka)
   have hfk:=flip8_lt (f:=flipOf h0) hck
   have hwk : wordOf (flipOf h0) (L.take k) < 72057594037927936:=by
     have h:=wordOf_lt (flipOf h0) (L.take k) fun c hc=>hL256 c (List.mem_of_mem_take hc)
     refine Nat.lt_of_lt_of_le h ?_
     rw [show (72057594037927936 : Nat) = 256 ^ 7 from rfl]
     exact Nat.pow_le_pow_right OM (by rw [List.length_take];omega)
   refine CW.skip ?_
   refine hK56 _ _ _ ?_
   refine CW.seq fun K57 hK57=>?_
   refine CW.block ?_
   refine CW.seq fun K58 hK58=>?_
   refine CW.region ?_
   refine RL.q (Y.index _ rfl rfl rfl AO slice23 SM) rfl ?_
   first | refine RL.q (Y.loadRd rfl MM (dbyte_get (List.getElem?_eq_getElem AO)) flat5) rfl ?_ | refine RL.loadSl rfl rfl MM (dbyte_get (List.getElem?_eq_getElem AO)) flat5 rfl fun a51 c51 hc51 hl51=>?_
   refine RL.q (Y.assign rfl) rfl ?_
   refine RL.nil ?_
   refine hK58 _ _ _ ?_
   refine CW.kp [5,6,7,9,46,47,48] rfl ?_
   refine CW.region ?_
   refine RL.q (Y.move rfl) rfl ?_
   refine RL.q (Y.shl8 rfl rfl) rfl ?_
   refine RL.q (Y.move rfl) rfl ?_
   refine RL.q (Y.move rfl) rfl ?_
   refine RL.q (Y.xor8 rfl rfl hck (flipOf_or h0)) rfl ?_
   refine RL.q (Y.convTo (r:=((flip8 (flipOf h0) L[k] : Nat) : Int)) KR KR rfl (by rw [wrap_u64'];omega)) rfl ?_
   refine RL.q (Y.or8 rfl rfl OM OM hfk) rfl ?_
   refine RL.q (Y.assign rfl) rfl ?_
   refine RL.nil ?_
   refine hK57 _ _ _ ?_
   refine CW.kp [5,6,7,46,47,48] rfl ?_
   refine CW.region ?_
   refine RL.q (Y.add rfl rfl OM) rfl ?_
   refine RL.q (Y.move rfl) rfl ?_
   refine RL.nil ?_
   refine ⟨L.length - (k+1),[(7,_),(48,_)],?_,(KP [7,48,5,6,46,47]),?_⟩
   · omega
   · exact Turn.drop ⟨[],rfl,hs,k+1,rfl,Q0,by rw [List.take_succ_eq_append_getElem hka,wordOf_snoc,Nat.mod_eq_of_lt OM] <;> rfl,rfl,rfl⟩ SB
  refine CW.exit ?_
  refine hK53 _ _ _ ?_
  refine CW.seq fun K59 hK59=>?_
  refine CW.seq fun K60 hK60=>?_
  obtain rfl : k = L.length:=Q0
  rw [List.take_length]
  have hwl:=wordOf_lt (flipOf h0) L hL256
  have hwl2 : wordOf (flipOf h0) L < 18446744073709551616:=Nat.lt_of_lt_of_le hwl (by rw [hLk];exact Nat.pow_le_pow_right (n:=256) OM hk8)
  refine CW.region ?_
  refine RL.q (Y.move rfl) rfl ?_
  refine RL.q (Y.shrN 63 rfl rfl rfl OM) rfl ?_
  refine RL.q (Y.gtrK rfl rfl) rfl ?_
  refine RL.nil ?_
  refine hK60 _ _ _ ?_
  refine CW.kp [5,6,7,62] rfl ?_
  refine CW.ite rfl (fun h7=>?_) (fun h7=>?_)
  ·refine CW.seq fun K61 hK61=>?_
   refine CW.region ?_
   refine RL.q (Y.assign rfl) rfl ?_
   refine RL.q (Y.assign rfl) rfl ?_
   refine RL.q (Y.assign rfl) rfl ?_
   refine RL.nil ?_
   refine hK61 _ _ _ ?_
   refine CW.kp [2,3,4] rfl ?_
   refine CW.ret ?_
   have e : getI (h0::t) = (0,0,2):=by rw [hget,if_pos OM]
   rw [e]
   exact ⟨_,_,_,rfl,rfl,rfl,Turn.drop ⟨rfl,rfl,rfl⟩ SB⟩
  refine CW.skip ?_
  refine hK59 _ _ _ ?_
  refine CW.seq fun K62 hK62=>?_
  refine CW.seq fun K63 hK63=>?_
  refine CW.region ?_
  refine RL.q (Y.move rfl) rfl ?_
  refine RL.q (Y.gtrK rfl rfl) rfl ?_
  refine RL.nil ?_
  refine hK63 _ _ _ ?_
  refine CW.kp [6,7,64] rfl ?_
  refine CW.ite rfl (fun h8=>?_) (fun h8=>?_)
  ·refine CW.region ?_
   refine RL.q (Y.move rfl) rfl ?_
   refine RL.q (Y.not64 rfl hwl2) rfl ?_
   refine RL.q (Y.assign rfl) rfl ?_
   refine RL.nil ?_
   refine hK62 _ _ _ ?_
   refine CW.kp [6,7] rfl ?_
   refine CW.seq fun K64 hK64=>?_
   refine CW.region ?_
   refine RL.q (Y.move rfl) rfl ?_
   refine RL.q (Y.convTo (r:=(if (0 : Int) < (flipOf h0 : Int) then -1 - ((wordOf (flipOf h0) L) : Int) else ((wordOf (flipOf h0) L) : Int))) KR KR rfl (by first | (show Xe.w64 _ = _;rw [if_pos h8,w64_eq];omega) | (show Xe.w64 _ = _;rw [if_neg h8,w64_eq];omega))) rfl ?_
   refine RL.q (Y.move rfl) rfl ?_
   refine RL.q (Y.add rfl rfl OM) rfl ?_
   refine RL.q (Y.assign rfl) rfl ?_
   refine RL.q (Y.assign rfl) rfl ?_
   refine RL.q (Y.assign rfl) rfl ?_
   refine RL.nil ?_
   refine hK64 _ _ _ ?_
   refine CW.kp [2,3,4] rfl ?_
   refine CW.ret ?_
   have hlt : ¬ 9223372036854775808<=wordOf (flipOf h0) L:=Q0
   rw [hget,if_neg hlt]
   rw [show (if h0 < 128 then -1 - (wordOf (flipOf h0) L : Int) else (wordOf (flipOf h0) L : Int)) = (if (0 : Int) < (flipOf h0 : Int) then -1 - (wordOf (flipOf h0) L : Int) else (wordOf (flipOf h0) L : Int)) from by simp only [flipOf_pos]]
   exact ⟨_,_,_,rfl,rfl,rfl,Turn.drop ⟨rfl,rfl,rfl⟩ SB⟩
  refine CW.skip ?_
  refine hK62 _ _ _ ?_
  refine CW.seq fun K65 hK65=>?_
  refine CW.region ?_
  refine RL.q (Y.move rfl) rfl ?_
  refine RL.q (Y.convTo (r:=(if (0 : Int) < (flipOf h0 : Int) then -1 - ((wordOf (flipOf h0) L) : Int) else ((wordOf (flipOf h0) L) : Int))) KR KR rfl (by first | (show Xe.w64 _ = _;rw [if_pos h8,w64_eq];omega) | (show Xe.w64 _ = _;rw [if_neg h8,w64_eq];omega))) rfl ?_
  refine RL.q (Y.move rfl) rfl ?_
  refine RL.q (Y.add rfl rfl OM) rfl ?_
  refine RL.q (Y.assign rfl) rfl ?_
  refine RL.q (Y.assign rfl) rfl ?_
  refine RL.q (Y.assign rfl) rfl ?_
  refine RL.nil ?_
  refine hK65 _ _ _ ?_
  refine CW.kp [2,3,4] rfl ?_
  refine CW.ret ?_
  have hlt : ¬ 9223372036854775808<=wordOf (flipOf h0) L:=Q0
  rw [hget,if_neg hlt]
  rw [show (if h0 < 128 then -1 - (wordOf (flipOf h0) L : Int) else (wordOf (flipOf h0) L : Int)) = (if (0 : Int) < (flipOf h0 : Int) then -1 - (wordOf (flipOf h0) L : Int) else (wordOf (flipOf h0) L : Int)) from by simp only [flipOf_pos]]
  exact ⟨_,_,_,rfl,rfl,rfl,Turn.drop ⟨rfl,rfl,rfl⟩ SB⟩
 refine RL.q (Y.move rfl) rfl ?_
 refine RL.no WG rfl ?_
 refine RL.no WG rfl ?_
 refine RL.no WG rfl ?_
 refine RL.no WG rfl ?_
 refine RL.no WG rfl ?_
 refine RL.no WG rfl ?_
 refine RL.q (Y.pickF rfl rfl) rfl ?_
 refine RL.q (Y.assign rfl) rfl ?_
 refine RL.nil ?_
 refine hK50 _ _ _ ?_
 refine CW.kp [0,5,6,32] rfl ?_
 refine CW.no rfl ?_
 refine CW.skip ?_
 refine hK45 _ _ _ ?_
 refine CW.seq fun K66 hK66=>?_
 refine CW.region ?_
 refine RL.q (v:=vword (wordOf (flipOf h0) [])) (Y.assign rfl) rfl ?_
 refine RL.nil ?_
 refine hK66 _ _ _ ?_
 refine CW.kp [0,5,6,7] rfl ?_
 refine CW.seq fun K67 hK67=>?_
 refine CW.seq fun K68 hK68=>?_
 have hcut : Rd M (dbytes (t.take (kOf h0))) (cutV ab 1 (kOf h0+1) cb 1):=by
   have h:=Rd.cut hb 1 (kOf h0+1) cb OM OM (Nat.le_refl _) OM
   have hl : (t.take (kOf h0)).length = kOf h0:=by rw [List.length_take];omega
   rw [dbytes,hl,List.map_take]
   simpa using h
 refine CW.region ?_
 refine RL.q (Y.move rfl) rfl ?_
 refine RL.q (Y.move rfl) rfl ?_
 refine RL.q (Y.add rfl rfl OM) rfl ?_
 refine RL.q (Y.slice 1 (kOf h0+1) cb rfl ⟨1,rfl,rfl⟩ ⟨_,rfl,Q0⟩ rfl Q2 OM OM OM slice23) rfl ?_
 have hk8 : kOf h0<=8:=Q0
 have hLk : (t.take (kOf h0)).length = kOf h0:=by rw [List.length_take];omega
 have hL256 : ∀ c∈t.take (kOf h0),c < 256:=fun c hc=>h256 c (List.mem_cons_of_mem _ (List.mem_of_mem_take hc))
 have hget : getI (h0::t) = if 9223372036854775808<=wordOf (flipOf h0) (t.take (kOf h0)) then (0,0,2) else (if h0 < 128 then -1 - (wordOf (flipOf h0) (t.take (kOf h0)) : Int) else (wordOf (flipOf h0) (t.take (kOf h0)) : Int),(kOf h0 : Int)+1,0):=by
   rw [getI,if_neg OM,if_neg OM,if_neg (fun h=>by first | omega | (have:=h.1;omega) | (have:=h.2;omega))]
 obtain ⟨L,hL⟩ : ∃ L,L = t.take (kOf h0):=⟨_,rfl⟩
 rw [<-hL] at hcut hLk hL256 hget
 obtain ⟨a46,c46,hu46,hc46,hl46,_⟩:=hcut.slice
 rw [hu46] at hcut ⊢
 refine RL.addRd hcut ?_
 refine RL.q (Y.len rfl Tryd.underlying23) rfl ?_
 refine RL.q (Y.move rfl) rfl ?_
 refine RL.nil ?_
 refine hK68 _ _ _ ?_
 refine CW.kp [5,6,7,46,47,48] rfl ?_
 refine CW.block ?_
 -- LOOP 1: live [5,6,7,46,47,48] changed [7,48]
 refine CW.kp [7,48,5,6,46,47] rfl ?_
 refine CW.loopF (fun m Lc M1 Γc=>∃ k : Nat,m = L.length - k/\k<=L.length/\Lc = [(7,vword (wordOf (flipOf h0) (L.take k))),(48,vint k)]/\Γc = []/\M1 = M) (L.length) [(7,_),(48,_)] _ rfl rfl ⟨0,rfl,Nat.zero_le _,rfl,rfl,rfl⟩ ?_
 rintro m Lc M Γc hs ⟨k,rfl,hk,rfl,rfl,rfl⟩
 refine CW.seq fun K69 hK69=>?_
 refine CW.region ?_
 refine RL.q (Y.lss rfl rfl) rfl ?_
 refine RL.nil ?_
 refine hK69 _ _ _ ?_
 refine CW.kp [5,6,7,46,47,48,49] rfl ?_
 refine CW.seq fun K70 hK70=>?_
 refine CW.ite rfl (fun h6=>?_) (fun h6=>?_)
 ·have hka : k < L.length:=Q0
  have hck:=hL256 _ (List.getElem_mem hka)
  have hfk:=flip8_lt (f:=flipOf h0) hck
  have hwk : wordOf (flipOf h0) (L.take k) < 72057594037927936:=by
    have h:=wordOf_lt (flipOf h0) (L.take k) fun c hc=>hL256 c (List.mem_of_mem_take hc)
    refine Nat.lt_of_lt_of_le h ?_
    rw [show (72057594037927936 : Nat) = 256 ^ 7 from rfl]
    exact Nat.pow_le_pow_right OM (by rw [List.length_take];omega)
  refine CW.skip ?_
  refine hK70 _ _ _ ?_
  refine CW.seq fun K71 hK71=>?_
  refine CW.block ?_
  refine CW.seq fun K72 hK72=>?_
  refine CW.region ?_
  refine RL.q (Y.index _ rfl rfl rfl AO slice23 SM) rfl ?_
  first | refine RL.q (Y.loadRd rfl MM (dbyte_get (List.getElem?_eq_getElem AO)) flat5) rfl ?_ | refine RL.loadSl rfl rfl MM (dbyte_get (List.getElem?_eq_getElem AO)) flat5 rfl fun a51 c51 hc51 hl51=>?_
  refine RL.q (Y.assign rfl) rfl ?_
  refine RL.nil ?_
  refine hK72 _ _ _ ?_
  refine CW.kp [5,6,7,9,46,47,48] rfl ?_
  refine CW.region ?_
  refine RL.q (Y.move rfl) rfl ?_
  refine RL.q (Y.shl8 rfl rfl) rfl ?_
  refine RL.q (Y.move rfl) rfl ?_
  refine RL.q (Y.move rfl) rfl ?_
  refine RL.q (Y.xor8 rfl rfl hck (flipOf_or h0)) rfl ?_
  refine RL.q (Y.convTo (r:=((flip8 (flipOf h0) L[k] : Nat) : Int)) KR KR rfl (by rw [wrap_u64'];omega)) rfl ?_
  refine RL.q (Y.or8 rfl rfl OM OM hfk) rfl ?_
  refine RL.q (Y.assign rfl) rfl ?_
  refine RL.nil ?_
  refine hK71 _ _ _ ?_
  refine CW.kp [5,6,7,46,47,48] rfl ?_
  refine CW.region ?_
  refine RL.q (Y.add rfl rfl OM) rfl ?_
  refine RL.q (Y.move rfl) rfl ?_
  refine RL.nil ?_
  refine ⟨L.length - (k+1),[(7,_),(48,_)],?_,(KP [7,48,5,6,46,47]),?_⟩
  · omega
  · exact Turn.drop ⟨[],rfl,hs,k+1,rfl,Q0,by rw [List.take_succ_eq_append_getElem hka,wordOf_snoc,Nat.mod_eq_of_lt OM] <;> rfl,rfl,rfl⟩ SB
 refine CW.exit ?_
 refine hK67 _ _ _ ?_
 refine CW.seq fun K73 hK73=>?_
 refine CW.seq fun K74 hK74=>?_
 obtain rfl : k = L.length:=Q0
 rw [List.take_length]
 have hwl:=wordOf_lt (flipOf h0) L hL256
 have hwl2 : wordOf (flipOf h0) L < 18446744073709551616:=Nat.lt_of_lt_of_le hwl (by rw [hLk];exact Nat.pow_le_pow_right (n:=256) OM hk8)
 refine CW.region ?_
 refine RL.q (Y.move rfl) rfl ?_
 refine RL.q (Y.shrN 63 rfl rfl rfl OM) rfl ?_
 refine RL.q (Y.gtrK rfl rfl) rfl ?_
 refine RL.nil ?_
 refine hK74 _ _ _ ?_
 refine CW.kp [5,6,7,62] rfl ?_
 refine CW.ite rfl (fun h7=>?_) (fun h7=>?_)
 ·refine CW.seq fun K75 hK75=>?_
  refine CW.region ?_
  refine RL.q (Y.assign rfl) rfl ?_
  refine RL.q (Y.assign rfl) rfl ?_
  refine RL.q (Y.assign rfl) rfl ?_
  refine RL.nil ?_
  refine hK75 _ _ _ ?_
  refine CW.kp [2,3,4] rfl ?_
  refine CW.ret ?_
  have e : getI (h0::t) = (0,0,2):=by rw [hget,if_pos OM]
  rw [e]
  exact ⟨_,_,_,rfl,rfl,rfl,Turn.drop ⟨rfl,rfl,rfl⟩ SB⟩
 refine CW.skip ?_
 refine hK73 _ _ _ ?_
 refine CW.seq fun K76 hK76=>?_
 refine CW.seq fun K77 hK77=>?_
 refine CW.region ?_
 refine RL.q (Y.move rfl) rfl ?_
 refine RL.q (Y.gtrK rfl rfl) rfl ?_
 refine RL.nil ?_
 refine hK77 _ _ _ ?_
 refine CW.kp [6,7,64] rfl ?_
 refine CW.ite rfl (fun h8=>?_) (fun h8=>?_)
 ·refine CW.region ?_
  refine RL.q (Y.move rfl) rfl ?_
  refine RL.q (Y.not64 rfl hwl2) rfl ?_
  refine RL.q (Y.assign rfl) rfl ?_
  refine RL.nil ?_
  refine hK76 _ _ _ ?_
  refine CW.kp [6,7] rfl ?_
  refine CW.seq fun K78 hK78=>?_
  refine CW.region ?_
  refine RL.q (Y.move rfl) rfl ?_
  refine RL.q (Y.convTo (r:=(if (0 : Int) < (flipOf h0 : Int) then -1 - ((wordOf (flipOf h0) L) : Int) else ((wordOf (flipOf h0) L) : Int))) KR KR rfl (by first | (show Xe.w64 _ = _;rw [if_pos h8,w64_eq];omega) | (show Xe.w64 _ = _;rw [if_neg h8,w64_eq];omega))) rfl ?_
  refine RL.q (Y.move rfl) rfl ?_
  refine RL.q (Y.add rfl rfl OM) rfl ?_
  refine RL.q (Y.assign rfl) rfl ?_
  refine RL.q (Y.assign rfl) rfl ?_
  refine RL.q (Y.assign rfl) rfl ?_
  refine RL.nil ?_
  refine hK78 _ _ _ ?_
  refine CW.kp [2,3,4] rfl ?_
  refine CW.ret ?_
  have hlt : ¬ 9223372036854775808<=wordOf (flipOf h0) L:=Q0
  rw [hget,if_neg hlt]
  rw [show (if h0 < 128 then -1 - (wordOf (flipOf h0) L : Int) else (wordOf (flipOf h0) L : Int)) = (if (0 : Int) < (flipOf h0 : Int) then -1 - (wordOf (flipOf h0) L : Int) else (wordOf (flipOf h0) L : Int)) from by simp only [flipOf_pos]]
  exact ⟨_,_,_,rfl,rfl,rfl,Turn.drop ⟨rfl,rfl,rfl⟩ SB⟩
 refine CW.skip ?_
 refine hK76 _ _ _ ?_
 refine CW.seq fun K79 hK79=>?_
 refine CW.region ?_
 refine RL.q (Y.move rfl) rfl ?_
 refine RL.q (Y.convTo (r:=(if (0 : Int) < (flipOf h0 : Int) then -1 - ((wordOf (flipOf h0) L) : Int) else ((wordOf (flipOf h0) L) : Int))) KR KR rfl (by first | (show Xe.w64 _ = _;rw [if_pos h8,w64_eq];omega) | (show Xe.w64 _ = _;rw [if_neg h8,w64_eq];omega))) rfl ?_
 refine RL.q (Y.move rfl) rfl ?_
 refine RL.q (Y.add rfl rfl OM) rfl ?_
 refine RL.q (Y.assign rfl) rfl ?_
 refine RL.q (Y.assign rfl) rfl ?_
 refine RL.q (Y.assign rfl) rfl ?_
 refine RL.nil ?_
 refine hK79 _ _ _ ?_
 refine CW.kp [2,3,4] rfl ?_
 refine CW.ret ?_
 have hlt : ¬ 9223372036854775808<=wordOf (flipOf h0) L:=Q0
 rw [hget,if_neg hlt]
 rw [show (if h0 < 128 then -1 - (wordOf (flipOf h0) L : Int) else (wordOf (flipOf h0) L : Int)) = (if (0 : Int) < (flipOf h0 : Int) then -1 - (wordOf (flipOf h0) L : Int) else (wordOf (flipOf h0) L : Int)) from by simp only [flipOf_pos]]
 exact ⟨_,_,_,rfl,rfl,rfl,Turn.drop ⟨rfl,rfl,rfl⟩ SB⟩
end Go.Proofs.YtfgkhhfkodlbpaaDoor
