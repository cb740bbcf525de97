/- PureB, Ev0, Ev2, Gr, Tab, PmA, PmB, PmC, PmD, PmE, PmF, PmG, XeZ, Ev3, Ev4, Ev6, Ev9, Ev10, PmH, PmI, PmJ, put together. -/
import Derived.Test.YtfgkhhfkodlbpaaDoorPk1
import Derived.Test.YtfgkhhfkodlbpaaDoorProg
import Derived.KernelRfl
namespace Xe
open Go
abbrev MR:=Val×Int
def mkS (g : Ty->Int->MR) : List Ty->Int->List Val×Int
 | [],pos=>([],pos)
 | t::ts,pos=>((g t pos).1::(mkS g ts (g t pos).2).1,(mkS g ts (g t pos).2).2)
def mkF (p : ProgT) (l : List Int) : Nat->Ty->Int->Int->MR
 | 0,_,pos,_=>(v0,pos)
 | n+1,t,pos,d =>
   if t.kind = 0 then
     (if (atL l pos 1048576).tmod 16 = 0 then (.mk 0 (1099511627776 - ((atL l pos 1048576).tdiv 16).tmod 3) [],pos+1)
      else if (atL l pos 1048576).tmod 16 = 1 then (.mk 0 (-1099511627776+((atL l pos 1048576).tdiv 16).tmod 3) [],pos+1)
      else (.mk 0 (((atL l pos 1048576).tdiv 16).tmod 9 - 4) [],pos+1))
   else if t.kind = 1 then (.mk 1 ((atL l pos 1048576).tmod 2) [],pos+1)
   else if t.kind = 2 then
     (.mk 4 0 (mkS (fun u q=>mkF p l n u q (d+1)) (List.replicate (if 3 < d then 0 else ((atL l pos 1048576).tmod 3).toNat) (t.kids.headD ty0)) (pos+1)).1,
      (mkS (fun u q=>mkF p l n u q (d+1)) (List.replicate (if 3 < d then 0 else ((atL l pos 1048576).tmod 3).toNat) (t.kids.headD ty0)) (pos+1)).2)
   else if (theDef p t.df).kind = 1 then
     (.mk 3 ((atL l pos 1048576).tmod (theDef p t.df).slots.length) [(mkF p l n (((theDef p t.df).slots.map SlotT.ty).getD ((atL l pos 1048576).tmod (theDef p t.df).slots.length).toNat ty0) (pos+1) (d+1)).1],
      (mkF p l n (((theDef p t.df).slots.map SlotT.ty).getD ((atL l pos 1048576).tmod (theDef p t.df).slots.length).toNat ty0) (pos+1) (d+1)).2)
   else (.mk 2 0 (mkS (fun u q=>mkF p l n u q (d+1)) ((theDef p t.df).slots.map SlotT.ty) (pos+1)).1,(mkS (fun u q=>mkF p l n u q (d+1)) ((theDef p t.df).slots.map SlotT.ty) (pos+1)).2)
def wfT (p : ProgT) : Nat->Ty->Prop
 | 0,_=>False
 | n+1,t=>t.kind = 0\/t.kind = 1\/(t.kind = 2/\0 < t.kids.length/\wfT p n (t.kids.headD ty0)) \/
   (t.kind ≠ 0/\t.kind ≠ 1/\t.kind ≠ 2/\(theDef p t.df).slots.length<=3/\((theDef p t.df).kind = 1->0 < (theDef p t.df).slots.length)/\∀ s∈(theDef p t.df).slots,wfT p n s.ty)
theorem wfT_list {p : ProgT} {n : Nat} {t : Ty} (h : wfT p (n+1) t) (h2 : t.kind = 2) : 0 < t.kids.length/\wfT p n (t.kids.headD ty0):=by
 rw [wfT] at h
 rcases h with h | h | h | h
 · omega
 · omega
 · exact h.2
 · exact absurd h2 h.2.2.1
theorem wfT_def {p : ProgT} {n : Nat} {t : Ty} (h : wfT p (n+1) t) (h0 : ¬ t.kind = 0) (h1 : ¬ t.kind = 1) (h2 : ¬ t.kind = 2) : (theDef p t.df).slots.length<=3/\((theDef p t.df).kind = 1->0 < (theDef p t.df).slots.length)/\∀ s∈(theDef p t.df).slots,wfT p n s.ty:=by
 rw [wfT] at h
 rcases h with h | h | h | h
 · exact absurd h h0
 · exact absurd h h1
 · exact absurd h.1 h2
 · exact h.2.2.2
theorem mkS_pos {g : Ty->Int->MR} {b : Int} : ∀ (ts : List Ty) (pos : Int),(∀ t∈ts,∀ q,q < (g t q).2/\(g t q).2<=q+b)->pos<=(mkS g ts pos).2/\(mkS g ts pos).2<=pos+ts.length * b
 | [],pos,_=>by simp [mkS]
 | t::ts,pos,h=>by
   have h1:=h t (List.mem_cons_self ..) pos
   have h2:=mkS_pos ts (g t pos).2 fun u hu=>h u (List.mem_cons_of_mem _ hu)
   simp only [mkS,List.length_cons]
   have e : ((ts.length+1 : Nat) : Int) * b = ts.length * b+b:=by rw [Int.natCast_add,Int.add_mul];simp
   omega
theorem mkF_pos {p : ProgT} {l : List Int} : ∀ (n : Nat) (t : Ty) (pos d : Int),wfT p n t->pos < (mkF p l n t pos d).2/\(mkF p l n t pos d).2<=pos+4 ^ n:=by
 intro n
 induction n with
 | zero=>intro t pos d h;exact h.elim
 | succ n ih =>
   intro t pos d h
   have hp : (1 : Int)<=4 ^ n:=Int.pow_pos (n:=4) (m:=n) Q1
   have hs : (4 : Int) ^ (n+1) = 4 ^ n * 4:=Int.pow_succ 4 n
   have hmul : ∀ k : Nat,k<=3->(k : Int) * 4 ^ n<=3 * 4 ^ n:=fun k hk=>Int.mul_le_mul_of_nonneg_right Q0 Q0
   rw [mkF]
   by_cases h0 : t.kind = 0
   · rw [if_pos h0]
     split
     · simp only;omega
     · split <;> (simp only;omega)
   rw [if_neg h0]
   by_cases h1 : t.kind = 1
   · rw [if_pos h1];simp only;omega
   rw [if_neg h1]
   by_cases h2 : t.kind = 2
   · rw [if_pos h2]
     have hk:=(wfT_list h h2).2
     have hlen : (if 3 < d then 0 else ((atL l pos 1048576).tmod 3).toNat)<=3:=by
       split
       · omega
       · have:=atL_lt l pos 1048576 Q0
         rw [Int.tmod_eq_emod_of_nonneg this.1];omega
     have:=mkS_pos (g:=fun u q=>mkF p l n u q (d+1)) (b:=4 ^ n) (List.replicate (if 3 < d then 0 else ((atL l pos 1048576).tmod 3).toNat) (t.kids.headD ty0)) (pos+1) fun u hu q=>by
       rw [List.eq_of_mem_replicate hu];exact ih _ q (d+1) hk
     have hq:=hmul _ hlen
     rw [List.length_replicate] at this
     simp only
     omega
   rw [if_neg h2]
   obtain ⟨h3,h4,h5⟩:=wfT_def h h0 h1 h2
   by_cases hc : (theDef p t.df).kind = 1
   · rw [if_pos hc]
     have hpos:=h4 hc
     have hlt : ((atL l pos 1048576).tmod (theDef p t.df).slots.length).toNat < (theDef p t.df).slots.length:=by
       have:=atL_lt l pos 1048576 Q0
       rw [Int.tmod_eq_emod_of_nonneg this.1]
       have h6:=Int.emod_lt_of_pos (atL l pos 1048576) (show (0 : Int) < (theDef p t.df).slots.length by omega)
       have h7:=Int.emod_nonneg (atL l pos 1048576) (show ((theDef p t.df).slots.length : Int) ≠ 0 by omega)
       omega
     have:=ih (((theDef p t.df).slots.map SlotT.ty).getD ((atL l pos 1048576).tmod (theDef p t.df).slots.length).toNat ty0) (pos+1) (d+1) (by
       rw [List.getD_eq_getElem?_getD,List.getElem?_map,List.getElem?_eq_getElem hlt]
       exact h5 _ (List.getElem_mem hlt))
     simp only
     omega
   rw [if_neg hc]
   have:=mkS_pos (g:=fun u q=>mkF p l n u q (d+1)) (b:=4 ^ n) ((theDef p t.df).slots.map SlotT.ty) (pos+1) fun u hu q=>by
     obtain ⟨s,hs1,rfl⟩:=List.mem_map.1 hu
     exact ih _ q (d+1) (h5 s hs1)
   have hq:=hmul _ h3
   rw [List.length_map] at this
   simp only
   omega
def mJ (dn : List Val) (r : List Val×Int) : List Val×Int:=(dn++r.1,r.2)
theorem mJ_step {g : Ty->Int->MR} {ts : List Ty} {r : List Val×Int} {dn : List Val} {k : Nat} {pos : Int} (hk : k < ts.length) (h : r = mJ dn (mkS g (ts.drop k) pos)) : r = mJ (dn++[(g ts[k] pos).1]) (mkS g (ts.drop (k+1)) (g ts[k] pos).2):=by
 rw [h,List.drop_eq_getElem_cons hk,mkS,mJ,mJ]
 simp
theorem mJ_end {g : Ty->Int->MR} {ts : List Ty} {r : List Val×Int} {dn : List Val} {k : Nat} {pos : Int} (hk : ts.length<=k) (h : r = mJ dn (mkS g (ts.drop k) pos)) : r = (dn,pos):=by
 rw [h,List.drop_of_length_le hk,mkS,mJ];simp
theorem mkS_size {g : Ty->Int->MR} : ∀ (ts : List Ty) (pos : Int),(∀ t∈ts,∀ q,(g t q).2 = q+(g t q).1.size)->(mkS g ts pos).2 = pos+Val.sizes (mkS g ts pos).1
 | [],pos,_=>by simp [mkS,Val.sizes]
 | t::ts,pos,h=>by
   have h1:=h t (List.mem_cons_self ..) pos
   have h2:=mkS_size ts (g t pos).2 fun u hu=>h u (List.mem_cons_of_mem _ hu)
   simp only [mkS,Val.sizes]
   omega
theorem mkF_size {p : ProgT} {l : List Int} : ∀ (n : Nat) (t : Ty) (pos d : Int),wfT p n t->(mkF p l n t pos d).2 = pos+(mkF p l n t pos d).1.size:=by
 intro n
 induction n with
 | zero=>intro t pos d h;exact h.elim
 | succ n ih =>
   intro t pos d h
   have one : ∀ k m : Int,pos+1 = pos+((Val.mk k m []).size : Int):=fun k m=>by simp [Val.size,Val.sizes]
   rw [mkF]
   by_cases h0 : t.kind = 0
   · rw [if_pos h0]
     split
     · exact one _ _
     · split <;> exact one _ _
   rw [if_neg h0]
   by_cases h1 : t.kind = 1
   · rw [if_pos h1];exact one _ _
   rw [if_neg h1]
   by_cases h2 : t.kind = 2
   · rw [if_pos h2]
     have hk:=(wfT_list h h2).2
     have:=mkS_size (g:=fun u q=>mkF p l n u q (d+1)) (List.replicate (if 3 < d then 0 else ((atL l pos 1048576).tmod 3).toNat) (t.kids.headD ty0)) (pos+1) fun u hu q=>by
       rw [List.eq_of_mem_replicate hu];exact ih _ q (d+1) hk
     simp only [Val.size]
     omega
   rw [if_neg h2]
   obtain ⟨h3,h4,h5⟩:=wfT_def h h0 h1 h2
   by_cases hc : (theDef p t.df).kind = 1
   · rw [if_pos hc]
     have hpos:=h4 hc
     have hlt : ((atL l pos 1048576).tmod (theDef p t.df).slots.length).toNat < (theDef p t.df).slots.length:=by
       have:=atL_lt l pos 1048576 Q0
       rw [Int.tmod_eq_emod_of_nonneg this.1]
       have h6:=Int.emod_lt_of_pos (atL l pos 1048576) (show (0 : Int) < (theDef p t.df).slots.length by omega)
       have h7:=Int.emod_nonneg (atL l pos 1048576) (show ((theDef p t.df).slots.length : Int) ≠ 0 by omega)
       omega
     have:=ih (((theDef p t.df).slots.map SlotT.ty).getD ((atL l pos 1048576).tmod (theDef p t.df).slots.length).toNat ty0) (pos+1) (d+1) (by
       rw [List.getD_eq_getElem?_getD,List.getElem?_map,List.getElem?_eq_getElem hlt]
       exact h5 _ (List.getElem_mem hlt))
     simp only [Val.size,Val.sizes]
     omega
   rw [if_neg hc]
   have:=mkS_size (g:=fun u q=>mkF p l n u q (d+1)) ((theDef p t.df).slots.map SlotT.ty) (pos+1) fun u hu q=>by
     obtain ⟨s,hs1,rfl⟩:=List.mem_map.1 hu
     exact ih _ q (d+1) (h5 s hs1)
   simp only [Val.size]
   omega
def rzV (p : ProgT) (t : Ty) : Val:=if (zeroV p t).2.1 ≠ 0 then v0 else (zeroV p t).1
def valV (p : ProgT) (n : Nat) (t : Ty) (l : List Int) : Val :=
 if 256 < (mkF p l n t 0 1).1.size\/24 < (mkF p l n t 0 1).1.depth then rzV p t else (mkF p l n t 0 1).1
theorem Val.depths_le {l : List Val} (h : ∀ k∈l,k.depth<=k.size) : Val.depths l<=Val.sizes l:=by
 induction l with
 | nil=>simp [Val.depths]
 | cons x xs ih =>
   have h1:=h x (List.mem_cons_self ..)
   have h2:=ih fun k hk=>h k (List.mem_cons_of_mem _ hk)
   simp only [Val.depths,Val.sizes]
   omega
theorem Val.depth_le (v : Val) : v.depth<=v.size:=by
 refine Val.rec' (p:=fun v=>v.depth<=v.size) (fun v ih=>?_) v
 rw [Val.depth_eq,Val.size_eq]
 have:=Val.depths_le ih
 omega
theorem cmpI_eq0 {a b : Int} (h : cmpI a b = 0) : a = b:=by unfold cmpI at h;split at h <;> (try split at h) <;> omega
def lx (a b : Int) : Int:=if a ≠ 0 then a else b
theorem lx_eq0 {a b : Int} (h : lx a b = 0) : a = 0/\b = 0:=by unfold lx at h;split at h <;> omega
theorem cmpV_lx (a b : Val) : cmpV a b = lx (cmpI a.kind b.kind) (lx (cmpI a.n b.n) (lx (cmpI a.kids.length b.kids.length) (cmpVs a.kids b.kids))):=by rw [cmpV_eq];rfl
theorem cmpVs_cons (x y : Val) (xs ys : List Val) : cmpVs (x::xs) (y::ys) = lx (cmpV x y) (cmpVs xs ys):=by rw [cmpVs];rfl
mutual
theorem cmpV_self : ∀ a : Val,cmpV a a = 0
 | .mk k n l=>by rw [cmpV_lx];simp only [Val.kind,Val.n,Val.kids,cmpI_self,cmpVs_self l,lx];simp
theorem cmpVs_self : ∀ l : List Val,cmpVs l l = 0
 | []=>by rw [cmpVs]
 | x::xs=>by rw [cmpVs_cons,cmpV_self x,cmpVs_self xs];rfl
end
mutual
theorem cmpV_eq0 : ∀ a b : Val,cmpV a b = 0->a = b
 | .mk k n l,.mk k' n' l',h=>by
   rw [cmpV_lx] at h
   obtain ⟨h1,h⟩:=lx_eq0 h
   obtain ⟨h2,h⟩:=lx_eq0 h
   obtain ⟨_,h⟩:=lx_eq0 h
   have e1:=cmpI_eq0 h1
   have e2:=cmpI_eq0 h2
   have e3:=cmpVs_eq0 l l' h
   simp only [Val.kind,Val.n] at e1 e2
   rw [e1,e2,e3]
theorem cmpVs_eq0 : ∀ a b : List Val,cmpVs a b = 0->a = b
 | [],[],_=>rfl
 | [],_::_,h=>by rw [cmpVs] at h;omega
 | _::_,[],h=>by rw [cmpVs] at h;omega
 | x::xs,y::ys,h=>by
   rw [cmpVs_cons] at h
   obtain ⟨h1,h2⟩:=lx_eq0 h
   rw [cmpV_eq0 x y h1,cmpVs_eq0 xs ys h2]
end
def spoilAt (v : Val) (how wth : Int) : Val :=
 if around how 5 = 0 then .mk wth v.n v.kids else if around how 5 = 1 then .mk v.kind wth v.kids else if around how 5 = 2 then .mk v.kind (v.n+1) v.kids
 else if around how 5 = 3 then .mk v.kind v.n (v.kids++[.mk (around wth 5) 0 []]) else .mk v.kind v.n (v.kids.drop 1)
inductive Val.Sm : Val->Prop
 | mk {v : Val} : -4611686018427387904<=v.n/\v.n<=4611686018427387904->(∀ k∈v.kids,Val.Sm k)->Val.Sm v
theorem Val.Sm.n {v : Val} (h : v.Sm) : -4611686018427387904<=v.n/\v.n<=4611686018427387904:=by cases h with | mk a b=>exact a
theorem Val.Sm.kid {v k : Val} (h : v.Sm) (hk : k∈v.kids) : k.Sm:=by cases h with | mk a b=>exact b k hk
theorem idK_small {n : Int} (h0 : 0<=n) (h1 : n < 32) : idK n = ⟨0,1,n⟩:=by
 have e1 : n.tdiv 32 = 0:=by rw [Int.tdiv_eq_ediv_of_nonneg h0];omega
 have e2 : n.tmod 32 = n:=by rw [Int.tmod_eq_emod_of_nonneg h0];omega
 rw [idK,e1,e2];rfl
theorem tDefs_get (l : List Int) {k i : Nat} (h : i < k) : (tDefs l k)[i]'(by rw [tDefs_len];exact h) = tDef l i:=by simp [tDefs]
theorem types_def (l : List Int) {i : Nat} (h : i < tMany l) : hasDef (typesP l) (idK (1+(i : Int)))/\theDef (typesP l) (idK (1+(i : Int))) = tDef l i:=by
 have hm:=tMany_rng l
 have hl : i < (typesP l).defs.length:=by rw [show (typesP l).defs = tDefs l (tMany l) from rfl,tDefs_len];exact h
 have hg : (typesP l).defs[i] = tDef l i:=tDefs_get l h
 have h1:=theDef_hit (p:=typesP l) (id:=idK (1+(i : Int))) hl (fun j hj hlt e=>by
   have hj' : j < tMany l:=Q0
   rw [show (typesP l).defs[j] = tDef l j from tDefs_get l hj'] at e
   have e2 : idK (1+(j : Int)) = idK (1+(i : Int)):=e
   rw [idK_small Q0 Q0,idK_small Q0 Q0] at e2
   simp only [IdT.mk.injEq] at e2
   omega) (by rw [hg];rfl)
 rw [hg] at h1
 exact h1
theorem wfT_mono {p : ProgT} : ∀ {n m : Nat} {t : Ty},n<=m->wfT p n t->wfT p m t
 | 0,_,_,_,h=>h.elim
 | n+1,0,_,hm,_=>by omega
 | n+1,m+1,t,hm,h=>by
   rw [wfT] at h ⊢
   rcases h with h | h | h | h
   · exact .inl h
   · exact .inr (.inl h)
   · exact .inr (.inr (.inl ⟨h.1,h.2.1,wfT_mono Q0 h.2.2⟩))
   · exact .inr (.inr (.inr ⟨h.1,h.2.1,h.2.2.1,h.2.2.2.1,h.2.2.2.2.1,fun s hs=>wfT_mono Q0 (h.2.2.2.2.2 s hs)⟩))
theorem wfT_num (p : ProgT) (n : Nat) : wfT p (n+1) ty0:=.inl rfl
theorem wfT_bool (p : ProgT) (n : Nat) : wfT p (n+1) (.mk 1 id0 []):=.inr (.inl rfl)
theorem wfT_listT {p : ProgT} {n : Nat} {t : Ty} (h : wfT p n t) : wfT p (n+1) (listT t):=.inr (.inr (.inl ⟨rfl,by simp [listT,Ty.kids],h⟩))
theorem pick_wf {p : ProgT} {f q : Nat} (n : Int) (hof : ∀ j : Nat,j < q->wfT p f (ofT (idK (1+(j : Int))))) : wfT p (f+2) (pickTy n q):=by
 have hr:=around_lt n (4+2 * (q : Int)) Q0
 unfold pickTy
 split
 · exact wfT_bool p _
 split
 · exact wfT_listT (wfT_num p f)
 split
 · rename_i h4
   have e : (around n (4+2 * (q : Int)) - 4).tdiv 2 = (around n (4+2 * (q : Int)) - 4) / 2:=Int.tdiv_eq_ediv_of_nonneg Q0
   obtain ⟨j,hj⟩:=Int.eq_ofNat_of_zero_le (show 0<=(around n (4+2 * (q : Int)) - 4) / 2 by omega)
   rw [e,hj]
   have h:=hof j Q0
   split
   · exact wfT_mono Q0 (wfT_listT h)
   · exact wfT_mono Q0 h
 · exact wfT_num p _
theorem types_wf (l : List Int) : ∀ i : Nat,i < tMany l->wfT (typesP l) (3 * i+3) (ofT (idK (1+(i : Int)))):=by
 intro i
 induction i using Nat.strongRecOn with
 | _ i ih =>
   intro hi
   have hd:=(types_def l hi).2
   rw [wfT]
   refine .inr (.inr (.inr ⟨by simp [ofT,Ty.kind],by simp [ofT,Ty.kind],by simp [ofT,Ty.kind],?_⟩))
   have ha:=tArity_rng l i
   rw [show (ofT (idK (1+(i : Int)))).df = idK (1+(i : Int)) from rfl,hd]
   have hs : (tDef l i).slots = tSlots l i (tArity l i):=rfl
   rw [hs,tSlots_len]
   refine ⟨Q0,fun _=>by omega,fun s hs=>?_⟩
   obtain ⟨j,_,rfl⟩:=List.mem_map.1 hs
   refine pick_wf (f:=3 * i) _ fun k hk=>?_
   exact wfT_mono Q0 (ih k hk Q0)
theorem mkS_all {Q : Val->Prop} {g : Ty->Int->MR} : ∀ (ts : List Ty) (pos : Int),(∀ t∈ts,∀ q,Q (g t q).1)->∀ v∈(mkS g ts pos).1,Q v
 | [],_,_,v,hv=>by simp [mkS] at hv
 | t::ts,pos,h,v,hv=>by
   simp only [mkS,List.mem_cons] at hv
   rcases hv with rfl | hv
   · exact h t (List.mem_cons_self ..) pos
   · exact mkS_all ts _ (fun u hu=>h u (List.mem_cons_of_mem _ hu)) v hv
def Val.Fine (v : Val) : Prop:=v.Ok/\v.Sm
theorem fine_mk {k n : Int} {l : List Val} (hk : 0<=k/\k<=4) (hn : -4611686018427387904<=n/\n<=4611686018427387904) (h : ∀ v∈l,v.Fine) : (Val.mk k n l).Fine :=
 ⟨.mk (by simp only [Val.kind,InI];omega) (by simp only [Val.n,InI];omega) fun v hv=>(h v hv).1,.mk hn fun v hv=>(h v hv).2⟩
theorem mkF_fine {p : ProgT} {l : List Int} : ∀ (n : Nat) (t : Ty) (pos d : Int),wfT p n t->(mkF p l n t pos d).1.Fine:=by
 intro n
 induction n with
 | zero=>intro t pos d h;exact h.elim
 | succ n ih =>
   intro t pos d h
   have hc:=atL_lt l pos 1048576 Q0
   have hq : (atL l pos 1048576).tdiv 16 = atL l pos 1048576 / 16:=Int.tdiv_eq_ediv_of_nonneg hc.1
   have hq3 : ((atL l pos 1048576).tdiv 16).tmod 3 = atL l pos 1048576 / 16 % 3:=by rw [hq,Int.tmod_eq_emod_of_nonneg Q0]
   have hq9 : ((atL l pos 1048576).tdiv 16).tmod 9 = atL l pos 1048576 / 16 % 9:=by rw [hq,Int.tmod_eq_emod_of_nonneg Q0]
   have hr2 : (atL l pos 1048576).tmod 2 = atL l pos 1048576 % 2:=Int.tmod_eq_emod_of_nonneg hc.1
   have none : ∀ v∈([] : List Val),v.Fine:=fun v hv=>by cases hv
   rw [mkF]
   by_cases h0 : t.kind = 0
   · rw [if_pos h0]
     split
     · exact fine_mk Q0 Q0 none
     · split
       · exact fine_mk Q0 Q0 none
       · exact fine_mk Q0 Q0 none
   rw [if_neg h0]
   by_cases h1 : t.kind = 1
   · rw [if_pos h1];exact fine_mk Q0 Q0 none
   rw [if_neg h1]
   by_cases h2 : t.kind = 2
   · rw [if_pos h2]
     have hk:=(wfT_list h h2).2
     exact fine_mk Q0 Q0 (mkS_all _ _ fun u hu q=>by rw [List.eq_of_mem_replicate hu];exact ih _ q (d+1) hk)
   rw [if_neg h2]
   obtain ⟨h3,h4,h5⟩:=wfT_def h h0 h1 h2
   by_cases hcd : (theDef p t.df).kind = 1
   · rw [if_pos hcd]
     have hpos:=h4 hcd
     have h6:=Int.emod_lt_of_pos (atL l pos 1048576) (show (0 : Int) < (theDef p t.df).slots.length by omega)
     have h7:=Int.emod_nonneg (atL l pos 1048576) (show ((theDef p t.df).slots.length : Int) ≠ 0 by omega)
     have hm : (atL l pos 1048576).tmod (theDef p t.df).slots.length = atL l pos 1048576 % (theDef p t.df).slots.length:=Int.tmod_eq_emod_of_nonneg hc.1
     have hlt : ((atL l pos 1048576).tmod (theDef p t.df).slots.length).toNat < (theDef p t.df).slots.length:=Q0
     refine fine_mk Q0 Q0 fun v hv=>?_
     rw [List.mem_singleton] at hv
     rw [hv]
     refine ih _ (pos+1) (d+1) ?_
     rw [List.getD_eq_getElem?_getD,List.getElem?_map,List.getElem?_eq_getElem hlt]
     exact h5 _ (List.getElem_mem hlt)
   rw [if_neg hcd]
   refine fine_mk Q0 Q0 (mkS_all _ _ fun u hu q=>?_)
   obtain ⟨s,hs1,rfl⟩:=List.mem_map.1 hu
   exact ih _ q (d+1) (h5 s hs1)
theorem fine_nil : ∀ v∈([] : List Val),v.Fine:=fun v hv=>by cases hv
theorem v0_fine : v0.Fine:=fine_mk Q1 Q1 fine_nil
theorem zeroL_fine {g : Ty->Int->ZR} (hg : ∀ t l,(g t l).1.Fine) : ∀ (ts : List Ty) (l : Int),∀ v∈(zeroL g ts l).1,v.Fine
 | [],l,v,hv=>by simp [zeroL] at hv
 | t::ts,l,v,hv=>by
   rw [zeroL] at hv
   split at hv
   · simp at hv
   · split at hv
     · simp at hv
     · simp only [List.mem_cons] at hv
       rcases hv with rfl | hv
       · exact hg t l
       · exact zeroL_fine hg ts _ v hv
theorem zNode_fine {k : Int} (hk : 0<=k/\k<=4) {r : List Val×Int×Int} (h : ∀ v∈r.1,v.Fine) : (zNode k r).1.Fine:=by
 unfold zNode
 split
 · exact v0_fine
 · exact fine_mk hk Q1 h
theorem zeroF_fine (p : ProgT) : ∀ (n : Nat) (t : Ty) (l : Int),(zeroF p n t l).1.Fine:=by
 intro n
 induction n with
 | zero=>intro t l;rw [zeroF];split <;> exact v0_fine
 | succ n ih =>
   intro t l
   rw [zeroF]
   split
   · exact v0_fine
   split
   · exact v0_fine
   split
   · exact fine_mk Q1 Q1 fine_nil
   split
   · exact fine_mk Q1 Q1 fine_nil
   split
   · exact fine_mk Q1 Q1 fine_nil
   split
   · split
     · exact v0_fine
     · exact zNode_fine Q1 (zeroL_fine ih _ _)
   · exact zNode_fine Q1 (zeroL_fine ih _ _)
theorem rzV_fine (p : ProgT) (t : Ty) : (rzV p t).Fine:=by
 unfold rzV
 split
 · exact v0_fine
 · exact zeroF_fine p 24 t 256
theorem valV_fine {p : ProgT} {n : Nat} {t : Ty} {l : List Int} (h : wfT p n t) : (valV p n t l).Fine:=by
 unfold valV
 split
 · exact rzV_fine p t
 · exact mkF_fine n t 0 1 h
theorem spoilAt_ok {v : Val} {how wth : Int} (h : v.Fine) (hw : InI wth) : (spoilAt v how wth).Ok:=by
 have hk:=h.1.kind
 have hn:=h.1.n
 have hs:=h.2.n
 unfold spoilAt
 split
 · exact .mk hw hn fun k hk=>h.1.kid hk
 split
 · exact .mk hk hw fun k hk=>h.1.kid hk
 split
 · exact .mk hk (show InI (v.n+1) by unfold InI;omega) fun k hk=>h.1.kid hk
 split
 · refine .mk hk hn fun k hk=>?_
   have hr:=around_lt wth 5 Q0
   simp only [Val.kids,List.mem_append,List.mem_singleton] at hk
   rcases hk with hk | rfl
   · exact h.1.kid hk
   · exact (fine_mk Q0 Q0 fine_nil).1
 · exact .mk hk hn fun k hk=>h.1.kid (List.mem_of_mem_drop hk)
theorem zeroL_size {g : Ty->Int->ZR} (hg : ∀ t l,(g t l).2.1 = 0->((g t l).1.size : Int)+(g t l).2.2<=l) : ∀ (ts : List Ty) (l : Int),(zeroL g ts l).2.1 = 0->(Val.sizes (zeroL g ts l).1 : Int)+(zeroL g ts l).2.2<=l
 | [],l,_=>by simp [zeroL,Val.sizes]
 | t::ts,l,h=>by
   rw [zeroL] at h ⊢
   by_cases h1 : (g t l).2.1 ≠ 0
   · rw [if_pos h1] at h;exact absurd h h1
   rw [if_neg h1] at h ⊢
   by_cases h2 : (zeroL g ts (g t l).2.2).2.1 ≠ 0
   · rw [if_pos h2] at h;exact absurd h h2
   rw [if_neg h2]
   have k1:=hg t l Q0
   have k2:=zeroL_size hg ts (g t l).2.2 Q0
   simp only [Val.sizes]
   omega
theorem zNode_size {k : Int} {r : List Val×Int×Int} {l : Int} (h : r.2.1 = 0->(Val.sizes r.1 : Int)+r.2.2<=l - 1) (h0 : (zNode k r).2.1 = 0) : ((zNode k r).1.size : Int)+(zNode k r).2.2<=l:=by
 unfold zNode at h0 ⊢
 by_cases h1 : r.2.1 ≠ 0
 · rw [if_pos h1] at h0;exact absurd h0 h1
 · rw [if_neg h1]
   have:=h Q0
   simp only [Val.size]
   omega
theorem zeroF_size (p : ProgT) : ∀ (n : Nat) (t : Ty) (l : Int),(zeroF p n t l).2.1 = 0->((zeroF p n t l).1.size : Int)+(zeroF p n t l).2.2<=l:=by
 intro n
 induction n with
 | zero=>intro t l h;rw [zeroF] at h;split at h <;> (simp at h)
 | succ n ih =>
   intro t l h
   rw [zeroF] at h ⊢
   split
   · rename_i h1;rw [if_pos h1] at h;simp at h
   rename_i h1;rw [if_neg h1] at h
   split
   · rename_i h2;rw [if_pos h2] at h;simp at h
   rename_i h2;rw [if_neg h2] at h
   split
   · simp [Val.size,Val.sizes];omega
   rename_i h3;rw [if_neg h3] at h
   split
   · simp [Val.size,Val.sizes];omega
   rename_i h4;rw [if_neg h4] at h
   split
   · simp [Val.size,Val.sizes];omega
   rename_i h5;rw [if_neg h5] at h
   split
   · rename_i h6;rw [if_pos h6] at h
     split
     · rename_i h7;rw [if_pos h7] at h;simp at h
     · rename_i h7;rw [if_neg h7] at h
       exact zNode_size (zeroL_size ih _ _) h
   · rename_i h6;rw [if_neg h6] at h
     exact zNode_size (zeroL_size ih _ _) h
theorem zeroV_size (p : ProgT) (t : Ty) (h : (zeroV p t).2.1 = 0) : (zeroV p t).1.size<=256:=by
 have h1:=zeroF_size p 24 t 256 h
 have h2:=(zeroF_left p 24 t 256 h).1
 unfold zeroV
 omega
mutual
theorem visitV_iff : ∀ (v : Val) (d s : Int),0<=s->((visitV v d s).1 = true↔((v.size : Int)<=s/\d+v.depth<=25))/\((visitV v d s).1 = true->(visitV v d s).2 = s - v.size)
 | .mk k n l,d,s,h=>by
   rw [visitV,Val.size,Val.depth]
   split
   · rename_i hc
     have:=visitVs_iff l (d+1) (s - 1) Q0 Q0
     refine ⟨⟨fun h=>?_,fun h=>?_⟩,fun h=>?_⟩
     · have:=this.1.1 h;omega
     · exact this.1.2 Q0
     · have:=this.2 h;omega
   · rename_i hc
     refine ⟨⟨fun h=>by simp at h,fun h=>absurd ?_ hc⟩,fun h=>by simp at h⟩
     omega
theorem visitVs_iff : ∀ (l : List Val) (d s : Int),0<=s->d<=25->((visitVs l d s).1 = true↔((Val.sizes l : Int)<=s/\d+Val.depths l<=25))/\((visitVs l d s).1 = true->(visitVs l d s).2 = s - Val.sizes l)
 | [],d,s,h,hd=>by
   simp only [visitVs,Val.sizes,Val.depths,true_iff,forall_const]
   omega
 | v::vs,d,s,h,hd=>by
   have h1:=visitV_iff v d s h
   rw [visitVs,Val.sizes,Val.depths]
   split
   · rename_i hc
     have h2:=h1.1.1 hc
     have h3:=h1.2 hc
     have h4:=visitVs_iff vs d (visitV v d s).2 Q0 hd
     rw [h3] at h4 ⊢
     refine ⟨⟨fun h=>?_,fun h=>h4.1.2 Q0⟩,fun h=>?_⟩
     · have:=h4.1.1 h;omega
     · have:=h4.2 h;omega
   · rename_i hc
     refine ⟨⟨fun h=>by simp at h,fun h=>absurd (h1.1.2 ?_) hc⟩,fun h=>by simp at h⟩
     omega
end
theorem small_iff (v : Val) : smallV v↔v.size<=256/\v.depth<=24:=by
 have:=(visitV_iff v 1 256 Q1).1
 unfold smallV
 rw [this];omega
theorem valid_iff (p : ProgT) (t : Ty) (v : Val) : validV p t v↔v.size<=256/\v.depth<=24/\fitsB p v t = true:=by
 unfold validV;rw [small_iff,and_assoc]

theorem isTyDef_of {p : ProgT} {t : Ty} (h : validT p t) (h0 : ¬ t.kind = 0) (h1 : ¬ t.kind = 1) (h2 : ¬ t.kind = 2) : t.kind = 3/\isTyDef p t.df:=by
 have h3 : t.kind = 3:=by
   rcases Decidable.em (t.kind = 3) with h3 | h3
   · exact h3
   · have:=((validTF_one h2 h3).1 h).2.2;omega
 exact ⟨h3,((validTF_def h3).1 h).1⟩
theorem zeroL_fits {p : ProgT} {g : Ty->Int->ZR} (hg : ∀ t l,(g t l).2.1 = 0->fitsB p (g t l).1 t = true) : ∀ (ts : List Ty) (l : Int),(zeroL g ts l).2.1 = 0->fitsZ p (zeroL g ts l).1 ts = true/\(zeroL g ts l).1.length = ts.length
 | [],l,_=>by simp [zeroL,fitsZ]
 | t::ts,l,h=>by
   rw [zeroL] at h ⊢
   by_cases h1 : (g t l).2.1 ≠ 0
   · rw [if_pos h1] at h;exact absurd h h1
   rw [if_neg h1] at h ⊢
   by_cases h2 : (zeroL g ts (g t l).2.2).2.1 ≠ 0
   · rw [if_pos h2] at h;exact absurd h h2
   rw [if_neg h2]
   have k1:=hg t l Q0
   have k2:=zeroL_fits hg ts (g t l).2.2 Q0
   simp only [fitsZ,k1,k2.1,Bool.and_self,List.length_cons,k2.2,and_self]
theorem zNode_ok {k : Int} {r : List Val×Int×Int} (h : (zNode k r).2.1 = 0) : r.2.1 = 0/\(zNode k r).1 = .mk k 0 r.1/\(zNode k r).2.2 = r.2.2:=by
 unfold zNode at h ⊢
 by_cases h1 : r.2.1 ≠ 0
 · rw [if_pos h1] at h;exact absurd h h1
 · rw [if_neg h1];exact ⟨Q0,rfl,rfl⟩
structure Zok (p : ProgT) (n : Nat) (t : Ty) (v : Val) : Prop where
 fits : fitsB p v t = true
 wt : v.wt = 0
 depth : v.depth<=n
theorem zeroL_wt {p : ProgT} {n : Nat} {g : Ty->Int->ZR} (hg : ∀ t l,(g t l).2.1 = 0->Zok p n t (g t l).1) : ∀ (ts : List Ty) (l : Int),(zeroL g ts l).2.1 = 0->Val.wts (zeroL g ts l).1 = 0/\Val.depths (zeroL g ts l).1<=n
 | [],l,_=>by simp [zeroL,Val.wts,Val.depths]
 | t::ts,l,h=>by
   rw [zeroL] at h ⊢
   by_cases h1 : (g t l).2.1 ≠ 0
   · rw [if_pos h1] at h;exact absurd h h1
   rw [if_neg h1] at h ⊢
   by_cases h2 : (zeroL g ts (g t l).2.2).2.1 ≠ 0
   · rw [if_pos h2] at h;exact absurd h h2
   rw [if_neg h2]
   have k1:=hg t l Q0
   have k2:=zeroL_wt hg ts (g t l).2.2 Q0
   have k3:=k1.wt
   have k4:=k1.depth
   simp only [Val.wts,Val.depths]
   omega
theorem zeroF_ok (p : ProgT) : ∀ (n : Nat) (t : Ty) (l : Int),(zeroF p n t l).2.1 = 0->Zok p n t (zeroF p n t l).1:=by
 intro n
 induction n with
 | zero=>intro t l h;rw [zeroF] at h;split at h <;> simp at h
 | succ n ih =>
   intro t l h
   rw [zeroF] at h ⊢
   by_cases hv : ¬ validT p t
   · rw [if_pos hv] at h;simp at h
   rw [if_neg hv] at h ⊢
   have hv : validT p t:=Decidable.not_not.1 hv
   by_cases hl : l - 1 < 0
   · rw [if_pos hl] at h;simp at h
   rw [if_neg hl] at h ⊢
   by_cases h0 : t.kind = 0
   · rw [if_pos h0]
     exact ⟨(fits0 hv h0).2 ⟨rfl,rfl,show (-1099511627776 : Int)<=0 by decide,show (0 : Int)<=1099511627776 by decide⟩,by simp [Val.wt],by simp [Val.depth,Val.depths]⟩
   rw [if_neg h0] at h ⊢
   by_cases h1 : t.kind = 1
   · rw [if_pos h1]
     exact ⟨(fits1 hv h1).2 ⟨rfl,rfl,.inl rfl⟩,by simp [Val.wt],by simp [Val.depth,Val.depths]⟩
   rw [if_neg h1] at h ⊢
   by_cases h2 : t.kind = 2
   · rw [if_pos h2]
     exact ⟨(fits2 hv h2).2 ⟨rfl,rfl,fun j hj=>by simp [Val.kids] at hj⟩,by simp [Val.wt,Val.wts],by simp [Val.depth,Val.depths]⟩
   rw [if_neg h2] at h ⊢
   obtain ⟨h3,_,hkd⟩:=isTyDef_of hv h0 h1 h2
   by_cases hc : (theDef p t.df).kind = 1
   · rw [if_pos hc] at h ⊢
     by_cases hz : (theDef p t.df).slots.length = 0
     · rw [if_pos hz] at h;simp at h
     rw [if_neg hz] at h ⊢
     obtain ⟨k1,k2,k3⟩:=zNode_ok h
     have k4:=zeroL_fits (fun t l h=>(ih t l h).fits) _ _ k1
     have k5:=zeroL_wt ih _ _ k1
     rw [k2]
     generalize hr : (zeroL (zeroF p n) (((theDef p t.df).slots.take 1).map SlotT.ty) (l - 1)).1 = r at k4 k5
     have hlen : r.length = 1:=by rw [k4.2];simp;omega
     have hts : ((theDef p t.df).slots.take 1).map SlotT.ty = [((theDef p t.df).slots[0]'Q0).ty]:=by
       rw [List.take_one,List.head?_eq_getElem?,List.getElem?_eq_getElem Q0];rfl
     refine ⟨(fits3k (v:=.mk 3 0 r) hv h0 h1 h2 hc rfl (Int.le_refl _) (show (0 : Int).toNat < _ by simp;omega) hlen).2 ?_,?_,?_⟩
     · rw [hts] at k4
       match r,hlen,k4 with
       | [x],_,k4 =>
         have:=k4.1
         simp only [fitsZ,Bool.and_true] at this
         exact this
     · simp [Val.wt,k5.1]
     · simp only [Val.depth];omega
   · rw [if_neg hc] at h ⊢
     obtain ⟨k1,k2,k3⟩:=zNode_ok h
     have k4:=zeroL_fits (fun t l h=>(ih t l h).fits) _ _ k1
     have k5:=zeroL_wt ih _ _ k1
     rw [k2]
     refine ⟨?_,?_,?_⟩
     · rw [fitsB_eq,if_neg h0,if_neg h1,if_neg h2,if_neg hc]
       simp only [Val.kind,Val.n,Val.kids,k4.1,k4.2,hv,List.length_map,decide_true,Bool.and_self]
     · simp [Val.wt,k5.1]
     · simp only [Val.depth];omega
def zT (p : ProgT) : Nat->Ty->Nat->Prop
 | 0,_,_=>False
 | n+1,t,c=>validT p t/\((t.kind = 0\/t.kind = 1\/t.kind = 2)/\1<=c \/
   (t.kind = 3/\(theDef p t.df).slots.length<=3/\((theDef p t.df).kind = 1->0 < (theDef p t.df).slots.length)/\∃ c',1+3 * c'<=c/\∀ s∈(theDef p t.df).slots,zT p n s.ty c'))
theorem zeroL_cost {g : Ty->Int->ZR} {c : Nat} : ∀ (ts : List Ty) (l : Int),(∀ t∈ts,∀ l : Int,(c : Int)<=l->(g t l).2.1 = 0/\l - c<=(g t l).2.2)->((ts.length * c : Nat) : Int)<=l->(zeroL g ts l).2.1 = 0/\l - (ts.length * c : Nat)<=(zeroL g ts l).2.2
 | [],l,_,_=>by simp [zeroL]
 | t::ts,l,hg,hl=>by
   rw [List.length_cons,Nat.succ_mul] at hl
   have k1:=hg t (List.mem_cons_self ..) l Q0
   have k2:=zeroL_cost ts (g t l).2.2 (fun u hu=>hg u (List.mem_cons_of_mem _ hu)) Q0
   rw [zeroL,if_neg Q0,if_neg Q0,List.length_cons,Nat.succ_mul]
   refine ⟨rfl,?_⟩
   show l - ((ts.length * c+c : Nat) : Int)<=(zeroL g ts (g t l).2.2).2.2
   omega
theorem zeroF_cost {p : ProgT} : ∀ (n m : Nat) (t : Ty) (c : Nat) (l : Int),zT p n t c->n<=m->(c : Int)<=l->(zeroF p m t l).2.1 = 0/\l - c<=(zeroF p m t l).2.2:=by
 intro n
 induction n with
 | zero=>intro m t c l h;exact h.elim
 | succ n ih =>
   intro m t c l h hm hl
   obtain ⟨m,rfl⟩ : ∃ q,m = q+1:=⟨m - 1,Q0⟩
   obtain ⟨hv,h⟩:=h
   rw [zeroF,if_neg (by simp [hv])]
   rcases h with ⟨hk,hc⟩ | ⟨hk,h3,h4,c',hc,h5⟩
   · rw [if_neg Q0]
     have e : l - (c : Int)<=l - 1:=Q0
     split
     · exact ⟨rfl,e⟩
     split
     · exact ⟨rfl,e⟩
     split
     · exact ⟨rfl,e⟩
     · omega
   · rw [if_neg Q0,if_neg Q0,if_neg Q0,if_neg Q0]
     have key : ∀ (k : Int) (ts : List Ty),ts.length<=3->(∀ u∈ts,∃ s∈(theDef p t.df).slots,s.ty = u)->(zNode k (zeroL (zeroF p m) ts (l - 1))).2.1 = 0/\l - c<=(zNode k (zeroL (zeroF p m) ts (l - 1))).2.2:=fun k ts hlen hts=>by
       have hmul : ts.length * c'<=3 * c':=Nat.mul_le_mul_right _ hlen
       have:=zeroL_cost (g:=zeroF p m) (c:=c') ts (l - 1) (fun u hu l' hl'=>by
         obtain ⟨s,hs,rfl⟩:=hts u hu
         exact ih m s.ty c' l' (h5 s hs) Q0 hl') Q0
       unfold zNode
       rw [if_neg Q0]
       refine ⟨rfl,?_⟩
       show l - (c : Int)<=(zeroL (zeroF p m) ts (l - 1)).2.2
       omega
     split
     · rename_i hcd
       rw [if_neg (by have:=h4 hcd;omega)]
       exact key 3 _ Qc fun u hu=>by
         obtain ⟨s,hs,rfl⟩:=List.mem_map.1 hu
         exact ⟨s,List.mem_of_mem_take hs,rfl⟩
     · exact key 2 _ (by simpa using h3) fun u hu=>by
         obtain ⟨s,hs,rfl⟩:=List.mem_map.1 hu
         exact ⟨s,hs,rfl⟩

def vdT (p : ProgT) : Nat->Ty->Prop
 | 0,_=>False
 | n+1,t=>validT p t/\(t.kind = 2->vdT p n (t.kids.headD ty0))/\(t.kind = 3->∀ s∈(theDef p t.df).slots,vdT p n s.ty)
theorem mkS_fitsZ {p : ProgT} {g : Ty->Int->MR} : ∀ (ts : List Ty) (pos : Int),(∀ t∈ts,∀ q,fitsB p (g t q).1 t = true)->fitsZ p (mkS g ts pos).1 ts = true/\(mkS g ts pos).1.length = ts.length
 | [],_,_=>by simp [mkS,fitsZ]
 | t::ts,pos,h=>by
   have k1:=h t (List.mem_cons_self ..) pos
   have k2:=mkS_fitsZ ts (g t pos).2 fun u hu=>h u (List.mem_cons_of_mem _ hu)
   simp only [mkS,fitsZ,k1,k2.1,Bool.and_self,List.length_cons,k2.2,and_self]
theorem mkS_fitsL {p : ProgT} {g : Ty->Int->MR} {t : Ty} (h : ∀ q,fitsB p (g t q).1 t = true) : ∀ (m : Nat) (pos : Int),fitsL p (mkS g (List.replicate m t) pos).1 t = true
 | 0,_=>by simp [mkS,fitsL]
 | m+1,pos=>by
   rw [List.replicate_succ,mkS,fitsL,h pos,mkS_fitsL h m (g t pos).2];rfl
theorem mkF_fits {p : ProgT} {l : List Int} : ∀ (n : Nat) (t : Ty) (pos d : Int),wfT p n t->vdT p n t->fitsB p (mkF p l n t pos d).1 t = true:=by
 intro n
 induction n with
 | zero=>intro t pos d h;exact h.elim
 | succ n ih =>
   intro t pos d h hd
   obtain ⟨hv,hd2,hd3⟩:=hd
   have hc:=atL_lt l pos 1048576 Q0
   have hq : (atL l pos 1048576).tdiv 16 = atL l pos 1048576 / 16:=Int.tdiv_eq_ediv_of_nonneg hc.1
   have hq3 : ((atL l pos 1048576).tdiv 16).tmod 3 = atL l pos 1048576 / 16 % 3:=by rw [hq,Int.tmod_eq_emod_of_nonneg Q0]
   have hq9 : ((atL l pos 1048576).tdiv 16).tmod 9 = atL l pos 1048576 / 16 % 9:=by rw [hq,Int.tmod_eq_emod_of_nonneg Q0]
   have hr2 : (atL l pos 1048576).tmod 2 = atL l pos 1048576 % 2:=Int.tmod_eq_emod_of_nonneg hc.1
   rw [mkF]
   by_cases h0 : t.kind = 0
   · rw [if_pos h0]
     split
     · exact (fits0 hv h0).2 ⟨rfl,rfl,by simp only [Val.n];omega,by simp only [Val.n];omega⟩
     · split
       · exact (fits0 hv h0).2 ⟨rfl,rfl,by simp only [Val.n];omega,by simp only [Val.n];omega⟩
       · exact (fits0 hv h0).2 ⟨rfl,rfl,by simp only [Val.n];omega,by simp only [Val.n];omega⟩
   rw [if_neg h0]
   by_cases h1 : t.kind = 1
   · rw [if_pos h1];exact (fits1 hv h1).2 ⟨rfl,rfl,by simp only [Val.n];omega⟩
   rw [if_neg h1]
   by_cases h2 : t.kind = 2
   · rw [if_pos h2]
     have hk:=(wfT_list h h2).2
     rw [fitsB_eq,if_neg h0,if_neg h1,if_pos h2]
     have kL:=mkS_fitsL (p:=p) (g:=fun u q=>mkF p l n u q (d+1)) (t:=t.kids.headD ty0) (fun q=>ih _ q (d+1) hk (hd2 h2)) (if 3 < d then 0 else ((atL l pos 1048576).tmod 3).toNat) (pos+1)
     simp only [Val.kind,Val.n,Val.kids,kL,hv,decide_true,Bool.and_self]
   rw [if_neg h2]
   obtain ⟨h3,h4,h5⟩:=wfT_def h h0 h1 h2
   obtain ⟨hk3,_,hkd⟩:=isTyDef_of hv h0 h1 h2
   by_cases hcd : (theDef p t.df).kind = 1
   · rw [if_pos hcd]
     have hpos:=h4 hcd
     have h6:=Int.emod_lt_of_pos (atL l pos 1048576) (show (0 : Int) < (theDef p t.df).slots.length by omega)
     have h7:=Int.emod_nonneg (atL l pos 1048576) (show ((theDef p t.df).slots.length : Int) ≠ 0 by omega)
     have hm : (atL l pos 1048576).tmod (theDef p t.df).slots.length = atL l pos 1048576 % (theDef p t.df).slots.length:=Int.tmod_eq_emod_of_nonneg hc.1
     have hlt : ((atL l pos 1048576).tmod (theDef p t.df).slots.length).toNat < (theDef p t.df).slots.length:=Q0
     rw [getD_map hlt]
     refine (fits3k (v:=.mk 3 ((atL l pos 1048576).tmod (theDef p t.df).slots.length) [_]) hv h0 h1 h2 hcd rfl (show 0<=(atL l pos 1048576).tmod (theDef p t.df).slots.length by omega) hlt rfl).2 ?_
     exact ih _ (pos+1) (d+1) (h5 _ (List.getElem_mem hlt)) (hd3 hk3 _ (List.getElem_mem hlt))
   rw [if_neg hcd]
   have k:=mkS_fitsZ (p:=p) (g:=fun u q=>mkF p l n u q (d+1)) ((theDef p t.df).slots.map SlotT.ty) (pos+1) fun u hu q=>by
     obtain ⟨s,hs1,rfl⟩:=List.mem_map.1 hu
     exact ih _ q (d+1) (h5 s hs1) (hd3 hk3 s hs1)
   rw [fitsB_eq,if_neg h0,if_neg h1,if_neg h2,if_neg hcd]
   simp only [Val.kind,Val.n,Val.kids,k.1,k.2,hv,List.length_map,decide_true,Bool.and_self]
theorem mkS_depth {g : Ty->Int->MR} {n : Nat} : ∀ (ts : List Ty) (pos : Int),(∀ t∈ts,∀ q,(g t q).1.depth<=n)->Val.depths (mkS g ts pos).1<=n
 | [],_,_=>by simp [mkS,Val.depths]
 | t::ts,pos,h=>by
   have k1:=h t (List.mem_cons_self ..) pos
   have k2:=mkS_depth ts (g t pos).2 fun u hu=>h u (List.mem_cons_of_mem _ hu)
   simp only [mkS,Val.depths];omega
theorem mkF_depth {p : ProgT} {l : List Int} : ∀ (n : Nat) (t : Ty) (pos d : Int),wfT p n t->(mkF p l n t pos d).1.depth<=n:=by
 intro n
 induction n with
 | zero=>intro t pos d h;exact h.elim
 | succ n ih =>
   intro t pos d h
   rw [mkF]
   by_cases h0 : t.kind = 0
   · rw [if_pos h0]
     split
     · simp [Val.depth,Val.depths]
     · split <;> simp [Val.depth,Val.depths]
   rw [if_neg h0]
   by_cases h1 : t.kind = 1
   · rw [if_pos h1];simp [Val.depth,Val.depths]
   rw [if_neg h1]
   by_cases h2 : t.kind = 2
   · rw [if_pos h2]
     have hk:=(wfT_list h h2).2
     have:=mkS_depth (n:=n) (g:=fun u q=>mkF p l n u q (d+1)) (List.replicate (if 3 < d then 0 else ((atL l pos 1048576).tmod 3).toNat) (t.kids.headD ty0)) (pos+1) fun u hu q=>by rw [List.eq_of_mem_replicate hu];exact ih _ q (d+1) hk
     simp only [Val.depth];omega
   rw [if_neg h2]
   obtain ⟨h3,h4,h5⟩:=wfT_def h h0 h1 h2
   by_cases hcd : (theDef p t.df).kind = 1
   · rw [if_pos hcd]
     have hpos:=h4 hcd
     have hc:=atL_lt l pos 1048576 Q0
     have h6:=Int.emod_lt_of_pos (atL l pos 1048576) (show (0 : Int) < (theDef p t.df).slots.length by omega)
     have h7:=Int.emod_nonneg (atL l pos 1048576) (show ((theDef p t.df).slots.length : Int) ≠ 0 by omega)
     have hm : (atL l pos 1048576).tmod (theDef p t.df).slots.length = atL l pos 1048576 % (theDef p t.df).slots.length:=Int.tmod_eq_emod_of_nonneg hc.1
     have hlt : ((atL l pos 1048576).tmod (theDef p t.df).slots.length).toNat < (theDef p t.df).slots.length:=Q0
     rw [getD_map hlt]
     have:=ih _ (pos+1) (d+1) (h5 _ (List.getElem_mem hlt))
     simp only [Val.depth,Val.depths];omega
   rw [if_neg hcd]
   have:=mkS_depth (n:=n) (g:=fun u q=>mkF p l n u q (d+1)) ((theDef p t.df).slots.map SlotT.ty) (pos+1) fun u hu q=>by
     obtain ⟨s,hs1,rfl⟩:=List.mem_map.1 hu
     exact ih _ q (d+1) (h5 s hs1)
   simp only [Val.depth];omega
theorem pick_cases {q : Nat} (n : Int) : pickTy n q = .mk 1 id0 []\/pickTy n q = listT ty0\/pickTy n q = ty0\/∃ j : Nat,j < q/\(pickTy n q = listT (ofT (idK (1+(j : Int))))\/pickTy n q = ofT (idK (1+(j : Int)))):=by
 have hr:=around_lt n (4+2 * (q : Int)) Q0
 unfold pickTy
 split
 · exact .inl rfl
 split
 · exact .inr (.inl rfl)
 split
 · rename_i h4
   have e : (around n (4+2 * (q : Int)) - 4).tdiv 2 = (around n (4+2 * (q : Int)) - 4) / 2:=Int.tdiv_eq_ediv_of_nonneg Q0
   obtain ⟨j,hj⟩:=Int.eq_ofNat_of_zero_le (show 0<=(around n (4+2 * (q : Int)) - 4) / 2 by omega)
   rw [e,hj]
   refine .inr (.inr (.inr ⟨j,Q0,?_⟩))
   split
   · exact .inl rfl
   · exact .inr rfl
 · exact .inr (.inr (.inl rfl))
theorem validT_num (p : ProgT) : validT p ty0:=(validTF_one Q1 Q1).2 ⟨rfl,rfl,.inl rfl⟩
theorem validT_bool (p : ProgT) : validT p (.mk 1 id0 []):=(validTF_one (t:=.mk 1 id0 []) Q1 Q1).2 ⟨rfl,rfl,.inr rfl⟩
theorem validT_listOf {p : ProgT} {t : Ty} (h : validTF p 23 t = true) : validT p (listT t):=(validTF_list (t:=listT t) rfl).2 ⟨rfl,t,rfl,h⟩
theorem validTF_ofT {p : ProgT} {i : IdT} (n : Nat) (h : isTyDef p i) : validTF p (n+1) (ofT i) = true:=(validTF_def (t:=ofT i) rfl).2 ⟨h,rfl⟩
theorem types_isDef (l : List Int) {i : Nat} (h : i < tMany l) : isTyDef (typesP l) (idK (1+(i : Int))):=by
 obtain ⟨h1,h2⟩:=types_def l h
 refine ⟨h1,?_⟩
 have:=tBits_rng l i
 have:=tKind_mod l i
 rw [h2]
 show (tBits l i).tmod 2 = 0\/(tBits l i).tmod 2 = 1
 omega
theorem types_slots (l : List Int) {i : Nat} (h : i < tMany l) : (theDef (typesP l) (idK (1+(i : Int)))).slots = tSlots l i (tArity l i):=by rw [(types_def l h).2];rfl
theorem vdT_mono {p : ProgT} : ∀ {n m : Nat} {t : Ty},n<=m->vdT p n t->vdT p m t
 | 0,_,_,_,h=>h.elim
 | n+1,0,_,hm,_=>by omega
 | n+1,m+1,t,hm,h=>⟨h.1,fun hk=>vdT_mono Q0 (h.2.1 hk),fun hk s hs=>vdT_mono Q0 (h.2.2 hk s hs)⟩
theorem zT_mono {p : ProgT} : ∀ {n m c c' : Nat} {t : Ty},n<=m->c<=c'->zT p n t c->zT p m t c'
 | 0,_,_,_,_,_,_,h=>h.elim
 | n+1,0,_,_,_,hm,_,_=>by omega
 | n+1,m+1,c,c',t,hm,hc,h=>by
   obtain ⟨hv,h⟩:=h
   refine ⟨hv,?_⟩
   rcases h with ⟨h1,h2⟩ | ⟨h1,h2,h3,x,h4,h5⟩
   · exact .inl ⟨h1,Q0⟩
   · exact .inr ⟨h1,h2,h3,x,Q0,fun s hs=>zT_mono Q0 (Nat.le_refl _) (h5 s hs)⟩
theorem types_vdT (l : List Int) : ∀ i : Nat,i < tMany l->vdT (typesP l) (3 * i+3) (ofT (idK (1+(i : Int)))):=by
 intro i
 induction i using Nat.strongRecOn with
 | _ i ih =>
   intro hi
   refine ⟨validTF_ofT 23 (types_isDef l hi),fun hk=>by simp [ofT,Ty.kind] at hk,fun _ s hs=>?_⟩
   rw [show (ofT (idK (1+(i : Int)))).df = idK (1+(i : Int)) from rfl,types_slots l hi] at hs
   obtain ⟨j,_,rfl⟩:=List.mem_map.1 hs
   show vdT (typesP l) (3 * i+2) (pickTy (atL l (5+3 * (i : Int)+(j : Int)) 65536) i)
   rcases pick_cases (q:=i) (atL l (5+3 * (i : Int)+(j : Int)) 65536) with e | e | e | ⟨k,hk,e | e⟩
   · rw [e];exact ⟨validT_bool _,fun hk=>by simp [Ty.kind] at hk,fun hk=>by simp [Ty.kind] at hk⟩
   · rw [e];exact ⟨validT_listOf ((validTF_one Q1 Q1).2 ⟨rfl,rfl,.inl rfl⟩),fun _=>⟨validT_num _,fun hk=>absurd hk Q1,fun hk=>absurd hk Q1⟩,fun hk=>by simp [listT,Ty.kind] at hk⟩
   · rw [e];exact ⟨validT_num _,fun hk=>absurd hk Q1,fun hk=>absurd hk Q1⟩
   · rw [e]
     have hki:=types_isDef l (show k < tMany l by omega)
     exact ⟨validT_listOf (validTF_ofT 22 hki),fun _=>vdT_mono Q0 (ih k hk Q0),fun hk=>by simp [listT,Ty.kind] at hk⟩
   · rw [e]
     exact vdT_mono Q0 (ih k hk Q0)
def cZ : Nat->Nat
 | 0=>4
 | i+1=>1+3 * cZ i
theorem cZ_mono : ∀ {i j : Nat},i<=j->cZ i<=cZ j:=by
 intro i j h
 induction j with
 | zero =>
   obtain rfl : i = 0:=Q0
   exact Nat.le_refl _
 | succ j ih =>
   rcases Nat.lt_or_ge i (j+1) with h1 | h1
   · have:=ih Q0
     rw [cZ];omega
   · obtain rfl : i = j+1:=Q0
     exact Nat.le_refl _
theorem types_zT (l : List Int) : ∀ i : Nat,i < tMany l->zT (typesP l) (i+2) (ofT (idK (1+(i : Int)))) (cZ i):=by
 intro i
 induction i using Nat.strongRecOn with
 | _ i ih =>
   intro hi
   have ha:=tArity_rng l i
   obtain ⟨c',hc,hc1,hcj⟩ : ∃ c',1+3 * c'<=cZ i/\1<=c'/\∀ j,j < i->cZ j<=c':=by
     cases i with
     | zero=>exact ⟨1,Q1,Q1,fun j hj=>by omega⟩
     | succ i =>
       have h4 : cZ 0<=cZ i:=cZ_mono (Nat.zero_le _)
       refine ⟨cZ i,by rw [cZ];omega,?_,fun j hj=>cZ_mono Q0⟩
       rw [cZ] at h4;omega
   refine ⟨validTF_ofT 23 (types_isDef l hi),.inr ⟨rfl,?_,fun _=>?_,c',hc,fun s hs=>?_⟩⟩
   · rw [show (ofT (idK (1+(i : Int)))).df = idK (1+(i : Int)) from rfl,types_slots l hi,tSlots_len];omega
   · rw [show (ofT (idK (1+(i : Int)))).df = idK (1+(i : Int)) from rfl,types_slots l hi,tSlots_len];omega
   rw [show (ofT (idK (1+(i : Int)))).df = idK (1+(i : Int)) from rfl,types_slots l hi] at hs
   obtain ⟨j,_,rfl⟩:=List.mem_map.1 hs
   show zT (typesP l) (i+1) (pickTy (atL l (5+3 * (i : Int)+(j : Int)) 65536) i) c'
   rcases pick_cases (q:=i) (atL l (5+3 * (i : Int)+(j : Int)) 65536) with e | e | e | ⟨k,hk,e | e⟩
   · rw [e];exact ⟨validT_bool _,.inl ⟨.inr (.inl rfl),hc1⟩⟩
   · rw [e];exact ⟨validT_listOf ((validTF_one Q1 Q1).2 ⟨rfl,rfl,.inl rfl⟩),.inl ⟨.inr (.inr rfl),hc1⟩⟩
   · rw [e];exact ⟨validT_num _,.inl ⟨.inl rfl,hc1⟩⟩
   · rw [e];exact ⟨validT_listOf (validTF_ofT 22 (types_isDef l (show k < tMany l by omega))),.inl ⟨.inr (.inr rfl),hc1⟩⟩
   · rw [e];exact zT_mono Q0 (hcj k hk) (ih k hk Q0)
abbrev tyK (i : Nat) : Ty:=ofT (idK (1+(i : Int)))
theorem types_zero (l : List Int) {i : Nat} (h : i < tMany l) : (zeroV (typesP l) (tyK i)).2.1 = 0/\(zeroV (typesP l) (tyK i)).1.wt = 0/\validV (typesP l) (tyK i) (zeroV (typesP l) (tyK i)).1:=by
 have hm:=tMany_rng l
 have hz:=types_zT l i h
 have hc : cZ i<=cZ 3:=cZ_mono Q0
 have h3 : cZ 3 = 121:=rfl
 have k1:=zeroF_cost (i+2) 24 (tyK i) (cZ i) 256 hz Q0 Q0
 have k2:=zeroF_ok (typesP l) 24 (tyK i) 256 k1.1
 exact ⟨k1.1,k2.wt,(valid_iff _ _ _).2 ⟨zeroV_size _ _ k1.1,k2.depth,k2.fits⟩⟩
theorem zero_depth {p : ProgT} : ∀ (n m : Nat) (t : Ty) (c : Nat) (l : Int),zT p n t c->n<=m->(zeroF p m t l).1.depth<=n:=by
 intro n
 induction n with
 | zero=>intro m t c l h;exact h.elim
 | succ n ih =>
   intro m t c l h hm
   obtain ⟨m,rfl⟩ : ∃ q,m = q+1:=⟨m - 1,Q0⟩
   have d0 : v0.depth = 1:=by simp [v0,Val.depth,Val.depths]
   obtain ⟨hv,h⟩:=h
   rw [zeroF,if_neg (by simp [hv])]
   split
   · rw [d0];omega
   split
   · simp [Val.depth,Val.depths]
   split
   · simp [Val.depth,Val.depths]
   split
   · simp [Val.depth,Val.depths]
   rcases h with ⟨hk,_⟩ | ⟨hk,h3,h4,c',hc,h5⟩
   · omega
   have key : ∀ (ts : List Ty) (l0 : Int),(∀ u∈ts,∃ s∈(theDef p t.df).slots,s.ty = u)->Val.depths (zeroL (zeroF p m) ts l0).1<=n:=by
     intro ts
     induction ts with
     | nil=>intro l0 _;simp [zeroL,Val.depths]
     | cons u us ihu =>
       intro l0 hts
       rw [zeroL]
       split
       · simp [Val.depths]
       split
       · simp [Val.depths]
       · obtain ⟨s,hs,rfl⟩:=hts u (List.mem_cons_self ..)
         have:=ih m s.ty c' l0 (h5 s hs) Q0
         have:=ihu (zeroF p m s.ty l0).2.2 fun v hv=>hts v (List.mem_cons_of_mem _ hv)
         simp only [Val.depths];omega
   have node : ∀ (k : Int) (ts : List Ty) (l0 : Int),(∀ u∈ts,∃ s∈(theDef p t.df).slots,s.ty = u)->(zNode k (zeroL (zeroF p m) ts l0)).1.depth<=n+1:=fun k ts l0 hts=>by
     unfold zNode
     split
     · rw [d0];omega
     · have:=key ts l0 hts
       simp only [Val.depth];omega
   split
   · split
     · rw [d0];omega
     · exact node _ _ _ fun u hu=>by
         obtain ⟨s,hs,rfl⟩:=List.mem_map.1 hu
         exact ⟨s,List.mem_of_mem_take hs,rfl⟩
   · exact node _ _ _ fun u hu=>by
       obtain ⟨s,hs,rfl⟩:=List.mem_map.1 hu
       exact ⟨s,hs,rfl⟩
theorem types_val (l m : List Int) {i : Nat} (h : i < tMany l) : (valV (typesP l) 12 (tyK i) m).size<=256/\(valV (typesP l) 12 (tyK i) m).depth<=12/\fitsB (typesP l) (valV (typesP l) 12 (tyK i) m) (tyK i) = true:=by
 have hm:=tMany_rng l
 have hw : wfT (typesP l) 12 (tyK i):=wfT_mono Q0 (types_wf l i h)
 have hd : vdT (typesP l) 12 (tyK i):=vdT_mono Q0 (types_vdT l i h)
 have hz:=types_zero l h
 unfold valV
 split
 · unfold rzV
   rw [if_neg (by simp [hz.1])]
   have h3:=(valid_iff _ _ _).1 hz.2.2
   refine ⟨h3.1,?_,h3.2.2⟩
   have:=zero_depth (i+2) 24 (tyK i) (cZ i) 256 (types_zT l i h) Q0
   unfold zeroV;omega
 · rename_i hs
   exact ⟨Q0,mkF_depth 12 (tyK i) 0 1 hw,mkF_fits 12 (tyK i) 0 1 hw hd⟩
theorem nd_iff : ∀ (j m : Nat),0 < m / 256 ^ j↔j < nd m
 | 0,m=>by
   rw [Nat.pow_zero,Nat.div_one]
   rcases Nat.eq_zero_or_pos m with rfl | h
   · rw [nd_zero]
   · rw [nd_pos Q0];omega
 | j+1,m=>by
   rw [Nat.pow_succ,Nat.mul_comm,<-Nat.div_div_eq_div_mul,nd_iff j (m / 256)]
   rcases Nat.eq_zero_or_pos m with rfl | h
   · rw [Nat.zero_div,nd_zero];omega
   · rw [nd_pos (m:=m) Q0];omega
theorem digitJ_eq (n : Int) (j r : Nat) : digitJ n j r = flip8 (sgn n) (mag n / 256 ^ (j - 1 - r) % 256):=by
 unfold digitJ
 rw [show (2 : Nat) ^ (8 * (j - 1 - r)) = 256 ^ (j - 1 - r) from by rw [Nat.pow_mul]]
theorem flip8_flip {f a : Nat} (h : a < 256) : flip8 f (flip8 f a) = a:=by unfold flip8;split <;> omega
theorem word_acc (f : Nat) : ∀ (l : List Nat) (acc : Nat),l.foldl (fun m c=>m * 256+flip8 f c) acc = acc * 256 ^ l.length+wordOf f l
 | [],acc=>by simp [wordOf]
 | c::l,acc=>by
   have h1:=word_acc f l (acc * 256+flip8 f c)
   have h2:=word_acc f l (0 * 256+flip8 f c)
   unfold wordOf
   rw [List.foldl_cons,List.foldl_cons,h1,h2,List.length_cons,Nat.pow_succ]
   rw [Nat.add_mul,Nat.zero_mul,Nat.zero_add,Nat.mul_assoc,Nat.mul_comm 256]
   omega
theorem wordOf_append (f : Nat) (a b : List Nat) : wordOf f (a++b) = wordOf f a * 256 ^ b.length+wordOf f b:=by
 unfold wordOf
 rw [List.foldl_append,word_acc f b]
 rfl
theorem word_digit {f : Nat} {L : List Nat} (h : ∀ c∈L,c < 256) {r : Nat} (hr : r < L.length) : wordOf f L / 256 ^ (L.length - 1 - r) = wordOf f (L.take r) * 256+flip8 f L[r]:=by
 have e : L = L.take (r+1)++L.drop (r+1):=(List.take_append_drop _ _).symm
 have hd : (L.drop (r+1)).length = L.length - 1 - r:=by rw [List.length_drop];omega
 have hlt:=wordOf_lt f (L.drop (r+1)) fun c hc=>h c (List.mem_of_mem_drop hc)
 have h1 : wordOf f L = wordOf f (L.take (r+1)) * 256 ^ (L.length - 1 - r)+wordOf f (L.drop (r+1)):=by
   conv=>lhs;rw [e,wordOf_append,hd]
 rw [hd] at hlt
 rw [h1,Nat.mul_comm,Nat.mul_add_div (Nat.pow_pos Q1),Nat.div_eq_of_lt hlt,Nat.add_zero,List.take_succ_eq_append_getElem hr,wordOf_snoc]
theorem word_head {f : Nat} {L : List Nat} (h : ∀ c∈L,c < 256) (hk : nd (wordOf f L) = L.length) : ∀ c∈L.head?,flip8 f c ≠ 0:=fun c hc=>by
 cases L with
 | nil=>simp at hc
 | cons x l =>
   simp only [List.head?_cons,Option.mem_def,Option.some.injEq] at hc
   subst hc
   have h1:=word_digit (f:=f) h (r:=0) Q2
   have h2:=(nd_iff ((x::l).length - 1 - 0) (wordOf f (x::l))).2 (by rw [hk];simp)
   rw [h1] at h2
   simp only [List.take_zero,List.getElem_cons_zero,wordOf,List.foldl_nil] at h2
   omega
def intOf (h W : Nat) : Int:=if h < 128 then -1 - (W : Int) else (W : Int)
theorem wordOf_digits {n : Int} {k : Nat} (hm : mag n < 256 ^ k) : ∀ r : Nat,r<=k->wordOf (sgn n) ((List.range r).map (digitJ n k)) = mag n / 256 ^ (k - r)
 | 0,_=>by
   simp only [List.range_zero,List.map_nil,wordOf,List.foldl_nil,Nat.sub_zero]
   exact (Nat.div_eq_of_lt hm).symm
 | r+1,hr=>by
   have ih:=wordOf_digits hm r Q0
   rw [List.range_succ,List.map_append,List.map_cons,List.map_nil,wordOf_snoc,ih,digitJ_eq,flip8_flip (Nat.mod_lt _ Q1)]
   have e : k - r = (k - 1 - r)+1:=Q0
   rw [e,Nat.pow_succ,<-Nat.div_div_eq_div_mul,show k - (r+1) = k - 1 - r from by omega]
   omega
theorem lt_nd (m : Nat) : m < 256 ^ nd m:=by
 rcases Nat.lt_or_ge m (256 ^ nd m) with h | h
 · exact h
 · have:=(nd_iff (nd m) m).1 (Nat.div_pos h (Nat.pow_pos Q1))
   omega
theorem getI_encI {n : Int} (hn : InI n) (rest : List Nat) : getI (encI n++rest) = (n,((encI n).length : Int),0):=by
 obtain ⟨k,hk⟩ : ∃ k,k = nd (mag n):=⟨_,rfl⟩
 have hk8 : k<=8:=by rw [hk];exact nd_le (by have:=mag_lt hn;omega)
 have hml:=mag_lt hn
 have hlt : mag n < 256 ^ k:=by rw [hk];exact lt_nd _
 obtain ⟨h,hh⟩ : ∃ h,h = flip8 (sgn n) (128+k):=⟨_,rfl⟩
 have hb : h < 256:=by rw [hh];exact flip8_lt Q0
 have hf : flipOf h = sgn n:=by
   rw [hh];unfold flipOf flip8
   rcases sgn_or n with e | e <;> rw [e] <;> simp <;> omega
 have hkk : kOf h = k:=by
   unfold kOf
   rw [hf,hh,flip8_flip Q0];omega
 obtain ⟨L,hL⟩ : ∃ L,L = (List.range k).map (digitJ n k):=⟨_,rfl⟩
 have hLl : L.length = k:=by rw [hL];simp
 have he : encI n = h::L:=by rw [encI,encP,<-hk,<-hh,<-hL]
 have hw : wordOf (flipOf h) L = mag n:=by
   have:=wordOf_digits hlt k (Nat.le_refl _)
   rw [hf,hL,this,Nat.sub_self,Nat.pow_zero,Nat.div_one]
 have hLb : ∀ c∈L,c < 256:=fun c hc=>by
   rw [hL] at hc
   obtain ⟨r,_,rfl⟩:=List.mem_map.1 hc
   exact flip8_digit _ _ _
 have h0:=word_head (f:=flipOf h) hLb (by rw [hw,hLl,hk])
 have hnum : (if h < 128 then -1 - (mag n : Int) else (mag n : Int)) = n:=by
   have h1 : h < 128↔n < 0:=by
     rw [hh];unfold flip8 sgn
     by_cases h3 : n < 0
     · simp [h3];omega
     · simp [h3]
   unfold mag
   by_cases h3 : n < 0
   · rw [if_pos (h1.2 h3),if_pos h3];omega
   · rw [if_neg (fun q=>h3 (h1.1 q)),if_neg h3];omega
 rw [he,List.cons_append,getI,hkk,if_neg Q0,if_neg (by rw [List.length_append];omega)]
 have ht : (L++rest).take k = L:=by rw [<-hLl,List.take_left]
 rw [ht,hw,if_neg (fun q=>?_),if_neg Q0,hnum,List.length_cons,hLl]
 · rfl
 · obtain ⟨q1,q2⟩:=q
   cases L with
   | nil=>simp at hLl;omega
   | cons c l=>exact h0 c rfl q2
mutual
theorem encV_byte : ∀ v : Val,v.Ok->v.size<=1099511627776->∀ x∈encV v,x < 256
 | .mk k n l,h,hs,x,hx=>by
   have hk:=kids_le_size (.mk k n l)
   simp only [Val.kids] at hk
   rw [encV] at hx
   simp only [List.mem_append] at hx
   rcases hx with ((hx | hx) | hx) | hx
   · exact encI_byte h.kind x hx
   · exact encI_byte h.n x hx
   · exact encI_byte (n:=(l.length : Int)) (by unfold InI;omega) x hx
   · exact encVs_byte l (fun y hy=>h.kid hy) (by rw [Val.size] at hs;omega) x hx
theorem encVs_byte : ∀ l : List Val,(∀ y∈l,y.Ok)->Val.sizes l<=1099511627776->∀ x∈encVs l,x < 256
 | [],_,_,x,hx=>by simp [encVs] at hx
 | v::vs,h,hs,x,hx=>by
   rw [Val.sizes] at hs
   rw [encVs,List.mem_append] at hx
   rcases hx with hx | hx
   · exact encV_byte v (h v (List.mem_cons_self ..)) Q0 x hx
   · exact encVs_byte vs (fun y hy=>h y (List.mem_cons_of_mem _ hy)) Q0 x hx
end
def InR (z : Int) : Prop:=-1099511627776<=z/\z<=1099511627776
instance (z : Int) : Decidable (InR z):=by unfold InR;exact inferInstance
def clipI (z : Int) : Int:=min (max z (-1099511627776)) 1099511627776
def absI (z : Int) : Int:=max z (-z)
def timesI (a b : Int) : Int:=if a = 0\/b = 0 then 0 else if Int.tdiv 1099511627776 (absI b) < absI a then (if (a < 0↔b < 0) then 1099511627776 else -1099511627776) else a * b
def divI (a b : Int) : Int:=if b = 0 then 0 else if a.tmod b ≠ 0/\¬ (a < 0↔b < 0) then a.tdiv b - 1 else a.tdiv b
def restI (a b : Int) : Int:=if b = 0 then 0 else a - b * divI a b
def numI (n a b : Int) : Int:=if n = 0 then clipI (a+b) else if n = 1 then clipI (a - b) else if n = 2 then timesI a b else if n = 3 then divI a b else restI a b
def truthV (p : Prop) [Decidable p] : Val:=if p then .mk 1 1 [] else .mk 1 0 []
def op2V (n : Int) (x y : Val) : Option Val :=
 if 0<=n/\n < 5 then (if InR x.n/\InR y.n then some (.mk 0 (numI n x.n y.n) []) else none)
 else if n = 5 then some (truthV (x.n < y.n))
 else if n = 6 then some (truthV (cmpV x y = 0))
 else if n = 7 then some (truthV (x.n ≠ 0/\y.n ≠ 0))
 else if n = 8 then some (truthV (x.n ≠ 0\/y.n ≠ 0))
 else if n = 10 then some (.mk 4 0 (x.kids++y.kids))
 else some v0
def op1V (n : Int) (x : Val) : Val:=if n = 9 then truthV (x.n = 0) else if n = 11 then .mk 0 x.kids.length [] else v0
def opV (n : Int) : List Val->Option Val
 | [x,y]=>op2V n x y
 | [x]=>if n = 9\/n = 11 then some (op1V n x) else none
 | _=>none
abbrev Env:=List (IdT×Int×Val)
def envFind (env : Env) (id : IdT) (n : Int) : Val:=match env.find? (fun x=>decide (x.1 = id/\x.2.1 = n)) with
 | some x=>x.2.2
 | none=>v0
inductive EO where
 | ok (v : Val) (s : Int)
 | err (e : Int)
 | bad
inductive AE where
 | ok (l : List Val) (s : Int)
 | err (e : Int)
 | bad
def EO.bind : EO->(Val->Int->EO)->EO
 | .ok v s,k=>k v s
 | .err e,_=>.err e
 | .bad,_=>.bad
def AE.bind : AE->(List Val->Int->EO)->EO
 | .ok v s,k=>k v s
 | .err e,_=>.err e
 | .bad,_=>.bad
def allF (g : Ex->Int->EO) : List Ex->Int->AE
 | [],s=>.ok [] s
 | e::es,s=>match g e s with
  | .ok v s1=>(match allF g es s1 with
   | .ok l s2=>.ok (v::l) s2
   | .err x=>.err x
   | .bad=>.bad)
  | .err x=>.err x
  | .bad=>.bad
def allK (g : Ex->Int->EO) (l : List Ex) (s : Int) : AE:=if 1000000 < l.length then .bad else allF g l s
def foldF (g : Val->Val->Int->EO) : List Val->Val->Int->EO
 | [],acc,s=>.ok acc s
 | x::xs,acc,s=>(g x acc s).bind fun a s1=>foldF g xs a s1
def argEnv : List SlotT->List Val->Env->Option Env
 | [],_,env=>some env
 | _::_,[],_=>none
 | s::ss,a::al,env=>argEnv ss al ((s.id,0,a)::env)
def okOpt (o : Option Val) (s : Int) : EO:=match o with
 | some v=>.ok v s
 | none=>.bad
def kidF (g : Ex->Env->Int->EO) (l : List Ex) (k : Int) (env : Env) (s : Int) : EO:=if 0<=k then (match l[k.toNat]? with
  | some e=>g e env s
  | none=>.bad) else .bad
def branchF (g : Ex->Env->Int->EO) (e : Ex) (env : Env) (v : Val) (s : Int) : EO :=
 if e.kind = 5 then (if v.n ≠ 0 then kidF g e.kids 1 env s else kidF g e.kids 2 env s)
 else if e.kind = 6 then kidF g e.kids 1 ((e.id,0,v)::env) s
 else if e.kind = 8 then (if 0<=e.n then okOpt v.kids[e.n.toNat]? s else .bad)
 else if e.kind = 10 then (match v.kids[0]? with
  | some x=>if -4611686018427387904<=v.n/\v.n<=4611686018427387904 then kidF g e.kids (1+v.n) ((e.id,v.n,x)::env) s else .bad
  | none=>.bad)
 else (kidF g e.kids 1 env s).bind fun acc s1=>foldF (fun x a s2=>kidF g e.kids 2 ((e.id,1,a)::(e.id,0,x)::env) s2) v.kids acc s1
def valueF (p : ProgT) (g : Ex->Env->Int->EO) (e : Ex) (env : Env) (s : Int) : EO :=
 if e.kind = 0 then .ok (.mk 0 e.n []) s
 else if e.kind = 1 then .ok (truthV (e.n ≠ 0)) s
 else if e.kind = 2 then .ok (envFind env e.ref e.n) s
 else if e.kind = 3 then (allK (fun x s=>g x env s) e.kids s).bind fun l s1=>(match argEnv (theDef p e.ref).slots l [] with
  | some env2=>g (theDef p e.ref).body env2 s1
  | none=>.bad)
 else if e.kind = 4 then (allK (fun x s=>g x env s) e.kids s).bind fun l s1=>okOpt (opV e.n l) s1
 else if e.kind = 7 then (allK (fun x s=>g x env s) e.kids s).bind fun l s1=>.ok (.mk 2 0 l) s1
 else if e.kind = 9 then (allK (fun x s=>g x env s) e.kids s).bind fun l s1=>.ok (.mk 3 e.n l) s1
 else if e.kind = 11 then (allK (fun x s=>g x env s) e.kids s).bind fun l s1=>.ok (.mk 4 0 l) s1
 else (kidF g e.kids 0 env s).bind fun v s1=>branchF g e env v s1
def chkV (v : Val) (s : Int) : EO:=if 1152921504606846976 < v.size then .bad else if 256 < v.size\/24 < v.depth then .err 4 else .ok v s
def evalF (p : ProgT) (F : Int) : Nat->Ex->Env->Int->EO
 | 0,_,_,s=>if F<=s then .err 18 else .bad
 | g+1,e,env,s=>if F<=s then .err 18 else (valueF p (evalF p F g) e env (s+1)).bind chkV
def NumsM (M : Mem) : Prop:=∀ k,k < 5->cellM M (adr (some ⟨0,0,none⟩) k) = some (.func (.func (132+k)) #[] #[])
end Xe

namespace Pm
open Go Xe
def shaK : List Int:=[1116352408,1899447441,3049323471,3921009573,961987163,1508970993,2453635748,2870763221,3624381080,310598401,607225278,1426881987,1925078388,2162078206,2614888103,3248222580,3835390401,4022224774,264347078,604807628,770255983,1249150122,1555081692,1996064986,2554220882,2821834349,2952996808,3210313671,3336571891,3584528711,113926993,338241895,666307205,773529912,1294757372,1396182291,1695183700,1986661051,2177026350,2456956037,2730485921,2820302411,3259730800,3345764771,3516065817,3600352804,4094571909,275423344,430227734,506948616,659060556,883997877,958139571,1322822218,1537002063,1747873779,1955562222,2024104815,2227730452,2361852424,2428436474,2756734187,3204031479,3329325298]
def shaD : List D:=shaK.map fun z=>.v (.int .u32 z)
def shaV : List Value:=shaK.map fun z=>.int .u32 z
def GrOk (M : Mem) : Prop:=∀ i u,shaV[i]? = some u->cellM M (Addr.add ⟨0,0,none⟩ i) = some u
theorem GrOk.mono {M M' : Mem} (h : GrOk M) (hs : Sub M M') : GrOk M':=fun i u hu=>cellM_mono hs (h i u hu)
end Pm

namespace Go.Proofs.YtfgkhhfkodlbpaaDoor
open Xe

theorem mix : Tryd.prog.follows .mixedOrders = true:=by kernel_rfl
theorem flat3 : flatB Tryd.prog 3 = true:=by kernel_rfl
theorem flat5 : flatB Tryd.prog 5 = true:=by kernel_rfl
theorem flat23 : flatB Tryd.prog 23 = true:=by kernel_rfl
theorem flat42 : flatB Tryd.prog 42 = true:=by kernel_rfl
theorem flat73 : flatB Tryd.prog 73 = true:=by kernel_rfl
theorem agg44 : aggB Tryd.prog 44 3 = true:=by kernel_rfl
theorem size3 : sizeB Tryd.prog 3 1 = true:=by kernel_rfl
theorem size42 : sizeB Tryd.prog 42 1 = true:=by kernel_rfl
theorem size44 : sizeB Tryd.prog 44 3 = true:=by kernel_rfl
theorem size73 : sizeB Tryd.prog 73 1 = true:=by kernel_rfl
theorem slice23 : sliceB Tryd.prog 23 5 1 = true:=by kernel_rfl
theorem slice42 : sliceB Tryd.prog 42 44 3 = true:=by kernel_rfl
theorem slice100 : sliceB Tryd.prog 100 23 1 = true:=by kernel_rfl
theorem field44_0 : fieldB Tryd.prog 44 0 0 = true:=by kernel_rfl
theorem field44_1 : fieldB Tryd.prog 44 1 1 = true:=by kernel_rfl
theorem field44_2 : fieldB Tryd.prog 44 2 2 = true:=by kernel_rfl
theorem func7 : funcB Tryd.prog 7 = true:=by kernel_rfl
theorem func21 : funcB Tryd.prog 21 = true:=by kernel_rfl
theorem func22 : funcB Tryd.prog 22 = true:=by kernel_rfl
theorem func23 : funcB Tryd.prog 23 = true:=by kernel_rfl
theorem func24 : funcB Tryd.prog 24 = true:=by kernel_rfl
theorem func45 : funcB Tryd.prog 45 = true:=by kernel_rfl
theorem zero3 : zeroB Tryd.prog 3 = some (.int .i64 0):=by kernel_rfl
theorem zero44 : zeroB Tryd.prog 44 = some (.agg [.int .i64 0,.int .i64 0,.slice none 0 0].toArray):=by kernel_rfl
theorem zero73 : zeroB Tryd.prog 73 = some (.nilFunc):=by kernel_rfl
theorem zero74 : zeroB Tryd.prog 74 = some (.agg [.int .i64 0,.int .i64 0,.int .i64 0].toArray):=by kernel_rfl
theorem elem23 : ElemOk Tryd.prog 23 5 1 1:=ElemOk.mk' (z:=.int .u8 0) Tryd.underlying23 (by kernel_rfl) rfl rfl
theorem elem42 : ElemOk Tryd.prog 42 44 3 40:=ElemOk.mk' (z:=.agg [.int .i64 0,.int .i64 0,.slice none 0 0].toArray) Tryd.underlying42 (by kernel_rfl) rfl rfl
theorem elem100 : ElemOk Tryd.prog 100 23 1 24:=ElemOk.mk' (z:=.slice none 0 0) Tryd.underlying100 (by kernel_rfl) rfl rfl
theorem places44 : placesB Tryd.prog 44 = some [(0,1),(1,1),(2,1)]:=by kernel_rfl
end Go.Proofs.YtfgkhhfkodlbpaaDoor

namespace Pm
open Go Xe
instance : Inhabited D:=⟨.v (.bool false)⟩
inductive C where
 | d (x : D)
 | n
 | l (sz : Nat)
 | p (b off : Nat)
 | q (b sz k j : Nat)
 | w (b : Nat)
 | m (b : Nat)
 | f (g : Nat) (cs : List C)
 | z
 | u
 | e (b i : Nat)
 | y (b q sz l n : Nat)
 deriving Inhabited
inductive S where
 | c (x : C)
 | a (n : Nat) (ds : List D)
 | g (cs : List C)
 | r (n : Nat) (ds : List D) (o : Nat)
 | t (l : List S)
 deriving Inhabited
inductive O where
 | b (e : TypeId) (cs : List C)
 | a (e n : Nat) (ds : List D)
 | w (e sz n : Nat) (ds : List D)
 | v (e sz n : Nat) (cs : List C)
 | s (sz n : Nat) (ds : List D)
 | m (t : TypeId) (ag : Bool) (vs n : Nat) (ds : List D)
 | gone
structure Fr where
 sl : Nat->S
 ob : Nat->Option O
 base : Nat
def su : S:=.c .u
def Fr.put (fr : Fr) (t : Nat) (v : S) : Fr:=⟨fun k=>match Nat.beq k t with
 | true=>v
 | false=>fr.sl k,fr.ob,fr.base⟩
def Fr.set (fr : Fr) (b : Nat) (o : O) : Fr:=⟨fr.sl,fun k=>match Nat.beq k b with
 | true=>some o
 | false=>fr.ob k,fr.base⟩
def cell (ds : List D) (i : Nat) : D:=ds.getD i default
def sub (ds : List D) (o n : Nat) : List D:=(ds.drop o).take n
def el (ds : List D) (sz k : Nat) : List D:=(ds.drop (k * sz)).take sz
def upd (ds : List D) (o : Nat) (vs : List D) : List D:=ds.take o++vs++ds.drop (o+vs.length)
def cells (n : Nat) (ds : List D) : List D:=(List.range n).map (cell ds)
def intOf : D->Int
 | .v (.int .i64 z)=>z
 | _=>0
def keyIs (a b c : Int) (ds : List D) : Bool:=decide (intOf (cell ds 0) = a/\intOf (cell ds 1) = b/\intOf (cell ds 2) = c)
def mapFind (sz : Nat) (a b c : Int) : Nat->List D->Option (List D)
 | 0,_=>none
 | n+1,ds=>match keyIs a b c ds with
  | true=>some ((ds.take sz).drop 3)
  | false=>mapFind sz a b c n (ds.drop sz)
def mapSet (sz : Nat) (a b c : Int) (vs : List D) : Nat->List D->List D
 | 0,ds=>.v (.int .i64 a)::.v (.int .i64 b)::.v (.int .i64 c)::vs++ds
 | n+1,ds=>match keyIs a b c ds with
  | true=>ds.take 3++vs++ds.drop sz
  | false=>ds.take sz++mapSet sz a b c vs n (ds.drop sz)
def mapLen (sz : Nat) (a b c : Int) (n : Nat) (ds : List D) : Nat:=match mapFind sz a b c n ds with
 | some _=>n
 | none=>n+1
inductive CSh where
 | d
 | i
 | bo
 | p (b off : Nat)
 | w (b : Nat)
 | m (b : Nat)
 | f (g : Nat) (cs : List CSh)
inductive SSh where
 | c (x : CSh)
 | a (n : Nat)
 | g (cs : List CSh)
 | t (l : List SSh)
inductive OSh where
 | b (e : TypeId) (cs : List CSh)
 | a (e n : Nat)
 | w (e sz : Nat)
 | v (e sz n : Nat) (cs : List CSh)
 | m (t : TypeId) (ag : Bool) (vs : Nat)
structure Sh where
 sl : List (Nat×SSh)
 ob : List (Nat×OSh)
abbrev St':=List (List D)
structure Sig where
 f : Nat
 ins : Sh
 out : SSh
 oob : List (Nat×OSh)
 lend : Bool
structure Tb where
 sg : List Sig
 eq3 : List Nat
 deep : List Nat
 eqa : List Nat
 gl : List (Nat×List D)
def intK (x : D) (k : Int->Prop) : Prop:=match x with
 | .v (.int .i64 z)=>k z
 | _=>False
def booK (x : D) (k : Bool->Prop) : Prop:=match x with
 | .v (.bool b)=>k b
 | _=>False
def strK (x : D) (k : ByteArray->Prop) : Prop:=match x with
 | .v (.string s)=>k s
 | _=>False
def slcK (sz : Nat) (x : D) (k : Nat->List D->Prop) : Prop:=match x with
 | .sl n s cs=>(match Nat.beq s sz with
  | true=>k n cs
  | false=>False)
 | _=>False
def ikK (kd : IntKind) (x : D) (k : Int->Prop) : Prop:=match x with
 | .v (.int kd' z)=>kd' = kd/\k z
 | _=>False
def intsOf (kd : IntKind) : List D->Option (List Int)
 | []=>some []
 | .v (.int kd' z)::l=>(match decEq kd' kd with
  | .isTrue _=>(match intsOf kd l with
   | some b=>some (z::b)
   | none=>none)
  | .isFalse _=>none)
 | _=>none
def byK (kd : IntKind) (cs : List D) (k : List Int->Prop) : Prop:=match intsOf kd cs with
 | some b=>k b
 | none=>False
def strB (zs : List Int) : ByteArray:=⟨(zs.map fun z=>UInt8.ofNat z.toNat).toArray⟩
def byteD (s : ByteArray) : List D:=s.data.toList.map fun b=>.v (.int .u8 (b.toNat : Int))
def ckK (p : Prop) (k : Prop) : Prop:=p/\k
def ifK (b : Bool) (k h : Prop) : Prop:=match b with
 | true=>k
 | false=>h
inductive Prg where
 | no
 | ret (v : Option S) (ob : List (Nat×O))
 | rdS (t : Nat) (k : S->Prg)
 | rdO (b : Nat) (k : Option O->Prg)
 | i (x : D) (k : Int->Prg)
 | bo (x : D) (k : Bool->Prg)
 | st (x : D) (k : ByteArray->Prg)
 | ik (kd : IntKind) (x : D) (k : Int->Prg)
 | by_ (kd : IntKind) (cs : List D) (k : List Int->Prg)
 | sc (sz : Nat) (x : D) (k : Nat->List D->Prg)
 | if_ (b : Bool) (p q : Prg)
 | ck (p : Prop) (d : Decidable p) (k : Prg)
 | ca (s : Sig) (a : St') (k : St'->Prg)
abbrev ckP (p : Prop) [d : Decidable p] (k : Prg) : Prg:=.ck p d k
structure Qs (α : Type) where
 i : D->(Int->α)->α
 bo : D->(Bool->α)->α
 sc : Nat->D->(Nat->List D->α)->α
def textQ : Qs Prg:=⟨.i,.bo,.sc⟩
def propQ : Qs Prop:=⟨intK,booK,slcK⟩
inductive Tg where
 | ob (b : Nat)
 | nil (sz : Nat)
structure Pk where
 mp : List (Nat×Tg)
 fix : List Nat
def getT : List (Nat×Tg)->Nat->Option Tg
 | [],_=>none
 | (i,x)::l,j=>match Nat.beq j i with
  | true=>some x
  | false=>getT l j
def hasT : List (Nat×Tg)->Nat->Bool
 | [],_=>false
 | (_,.ob b)::l,j=>match Nat.beq j b with
  | true=>true
  | false=>hasT l j
 | (_,.nil _)::l,j=>hasT l j
def Pk.link (k : Pk) (i b : Nat) : Option Pk:=match getT k.mp i with
 | some (.ob b')=>(match Nat.beq b b' with
  | true=>some k
  | false=>none)
 | some (.nil _)=>none
 | none=>match hasT k.mp b with
  | true=>none
  | false=>some ⟨(i,.ob b)::k.mp,k.fix⟩
def Pk.linkNil (k : Pk) (i sz : Nat) : Option Pk:=match getT k.mp i with
 | some _=>none
 | none=>some ⟨(i,.nil sz)::k.mp,k.fix⟩
abbrev Ob:=Nat->Option O
def rowD (ob : Ob) : List C->Option (List D×List Nat)
 | []=>some ([],[])
 | .d x::l=>(match rowD ob l with
  | some (ds,bs)=>some (x::ds,bs)
  | none=>none)
 | .l sz::l=>(match rowD ob l with
  | some (ds,bs)=>some (.sl 0 sz []::ds,bs)
  | none=>none)
 | .w b::l=>(match ob b with
  | some (.w _ sz n xs)=>(match rowD ob l with
   | some (ds,bs)=>some (.sl n sz xs::ds,b::bs)
   | none=>none)
  | some (.s sz n xs)=>(match rowD ob l with
   | some (ds,bs)=>some (.sl n sz xs::ds,bs)
   | none=>none)
  | _=>none)
 | _::_=>none
def packB (ob : Ob) (k : Pk) : CSh->C->Option (List D×Pk)
 | .d,.d x=>some ([x],k)
 | .d,.l sz=>some ([.sl 0 sz []],k)
 | .i,.d x=>some ([x],k)
 | .bo,.d x=>some ([x],k)
 | .d,.w b=>(match ob b with
  | some (.w _ sz n ds)=>some ([.sl n sz ds],⟨k.mp,b::k.fix⟩)
  | some (.s sz n ds)=>some ([.sl n sz ds],k)
  | some (.v _ sz n ws)=>(match rowD ob ws with
   | some (ds,bs)=>some ([.sl n sz ds],⟨k.mp,bs++b::k.fix⟩)
   | none=>none)
  | _=>none)
 | .p i off,.p b off'=>(match Nat.beq off off' with
  | true=>(k.link i b).map fun k=>([],k)
  | false=>none)
 | .w i,.w b=>(k.link i b).map fun k=>([],k)
 | .w i,.l sz=>(k.linkNil i sz).map fun k=>([],k)
 | .m i,.m b=>(k.link i b).map fun k=>([],k)
 | _,_=>none
def packBs (ob : Ob) : Pk->List CSh->List C->Option (List D×Pk)
 | k,[],[]=>some ([],k)
 | k,s::ss,c::cs=>(match packB ob k s c with
  | some (d,k)=>(match packBs ob k ss cs with
   | some (ds,k)=>some (d++ds,k)
   | none=>none)
  | none=>none)
 | _,_,_=>none
def packC (ob : Ob) (k : Pk) : CSh->C->Option (List D×Pk)
 | .f g cs,.f g' cs'=>(match Nat.beq g g' with
  | true=>packBs ob k cs cs'
  | false=>none)
 | s,c=>packB ob k s c
def packCs (ob : Ob) : Pk->List CSh->List C->Option (List D×Pk)
 | k,[],[]=>some ([],k)
 | k,s::ss,c::cs=>(match packC ob k s c with
  | some (d,k)=>(match packCs ob k ss cs with
   | some (ds,k)=>some (d++ds,k)
   | none=>none)
  | none=>none)
 | _,_,_=>none
def dsh : Nat->List CSh
 | 0=>[]
 | n+1=>.d::dsh n
def packS (ob : Ob) (k : Pk) : SSh->S->Option (List D×Pk)
 | .c s,.c x=>packC ob k s x
 | .a n,.a m ds=>(match Nat.beq n m with
  | true=>some (ds,k)
  | false=>none)
 | .a n,.g cs=>packCs ob k (dsh n) cs
 | .g ss,.g cs=>packCs ob k ss cs
 | .g ss,.a n ds=>packCs ob k ss ((cells n ds).map C.d)
 | _,_=>none
def isD : CSh->Bool
 | .d=>true
 | .i=>true
 | .bo=>true
 | _=>false
def hasB : CSh->Bool
 | .d=>true
 | .i=>true
 | .bo=>true
 | .f _ cs=>cs.any isD
 | _=>false
def hasS : SSh->Bool
 | .c s=>hasB s
 | .a _=>true
 | .g cs=>cs.any hasB
 | .t _=>false
def packSl (ob : Ob) (sl : Nat->S) : Pk->List (Nat×SSh)->Option (St'×Pk)
 | k,[]=>some ([],k)
 | k,(t,s)::l=>match packS ob k s (sl t) with
  | some (ds,k)=>(match packSl ob sl k l with
   | some (r,k)=>(match hasS s with
    | true=>some (ds::r,k)
    | false=>some (r,k))
   | none=>none)
  | none=>none
def packO (ob : Ob) (k : Pk) (i : Nat) (o : OSh) : Option (List D×Pk):=match getT k.mp i with
 | some (.ob b)=>(match o,ob b with
  | .b e cs,some (.b e' cs')=>(match Nat.beq e e' with
   | true=>packCs ob k cs cs'
   | false=>none)
  | .b e cs,some (.a e' n ds)=>(match Nat.beq e e' with
   | true=>packCs ob k cs ((cells n ds).map C.d)
   | false=>none)
  | .a e n,some (.a e' n' ds)=>(match Nat.beq e e' with
   | true=>(match Nat.beq n n' with
    | true=>some (ds,k)
    | false=>none)
   | false=>none)
  | .a e n,some (.b e' cs')=>(match Nat.beq e e' with
   | true=>packCs ob k (dsh n) cs'
   | false=>none)
  | .w e sz,some (.w e' sz' n ds)=>(match Nat.beq e e' with
   | true=>(match Nat.beq sz sz' with
    | true=>some ([.sl n sz ds],k)
    | false=>none)
   | false=>none)
  | .v e sz n cs,some (.v e' sz' n' cs')=>(match Nat.beq e e' && Nat.beq sz sz' && Nat.beq n n' with
   | true=>packCs ob k cs cs'
   | false=>none)
  | .m t ag vs,some (.m t' ag' vs' n ds)=>(match Nat.beq t t' && Bool.and (ag == ag') (Nat.beq vs vs') with
   | true=>some ([.sl n (3+vs) ds],k)
   | false=>none)
  | _,_=>none)
 | some (.nil sz)=>(match o with
  | .w _ sz'=>(match Nat.beq sz sz' with
   | true=>some ([.sl 0 sz []],k)
   | false=>none)
  | _=>none)
 | none=>none
def hasO : OSh->Bool
 | .b _ cs=>cs.any hasB
 | .v _ _ _ cs=>cs.any hasB
 | _=>true
def packOb (ob : Ob) : Pk->List (Nat×OSh)->Option (St'×Pk)
 | k,[]=>some ([],k)
 | k,(i,o)::l=>match packO ob k i o with
  | some (ds,k)=>(match packOb ob k l with
   | some (r,k)=>(match hasO o with
    | true=>some (ds::r,k)
    | false=>some (r,k))
   | none=>none)
  | none=>none
def linked (obs : List (Nat×OSh)) : List (Nat×Tg)->Bool
 | []=>true
 | (i,_)::l=>match obs.any fun x=>Nat.beq x.1 i with
  | true=>linked obs l
  | false=>false
def apartB (mp : List (Nat×Tg)) : List Nat->Bool
 | []=>true
 | b::l=>match hasT mp b with
  | true=>false
  | false=>apartB mp l
def nodupB : List (Nat×OSh)->Bool
 | []=>true
 | (i,_)::l=>match l.any fun x=>Nat.beq x.1 i with
  | true=>false
  | false=>nodupB l
def pack (sh : Sh) (fr : Fr) : Option (St'×Pk):=match packSl fr.ob fr.sl ⟨[],[]⟩ sh.sl with
 | some (r,k)=>(match packOb fr.ob k sh.ob with
  | some (r',k)=>(match linked sh.ob k.mp && apartB k.mp k.fix && nodupB sh.ob with
   | true=>some (r++r',k)
   | false=>none)
  | none=>none)
 | none=>none
section
variable {α : Type} (Q : Qs α)
def unB (ds : List D) (j : Nat) (s : CSh) (k : C->Nat->α) : α:=match s with
 | .d=>k (.d (cell ds j)) (j+1)
 | .i=>Q.i (cell ds j) fun z=>k (.d (.v (.int .i64 z))) (j+1)
 | .bo=>Q.bo (cell ds j) fun z=>k (.d (.v (.bool z))) (j+1)
 | .p b off=>k (.p b off) j
 | .w b=>k (.w b) j
 | .m b=>k (.m b) j
 | .f _ _=>k .u j
def unBs (ds : List D) : Nat->List CSh->(List C->Nat->α)->α
 | j,[],k=>k [] j
 | j,s::ss,k=>unB Q ds j s fun c j=>unBs ds j ss fun cs j=>k (c::cs) j
def unC (ds : List D) (j : Nat) (s : CSh) (k : C->Nat->α) : α:=match s with
 | .f g cs=>unBs Q ds j cs fun cs j=>k (.f g cs) j
 | s=>unB Q ds j s k
def unCs (ds : List D) : Nat->List CSh->(List C->Nat->α)->α
 | j,[],k=>k [] j
 | j,s::ss,k=>unC Q ds j s fun c j=>unCs ds j ss fun cs j=>k (c::cs) j
def unS (ds : List D) (s : SSh) (k : S->α) : α:=match s with
 | .c s=>unC Q ds 0 s fun c _=>k (.c c)
 | .a n=>k (.a n ds)
 | .g cs=>unCs Q ds 0 cs fun cs _=>k (.g cs)
 | .t _=>k su
def ent (r : St') (j : Nat) : List D:=r.getD j []
def nextE (s : Bool) (r : St') (j : Nat) : List D×Nat:=match s with
 | true=>(ent r j,j+1)
 | false=>([],j)
def unSl (r : St') : Nat->List (Nat×SSh)->(Nat->S)->((Nat->S)->Nat->α)->α
 | j,[],f,k=>k f j
 | j,(t,s)::l,f,k=>unS Q (nextE (hasS s) r j).1 s fun x=>unSl r (nextE (hasS s) r j).2 l (fun i=>match Nat.beq i t with
   | true=>x
   | false=>f i) k
def unO (ds : List D) (o : OSh) (k : O->α) : α:=match o with
 | .b e cs=>unCs Q ds 0 cs fun cs _=>k (.b e cs)
 | .v e sz n cs=>unCs Q ds 0 cs fun cs _=>k (.v e sz n cs)
 | .a e n=>k (.a e n ds)
 | .w e sz=>Q.sc sz (cell ds 0) fun n cs=>k (.w e sz n cs)
 | .m t ag vs=>Q.sc (3+vs) (cell ds 0) fun n cs=>k (.m t ag vs n cs)
def addO (b : Nat) (o : O) (f : Ob) : Ob:=fun k=>match Nat.beq k b with
 | true=>some o
 | false=>f k
def unOb (r : St') : Nat->List (Nat×OSh)->Ob->(Ob->α)->α
 | _,[],f,k=>k f
 | j,(b,o)::l,f,k=>unO Q (nextE (hasO o) r j).1 o fun x=>unOb r (nextE (hasO o) r j).2 l (addO b x f) k
def baseOf : List (Nat×OSh)->Nat
 | []=>0
 | (i,_)::l=>Nat.max (i+1) (baseOf l)
def unpack (sh : Sh) (r : St') (k : Fr->α) : α:=unSl Q r 0 sh.sl (fun _=>su) fun sl j=>unOb Q r j sh.ob (fun _=>none) fun ob=>k ⟨sl,ob,baseOf sh.ob⟩
end
def szT (P : Program) (t : TypeId) : Option Nat:=match P.info? t with
 | some i=>some i.size
 | none=>none
def aggT (P : Program) (t : TypeId) : Option Nat:=match P.underlying t with
 | some (.struct _)=>szT P t
 | some (.array ..)=>szT P t
 | _=>none
def elT (P : Program) (t : TypeId) : Option (Nat×Nat):=match P.underlying t with
 | some (.slice e)=>(match szT P e with
   | some sz=>some (e,sz)
   | none=>none)
 | _=>none
def bytesT (P : Program) (t : TypeId) : Nat:=match P.info? t with
 | some i=>i.bytes
 | none=>0
def fieldT (P : Program) (s i : Nat) : Option (Nat×Nat):=match P.underlying s with
 | some (.struct fs)=>(match fs[i]? with
   | some f=>(match P.info? f.type with
     | some j=>(match j.size with
       | 0=>none
       | _+1=>some (f.offset,f.type))
     | none=>none)
   | none=>none)
 | _=>none
def cellTs (P : Program) : Nat->TypeId->List TypeId
 | 0,t=>[t]
 | n+1,t=>match P.underlying t with
   | some (.struct fs)=>fs.toList.flatMap fun f=>cellTs P n f.type
   | some (.array k e)=>(List.replicate k (cellTs P n e)).flatten
   | _=>[t]
def zC (P : Program) (t : TypeId) (v : Value) : Option C:=match v,elT P t with
 | .slice none 0 0,some (_,sz)=>some (.l sz)
 | v,_=>match v.oneCell' with
   | true=>some (.d (.v v))
   | false=>none
def zList (P : Program) : List TypeId->List Value->Option (List C)
 | [],[]=>some []
 | t::ts,v::vs=>(match zC P t v,zList P ts vs with
   | some d,some ds=>some (d::ds)
   | _,_=>none)
 | _,_=>none
def zCells (P : Program) (t : TypeId) : Option (List C):=match zeroB P t with
 | some v=>zList P (cellTs P 4 t) v.cells.toList
 | none=>none
def zDs : List C->Option (List D)
 | []=>some []
 | .d x::l=>(match zDs l with
   | some ds=>some (x::ds)
   | none=>none)
 | .l sz::l=>(match zDs l with
   | some ds=>some (.sl 0 sz []::ds)
   | none=>none)
 | _::_=>none
def isAggV : Option Value->Bool
 | some (.agg _)=>true
 | _=>false
def conS : Value->S
 | .slice none 0 0=>.c .n
 | v=>match v.oneCell' with
   | true=>.c (.d (.v v))
   | false=>su
def evP (x : Operand) (k : S->Prg) : Prg:=match x with
 | .tmp t=>.rdS t k
 | .const v=>k (conS v)
 | .func f=>k (.c (.f f []))
 | .global _=>.no
def typed (P : Program) (t : TypeId) (s : S) : S:=match s with
 | .c .n=>(match elT P t with
   | some (_,sz)=>.c (.l sz)
   | none=>s)
 | s=>s
def retP (v : S) : Prg:=.ret (some v) []
def optP : Option S->Prg
 | some v=>retP v
 | none=>.no
def newP (id : Nat) (s : S) (os : List (Nat×O)) (o : O) : Prg:=.rdO id fun x=>match x with
 | none=>.ret (some s) (os++[(id,o)])
 | some _=>.no
def intP (s : S) (k : Int->Prg) : Prg:=match s with
 | .c (.d x)=>.i x k
 | _=>.no
def booP (s : S) (k : Bool->Prg) : Prg:=match s with
 | .c (.d x)=>.bo x k
 | _=>.no
def strP (s : S) (k : ByteArray->Prg) : Prg:=match s with
 | .c (.d x)=>.st x k
 | _=>.no
def rInt (z : Int) : Prg:=retP (.c (.d (.v (.int .i64 z))))
def rBoo (b : Bool) : Prg:=retP (.c (.d (.v (.bool b))))
def okI (z : Int) : Prop:=-9223372036854775808<=z/\z<=9223372036854775807
instance (z : Int) : Decidable (okI z):=by unfold okI;exact inferInstance
def sliP (sz : Nat) (s : S) (k : Nat->List D->Prg) : Prg:=match s with
 | .c (.l sz')=>(match Nat.beq sz' sz with
   | true=>k 0 []
   | false=>.no)
 | .c (.d x)=>.sc sz x k
 | .c (.w b)=>.rdO b fun o=>(match o with
   | some (.w _ sz' n ds)=>(match Nat.beq sz' sz with
     | true=>k n ds
     | false=>.no)
   | some (.s sz' n ds)=>(match Nat.beq sz' sz with
     | true=>k n ds
     | false=>.no)
   | _=>.no)
 | _=>.no
def datP (c : C) (k : D->List (Nat×O)->Prg) : Prg:=match c with
 | .d x=>k x []
 | .l sz=>k (.sl 0 sz []) []
 | .w b=>.rdO b fun o=>(match o with
   | some (.w _ sz n ds)=>k (.sl n sz ds) [(b,.s sz n ds)]
   | some (.s sz n ds)=>k (.sl n sz ds) []
   | _=>.no)
 | _=>.no
def datsP : List C->(List D->List (Nat×O)->Prg)->Prg
 | [],k=>k [] []
 | c::cs,k=>datP c fun d o=>datsP cs fun ds os=>k (d::ds) (o++os)
def valP (s : S) (k : Nat->List D->List (Nat×O)->Prg) : Prg:=match s with
 | .c c=>datP c fun d os=>k 1 [d] os
 | .a n ds=>k n ds []
 | .g cs=>datsP cs fun ds os=>k cs.length ds os
 | _=>.no
def okC : C->Bool
 | .u=>false
 | .z=>false
 | _=>true
def cellsS : S->Option (List C)
 | .c c=>(match okC c with
   | true=>some [c]
   | false=>none)
 | .a n ds=>some ((cells n ds).map C.d)
 | .g cs=>(match cs.all okC with
   | true=>some cs
   | false=>none)
 | _=>none
def loadD (P : Program) (t : TypeId) (n : Nat) (ds : List D) (o : Nat) : Option S:=match flatB P t with
 | true=>(match Nat.blt o n with
   | true=>some (.c (.d (cell ds o)))
   | false=>none)
 | false=>match aggT P t with
   | some m=>(match Nat.beq o 0 && Nat.beq m n with
     | true=>some (.a n ds)
     | false=>(match Nat.ble (o+m) n with
       | true=>some (.a m (sub ds o m))
       | false=>none))
   | none=>none
def loadC (P : Program) (t : TypeId) (cs : List C) (o : Nat) : Option S:=match flatB P t with
 | true=>(match cs[o]? with
   | some c=>some (.c c)
   | none=>none)
 | false=>match aggT P t with
   | some m=>(match Nat.ble (o+m) cs.length with
     | true=>some (.g ((cs.drop o).take m))
     | false=>none)
   | none=>none
def zDs' : List C->Option (List D)
 | []=>some []
 | .d x::l=>(match zDs' l with
   | some ds=>some (x::ds)
   | none=>none)
 | _::_=>none
def loadE (P : Program) (t : TypeId) (n : Nat) (ds : List D) (i : Nat) : Prg:=match flatB P t with
 | true=>ckP (i < n) (retP (.c (.d (cell ds i))))
 | false=>match aggT P t with
   | some m=>ckP (i+m<=n) (retP (.a m (sub ds i m)))
   | none=>.no
def loadP (P : Program) (t : TypeId) (s : S) : Prg:=match s with
 | .r n ds o=>optP (loadD P t n ds o)
 | .c (.p b o)=>.rdO b fun x=>(match x with
   | some (.a _ n ds)=>optP (loadD P t n ds o)
   | some (.b _ cs)=>optP (loadC P t cs o)
   | _=>.no)
 | .c (.q b sz k j)=>.rdO b fun x=>(match x with
   | some (.w _ sz' _ ds)=>(match Nat.beq sz' sz with
     | true=>optP (loadD P t sz (el ds sz k) j)
     | false=>.no)
   | some (.s sz' _ ds)=>(match Nat.beq sz' sz with
     | true=>optP (loadD P t sz (el ds sz k) j)
     | false=>.no)
   | some (.v _ sz' _ cs)=>(match Nat.beq sz' sz with
     | true=>optP (loadC P t ((cs.drop (k * sz)).take sz) j)
     | false=>.no)
   | _=>.no)
 | .c (.e b i)=>.rdO b fun x=>(match x with
   | some (.a _ n ds)=>loadE P t n ds i
   | some (.b _ cs)=>(match zDs' cs with
     | some ds=>loadE P t cs.length ds i
     | none=>.no)
   | _=>.no)
 | _=>.no
def setC (cs : List C) (o : Nat) (vs : List C) : List C:=cs.take o++vs++cs.drop (o+vs.length)
def cellsO : O->Option (Nat×List C)
 | .a e n ds=>some (e,(cells n ds).map C.d)
 | .b e cs=>some (e,cs)
 | _=>none
def flatS : S->Option (Nat×List D)
 | .a n ds=>some (n,ds)
 | .c (.d x)=>some (1,[x])
 | _=>none
def bigO (m : Nat) (x : O) (o : Nat) (v : S) : Option O:=match x with
 | .a e n ds=>(match Nat.blt 40 n && Bool.not (Nat.beq m n),flatS v with
   | true,some (m',vs)=>(match Nat.beq m m' && Nat.ble (o+m) n with
     | true=>some (.a e n (upd ds o vs))
     | false=>none)
   | _,_=>none)
 | _=>none
def storeO (m : Nat) (x : O) (o : Nat) (v : S) : Option O:=match bigO m x o v with
| some y=>some y
| none=>match cellsO x with
 | none=>none
 | some (e,us)=>match v with
   | .a m' vs=>(match Nat.beq o 0 && Nat.beq m' us.length && Nat.beq m m' with
     | true=>some (.a e m' vs)
     | false=>(match Nat.beq m' m && Nat.ble (o+m) us.length with
       | true=>some (.b e (setC us o ((cells m' vs).map C.d)))
       | false=>none))
   | v=>(match cellsS v with
     | some cs=>(match Nat.beq cs.length m && Nat.ble (o+m) us.length with
       | true=>some (.b e (setC us o cs))
       | false=>none)
     | none=>none)
def storeP (P : Program) (t : TypeId) (s v : S) : Prg:=match szT P t with
 | none=>.no
 | some m=>match s with
   | .c (.p b o)=>.rdO b fun x=>(match x with
     | some x=>(match storeO m x o v with
       | some y=>.ret none [(b,y)]
       | none=>.no)
     | none=>.no)
   | .c (.q b sz k j)=>.rdO b fun x0=>match x0 with
     | some (.v e sz' n us)=>(match cellsS v with
       | some cs=>(match Nat.beq cs.length m && Nat.beq sz sz' && Nat.ble (j+m) sz with
         | true=>.ret none [(b,.v e sz n (setC us (k * sz+j) cs))]
         | false=>.no)
       | none=>.no)
     | _=>valP v fun m' vs os=>(match Nat.beq m m' with
     | true=>.rdO b fun x=>(match x with
       | some (.w e sz' n ds)=>(match Nat.beq sz sz' && Nat.ble (j+m) sz with
         | true=>(match os.any fun p=>Nat.beq p.1 b with
           | true=>.no
           | false=>.ret none (os++[(b,.w e sz n (upd ds (k * sz+j) vs))]))
         | false=>.no)
       | _=>.no)
     | false=>.no)
   | .c (.e b i)=>valP v fun m' vs os=>(match Nat.beq m m' with
     | true=>.rdO b fun x=>(match os.any fun p=>Nat.beq p.1 b with
       | true=>.no
       | false=>match x with
         | some (.a e n ds)=>ckP (i+m<=n) (.ret none (os++[(b,.a e n (upd ds i vs))]))
         | some (.b e cs)=>(match zDs' cs with
           | some ds=>ckP (i+m<=cs.length) (.ret none (os++[(b,.a e cs.length (upd ds i vs))]))
           | none=>.no)
         | _=>.no)
     | false=>.no)
   | _=>.no
def fieldP (P : Program) (t : TypeId) (s : S) (i : Nat) : Prg:=match fieldT P t i with
 | none=>.no
 | some (off,_)=>match s with
   | .r n ds o=>retP (.r n ds (o+off))
   | .c (.p b o)=>retP (.c (.p b (o+off)))
   | .c (.q b sz k j)=>retP (.c (.q b sz k (j+off)))
   | .c (.e b i)=>retP (.c (.e b (i+off)))
   | _=>.no
def pickP : Nat->Nat->Int->(Nat->Prg)->Prg
 | 0,_,_,_=>.no
 | n+1,j,z,k=>.if_ (decide (z = (j : Int))) (k j) (pickP n (j+1) z k)
def arrT (P : Program) (t : TypeId) : Option (Nat×Nat×Nat):=match P.underlying t with
 | some (.array n e)=>(match szT P e with
   | some sz=>(match Nat.blt 0 sz && (Nat.blt 1 n && Nat.ble n 1000000) with
     | true=>some (n,e,sz)
     | false=>none)
   | none=>none)
 | _=>none
def baseP (s : S) (k : Nat->Nat->Prg) : Prg:=match s with
 | .c (.p b o)=>k b o
 | .c (.e b i)=>k b i
 | _=>.no
def indexP (P : Program) (t : TypeId) (s i : S) : Prg:=match elT P t with
 | none=>(match arrT P t with
   | some (n,_,sz)=>baseP s fun b o=>intP i fun z=>ckP (0<=z/\z < (n : Int)) (retP (.c (.e b (o+z.toNat * sz))))
   | none=>.no)
 | some (_,sz)=>match s with
   | .c (.d x)=>intP i fun z=>.sc sz x fun n cs=>ckP (0<=z/\z < n) (retP (.r sz (el cs sz z.toNat) 0))
   | .c (.w b)=>intP i fun z=>.rdO b fun o=>(match o with
     | some (.w _ sz' n _)=>(match Nat.beq sz' sz with
       | true=>ckP (0<=z/\z < n) (retP (.c (.q b sz z.toNat 0)))
       | false=>.no)
     | some (.s sz' n ds)=>(match Nat.beq sz' sz with
       | true=>ckP (0<=z/\z < n) (retP (.r sz (el ds sz z.toNat) 0))
       | false=>.no)
     | some (.v _ sz' n _)=>(match Nat.beq sz' sz with
       | true=>ckP (0<=z/\z < n) (pickP n 0 z fun k=>retP (.c (.q b sz k 0)))
       | false=>.no)
     | _=>.no)
   | .c (.y b q sz' l n)=>intP i fun z=>(match Nat.beq sz' sz with
     | true=>.rdO b fun o=>(match o with
       | some (.w _ _ _ _)=>ckP (0<=z/\z < (n : Int)) (retP (.c (.q b sz (l+z.toNat) 0)))
       | some (.a _ _ _)=>ckP (0<=z/\z < (n : Int)) (retP (.c (.e b (q+(l+z.toNat) * sz))))
       | some (.b _ _)=>ckP (0<=z/\z < (n : Int)) (retP (.c (.e b (q+(l+z.toNat) * sz))))
       | _=>.no)
     | false=>.no)
   | _=>.no
def isI64 (P : Program) (t : TypeId) : Bool:=match P.underlying t with
 | some (.int .i64)=>true
 | _=>false
def purP (s : S) (k : List D->Prg) : Prg:=match s with
 | .a _ ds=>k ds
 | .g [.d a,.d b,.d c]=>k [a,b,c]
 | _=>.no
def size3 : S->Bool
 | .a n _=>Nat.beq n 3
 | _=>true
def kindT (P : Program) (t : TypeId) : Option IntKind:=match P.underlying t with
 | some (.int k)=>some k
 | _=>none
def kP (kd : IntKind) (s : S) (k : Int->Prg) : Prg:=match s with
 | .c (.d x)=>.ik kd x k
 | _=>.no
def rK (kd : IntKind) (z : Int) : Prg:=retP (.c (.d (.v (.int kd z))))
def arithK (kd : IntKind) (op : BinOp) (a b : Int) : Prg:=match op with
 | .add=>rK kd (kd.wrap (a+b))
 | .sub=>rK kd (kd.wrap (a - b))
 | .mul=>rK kd (kd.wrap (a * b))
 | .quo=>ckP (b ≠ 0) (rK kd (kd.wrap (a.tdiv b)))
 | .rem=>ckP (b ≠ 0) (rK kd (a.tmod b))
 | .and=>rK kd (bits .and kd a b)
 | .or=>rK kd (bits .or kd a b)
 | .xor=>rK kd (bits .xor kd a b)
 | .andNot=>rK kd (bits .andNot kd a b)
 | .lss=>rBoo (decide (a < b))
 | .leq=>rBoo (decide (a<=b))
 | .gtr=>rBoo (decide (b < a))
 | .geq=>rBoo (decide (b<=a))
 | _=>.no
def isSh : BinOp->Bool
 | .shl=>true
 | .shr=>true
 | _=>false
def shiftP (P : Program) (op : BinOp) (t t' : TypeId) (x y : S) : Prg:=match kindT P t,kindT P t' with
 | some k,some k'=>kP k x fun a=>kP k' y fun b=>(match op with
   | .shl=>ckP (0<=b) (rK k (k.wrap (a * 2 ^ min b.toNat k.bits)))
   | .shr=>ckP (0<=b) (rK k (a / 2 ^ min b.toNat k.bits))
   | _=>.no)
 | _,_=>.no
def eqP (P : Program) (tb : Tb) (t : TypeId) (x y : S) (k : Bool->Prg) : Prg:=match P.underlying t with
 | some (.int .i64)=>intP x fun a=>intP y fun b=>k (decide (a = b))
 | some .string=>strP x fun a=>strP y fun b=>k (decide (a = b))
 | some .bool=>booP x fun a=>booP y fun b=>k (a == b)
 | some (.struct _)=>(match tb.eq3.any (Nat.beq t) && size3 x && size3 y with
   | true=>purP x fun a=>purP y fun b=>.i (cell a 0) fun a0=>.i (cell a 1) fun a1=>.i (cell a 2) fun a2 =>
       .i (cell b 0) fun b0=>.i (cell b 1) fun b1=>.i (cell b 2) fun b2=>k (decide (a0 = b0/\a1 = b1/\a2 = b2))
   | false=>.no)
 | some (.int kd)=>kP kd x fun a=>kP kd y fun b=>k (decide (a = b))
 | some (.array n e)=>(match tb.eqa.any (Nat.beq t),kindT P e,x,y with
   | true,some kd,.a m ds,.a m' ds'=>(match Nat.beq m n && Nat.beq m' n with
     | true=>.by_ kd ds fun a=>.by_ kd ds' fun b=>k (decide (a = b))
     | false=>.no)
   | _,_,_,_=>.no)
 | _=>.no
def arithP (op : BinOp) (a b : Int) : Prg:=match op with
 | .add=>ckP (okI (a+b)) (rInt (a+b))
 | .sub=>ckP (okI (a - b)) (rInt (a - b))
 | .mul=>ckP (okI (a * b)) (rInt (a * b))
 | .quo=>ckP (b ≠ 0/\okI (a.tdiv b)) (rInt (a.tdiv b))
 | .rem=>ckP (b ≠ 0) (rInt (a.tmod b))
 | .lss=>rBoo (decide (a < b))
 | .leq=>rBoo (decide (a<=b))
 | .gtr=>rBoo (decide (b < a))
 | .geq=>rBoo (decide (b<=a))
 | .and=>rInt (bits .and .i64 a b)
 | .or=>rInt (bits .or .i64 a b)
 | .xor=>rInt (bits .xor .i64 a b)
 | _=>.no
def binP (P : Program) (tb : Tb) (op : BinOp) (t : TypeId) (x y : S) : Prg:=match op with
 | .eql=>eqP P tb t x y rBoo
 | .neq=>eqP P tb t x y fun b=>rBoo (!b)
 | _=>match P.underlying t with
   | some (.int .i64)=>intP x fun a=>intP y fun b=>arithP op a b
   | some .string=>strP x fun a=>strP y fun b=>(match op with
     | .add=>ckP (a.size+b.size<=1000000) (retP (.c (.d (.v (.string (a++b))))))
     | _=>.no)
   | some (.int kd)=>kP kd x fun a=>kP kd y fun b=>arithK kd op a b
   | _=>.no
def unP (P : Program) (op : UnOp) (t : TypeId) (x : S) : Prg:=match op with
 | .not=>booP x fun a=>rBoo (!a)
 | .neg=>(match isI64 P t with
   | true=>intP x fun a=>ckP (okI (-a)) (rInt (-a))
   | false=>.no)
 | .xor=>(match kindT P t with
   | some k=>kP k x fun a=>rK k (bits .xor k (match k.signed with
     | true=>-1
     | false=>k.max) a)
   | none=>.no)
 | _=>.no
def convP (P : Program) (s t : TypeId) (x : S) : Prg:=match kindT P s,kindT P t with
 | some k,some k'=>kP k x fun z=>rK k' (k'.wrap z)
 | _,_=>match P.underlying t with
   | some .string=>(match P.underlying s with
     | some (.slice e)=>(match kindT P e with
       | some .u8=>sliP 1 x fun _ cs=>.by_ .u8 cs fun zs=>retP (.c (.d (.v (.string (strB zs)))))
       | _=>.no)
     | some .string=>strP x fun b=>retP (.c (.d (.v (.string b))))
     | _=>.no)
   | _=>.no
def oneB (P : Program) (t : TypeId) : Bool:=match szT P t with
 | some m=>Nat.beq m 1
 | none=>false
def byteAt (s : ByteArray) (i : Nat) : Int:=((s.data.toList.getD i 0).toNat : Int)
def indexVP (P : Program) (t : TypeId) (x i : S) : Prg:=match P.underlying t with
 | some .string=>strP x fun s=>intP i fun z=>ckP (0<=z/\z < (s.size : Int)) (rK .u8 (byteAt s z.toNat))
 | some (.array n e)=>(match x with
   | .a m ds=>(match Nat.beq n m && flatB P e && oneB P e with
     | true=>intP i fun z=>ckP (0<=z/\z < (n : Int)) (retP (.c (.d (cell ds z.toNat))))
     | false=>.no)
   | _=>.no)
 | _=>.no
def placesA (P : Program) (t : TypeId) : Option (List (Nat×Nat)):=match arrT P t with
 | some (n,_,sz)=>some ((List.range n).map fun i=>(i * sz,sz))
 | none=>placesB P t
def partT (P : Program) (t i : Nat) : Option Nat:=match arrT P t with
 | some (_,e,_)=>some e
 | none=>match fieldT P t i with
   | some (_,ft)=>some ft
   | none=>none
def placeC (P : Program) (t : TypeId) (pl : List (Nat×Nat)) : List (Nat×Operand)->List C->(List C->Prg)->Prg
 | [],cs,k=>k cs
 | (i,x)::l,cs,k=>match pl[i]?,partT P t i with
   | some (off,m),some ft=>evP x fun s=>(match cellsS (typed P ft s) with
       | some vs=>(match Nat.beq vs.length m && Nat.ble (off+m) cs.length with
         | true=>placeC P t pl l (setC cs off vs) k
         | false=>.no)
       | none=>.no)
   | _,_=>.no
def buildP (P : Program) (t : TypeId) (parts : List (Nat×Operand)) : Prg:=match placesA P t,zCells P t,isAggV (zeroB P t) with
 | some pl,some zs,true=>placeC P t pl parts zs fun cs=>retP (.g cs)
 | _,_,_=>.no
def partsP (P : Program) (e sz : Nat) : Nat->List (Nat×Operand)->(List D->List (Nat×O)->Prg)->Prg
 | _,[],k=>k [] []
 | j,(i,x)::l,k=>match Nat.beq i j with
   | true=>evP x fun s=>valP (typed P e s) fun m ds os=>(match Nat.beq m sz with
     | true=>partsP P e sz (j+1) l fun r os'=>k (ds++r) (os++os')
     | false=>.no)
   | false=>.no
def bytesOk (P : Program) (e sz : Nat) : Bool:=match P.info? e with
 | some i=>Nat.beq i.size sz && (match i.zero with
   | some z=>Nat.beq z.cells.size sz
   | none=>false) && Nat.blt 0 sz
 | none=>false
def buildSliceP (P : Program) (id : Nat) (t : TypeId) (len : Nat) (parts : List (Nat×Operand)) : Prg:=match elT P t with
 | some (e,sz)=>(match Nat.beq parts.length len && Nat.ble (len * sz) 16777216 && bytesOk P e sz with
   | true=>partsP P e sz 0 parts fun ds os=>newP id (.c (.w id)) os (.w e sz len ds)
   | false=>.no)
 | none=>.no
def wordsP (P : Program) (e sz : Nat) : Nat->List (Nat×Operand)->(List C->Prg)->Prg
 | _,[],k=>k []
 | j,(i,x)::l,k=>match Nat.beq i j with
   | true=>evP x fun s=>match cellsS (typed P e s) with
     | some cs=>(match Nat.beq cs.length sz with
       | true=>wordsP P e sz (j+1) l fun r=>k (cs++r)
       | false=>.no)
     | none=>.no
   | false=>.no
def buildRowP (P : Program) (id : Nat) (t : TypeId) (len : Nat) (parts : List (Nat×Operand)) : Prg:=match elT P t with
 | some (e,sz)=>(match Nat.beq parts.length len && Nat.ble (len * sz) 16777216 && bytesOk P e sz with
   | true=>wordsP P e sz 0 parts fun cs=>newP id (.c (.w id)) [] (.v e sz len cs)
   | false=>.no)
 | none=>.no
def allocP (P : Program) (id : Nat) (t : TypeId) : Prg:=match zCells P t with
 | some zs=>(match Nat.blt 40 zs.length,zDs zs with
   | true,some ds=>newP id (.c (.p id 0)) [] (.a t zs.length ds)
   | _,_=>newP id (.c (.p id 0)) [] (.b t zs))
 | none=>.no
def boxP (P : Program) (id : Nat) (t : TypeId) (s : S) : Prg:=match typed P t s with
 | .a n ds=>newP id (.c (.p id 0)) [] (.a t n ds)
 | s=>(match cellsS s with
   | some cs=>newP id (.c (.p id 0)) [] (.b t cs)
   | none=>.no)
def room (n bytes : Nat) : Prop:=n * bytes<=140737488355328
instance (n bytes : Nat) : Decidable (room n bytes):=by unfold room;exact inferInstance
def growP (e sz : Nat) (s : S) (k : Nat->List D->List (Nat×O)->Prg) : Prg:=match s with
 | .c .n=>k 0 [] []
 | .c (.l sz')=>(match Nat.beq sz' sz with
   | true=>k 0 [] []
   | false=>.no)
 | .c (.w b)=>.rdO b fun o=>(match o with
   | some (.w e' sz' n ds)=>(match Nat.beq e e' && Nat.beq sz sz' with
     | true=>k n ds [(b,.gone)]
     | false=>.no)
   | _=>.no)
 | _=>.no
def growRowP (e sz : Nat) (s : S) (k : Nat->List C->List (Nat×O)->Prg) : Prg:=match s with
 | .c .n=>k 0 [] []
 | .c (.l sz')=>(match Nat.beq sz' sz with
   | true=>k 0 [] []
   | false=>.no)
 | .c (.w b)=>.rdO b fun o=>(match o with
   | some (.v e' sz' n cs)=>(match Nat.beq e e' && Nat.beq sz sz' with
     | true=>k n cs [(b,.gone)]
     | false=>.no)
   | _=>.no)
 | _=>.no
def appendP (P : Program) (id : Nat) (t : TypeId) (s x : S) : Prg:=match elT P t with
 | none=>.no
 | some (e,sz)=>match bytesOk P e sz with
   | false=>.no
   | true=>match x with
     | .c (.w b2)=>.rdO b2 fun o2=>(match o2 with
       | some (.v e2 sz2 m vs)=>(match Nat.beq e e2 && Nat.beq sz sz2 && vs.all okC with
         | true=>growRowP e sz s fun n cs os=>ckP (room (n+m) (bytesT P e+1)) (newP id (.c (.w id)) os (.v e sz (n+m) (cs++vs)))
         | false=>.no)
       | _=>growP e sz s fun n ds os=>sliP sz x fun m vs=>ckP (room (n+m) (bytesT P e+1)) (newP id (.c (.w id)) os (.w e sz (n+m) (ds++vs))))
     | x=>growP e sz s fun n ds os=>sliP sz x fun m vs=>ckP (room (n+m) (bytesT P e+1)) (newP id (.c (.w id)) os (.w e sz (n+m) (ds++vs)))
def u8B (P : Program) (e : TypeId) : Bool:=match P.info? e with
 | some i=>Nat.beq i.size 1 && Nat.beq i.bytes 1 && (match i.zero with
   | some (.int .u8 z)=>decide (z = 0)
   | _=>false)
 | none=>false
def appendSP (P : Program) (id : Nat) (t t' : TypeId) (s x : S) : Prg:=match elT P t,P.underlying t' with
 | some (e,sz),some .string=>(match u8B P e with
   | true=>growP e 1 s fun n ds os=>strP x fun z=>ckP (room (n+z.size) 2) (newP id (.c (.w id)) os (.w e 1 (n+z.size) (ds++byteD z)))
   | _=>.no)
 | _,_=>.no
def copyP (P : Program) (t t' : TypeId) (s x : S) : Prg:=match elT P t,P.underlying t' with
 | some (e,_),some .string=>(match s,oneB P e with
   | .c (.y b q 1 l n),true=>strP x fun z=>.rdO b fun o=>(match o with
     | some (.a e' m ds)=>ckP (q+l * 1+min z.size n<=m) (.ret (some (.c (.d (.v (.int .i64 (min z.size n : Nat)))))) [(b,.a e' m (upd ds (q+l * 1) ((byteD z).take (min z.size n))))])
     | _=>.no)
   | _,_=>.no)
 | _,_=>.no
def lenP (P : Program) (t : TypeId) (s : S) : Prg:=match P.underlying t with
 | some (.slice _)=>(match elT P t with
   | some (_,sz)=>(match s with
     | .c (.w b)=>.rdO b fun o=>(match o with
       | some (.v _ sz' n _)=>(match Nat.beq sz' sz with
         | true=>rInt (n : Int)
         | false=>.no)
       | _=>sliP sz (.c (.w b)) fun n _=>rInt (n : Int))
     | .c (.y _ _ sz' _ n)=>(match Nat.beq sz' sz with
       | true=>rInt (n : Int)
       | false=>.no)
     | s=>sliP sz s fun n _=>rInt (n : Int))
   | none=>.no)
 | some .string=>strP s fun a=>rInt (a.size : Int)
 | _=>.no
def sameB : CSh->C->Bool
 | .d,.d _=>true
 | .i,.d _=>true
 | .bo,.d _=>true
 | .d,.w _=>true
 | .d,.l _=>true
 | .d,.y _ _ _ _ _=>true
 | .p _ o,.p _ o'=>Nat.beq o o'
 | .w _,.w _=>true
 | .w _,.l _=>true
 | .m _,.m _=>true
 | _,_=>false
def sameBs : List CSh->List C->Bool
 | [],[]=>true
 | s::ss,c::cs=>sameB s c && sameBs ss cs
 | _,_=>false
def sameC : CSh->C->Bool
 | .f g cs,.f g' cs'=>Nat.beq g g' && sameBs cs cs'
 | s,c=>sameB s c
def sameCs : List CSh->List C->Bool
 | [],[]=>true
 | s::ss,c::cs=>sameC s c && sameCs ss cs
 | _,_=>false
def sameS : SSh->S->Bool
 | .c s,.c c=>sameC s c
 | .a n,.a m _=>Nat.beq n m
 | .a n,.g cs=>Nat.beq n cs.length
 | .g ss,.g cs=>sameCs ss cs
 | .g ss,.a n _=>Nat.beq ss.length n
 | _,_=>false
def fitsB : List (Nat×SSh)->List S->Bool
 | [],[]=>true
 | (_,s)::l,x::xs=>sameS s x && fitsB l xs
 | _,_=>false
def findSig (tb : Tb) (f : Nat) (xs : List S) : Option Sig:=tb.sg.find? fun s=>Nat.beq s.f f && fitsB s.ins.sl xs
def evsP : List Operand->(List S->Prg)->Prg
 | [],k=>k []
 | x::xs,k=>evP x fun s=>evsP xs fun l=>k (s::l)
def typeds (P : Program) : List TypeId->List S->List S
 | t::ts,s::l=>typed P t s::typeds P ts l
 | _,l=>l
def refC : C->List Nat
 | .p b _=>[b]
 | .w b=>[b]
 | .m b=>[b]
 | .e b _=>[b]
 | .y b _ _ _ _=>[b]
 | .f _ cs=>cs.flatMap fun | .p b _=>[b] | .w b=>[b] | .m b=>[b] | _=>[]
 | _=>[]
def refS : S->List Nat
 | .c c=>refC c
 | .g cs=>cs.flatMap refC
 | _=>[]
def refO : Option O->List Nat
 | some (.b _ cs)=>cs.flatMap refC
 | some (.v _ _ _ cs)=>cs.flatMap refC
 | _=>[]
def reachP : Nat->List Nat->List Nat->(Ob->Prg)->Ob->Prg
 | 0,_,_,k,f=>k f
 | _+1,[],_,k,f=>k f
 | n+1,b::l,seen,k,f=>match seen.contains b with
   | true=>reachP n l seen k f
   | false=>.rdO b fun o=>reachP n (l++refO o) (b::seen) k (fun i=>match Nat.beq i b with
     | true=>o
     | false=>f i)
def numbered : Nat->List S->(Nat->S)
 | _,[]=>fun _=>su
 | j,s::l=>fun k=>match Nat.beq k j with
   | true=>s
   | false=>numbered (j+1) l k
def backN (mp : List (Nat×Tg)) (d i : Nat) : Nat:=match getT mp i with
 | some (.ob b)=>b
 | _=>d+10000 * (i+1)
def backB (mp : List (Nat×Tg)) (d : Nat) : C->C
 | .p b o=>.p (backN mp d b) o
 | .w b=>.w (backN mp d b)
 | .m b=>.m (backN mp d b)
 | .q _ _ _ _=>.u
 | .e _ _=>.u
 | .y _ _ _ _ _=>.u
 | c=>c
def backC (mp : List (Nat×Tg)) (d : Nat) : C->C
 | .f g cs=>.f g (cs.map (backB mp d))
 | c=>backB mp d c
def backS (mp : List (Nat×Tg)) (d : Nat) : S->S
 | .c c=>.c (backC mp d c)
 | .g cs=>.g (cs.map (backC mp d))
 | s=>s
def backO (mp : List (Nat×Tg)) (d : Nat) : O->O
 | .b e cs=>.b e (cs.map (backC mp d))
 | .v e sz n cs=>.v e sz n (cs.map (backC mp d))
 | o=>o
def freeP (mp : List (Nat×Tg)) (d i : Nat) (k : Prg) : Prg:=match getT mp i with
 | some (.ob _)=>k
 | _=>.rdO (d+10000 * (i+1)) fun x=>match x with
   | none=>k
   | some _=>.no
def unObP (mp : List (Nat×Tg)) (d : Nat) (r : St') : Nat->List (Nat×OSh)->List (Nat×O)->(List (Nat×O)->Prg)->Prg
 | _,[],l,k=>k l
 | j,(b,o)::os,l,k=>unO textQ (nextE (hasO o) r j).1 o fun x=>freeP mp d b (unObP mp d r (nextE (hasO o) r j).2 os (l++[(backN mp d b,backO mp d x)]) k)
def unRs (r : St') : Nat->List SSh->(List S->Nat->Prg)->Prg
 | j,[],k=>k [] j
 | j,s::l,k=>unS textQ (nextE (hasS s) r j).1 s fun x=>unRs r (nextE (hasS s) r j).2 l fun xs j=>k (x::xs) j
def unR (r : St') (s : SSh) (k : S->Nat->Prg) : Prg:=match s with
 | .t l=>unRs r 0 l fun xs j=>k (.t xs) j
 | s=>unS textQ (nextE (hasS s) r 0).1 s fun x=>k x (nextE (hasS s) r 0).2
def backR (mp : List (Nat×Tg)) (d : Nat) : S->S
 | .t l=>.t (l.map (backS mp d))
 | s=>backS mp d s
def fixed (ob : Ob) : List Nat->List (Nat×O)
 | []=>[]
 | b::l=>match ob b with
   | some (.w _ sz n ds)=>(b,.s sz n ds)::fixed ob l
   | _=>fixed ob l
def fixedV (ob : Ob) (fx : List Nat) : List Nat->List (Nat×O)
 | []=>[]
 | b::l=>match ob b with
   | some (.v _ sz n ws)=>(match rowD ob ws with
     | some (ds,bs)=>(match bs.all fun x=>fx.any (Nat.beq x) with
       | true=>(b,.s sz n ds)::fixedV ob fx l
       | false=>fixedV ob fx l)
     | none=>fixedV ob fx l)
   | _=>fixedV ob fx l
def gone (oob : List (Nat×OSh)) : List (Nat×Tg)->List (Nat×O)
 | []=>[]
 | (i,.ob b)::l=>(match oob.any fun x=>Nat.beq x.1 i with
   | true=>gone oob l
   | false=>(b,.gone)::gone oob l)
 | _::l=>gone oob l
def scalS : SSh->Bool
 | .c .i=>true
 | .c .bo=>true
 | _=>false
def lendB (s : Sig) : Bool:=s.ins.ob.isEmpty && s.oob.isEmpty && (match s.out with
 | .t l=>l.all scalS
 | .a _=>true
 | s=>scalS s)
def allV : List D->Bool
 | []=>true
 | .v _::l=>allV l
 | _::_=>false
def plainP (v : S) (k : Prg) : Prg:=match v with
 | .a _ ds=>ckP (allV ds = true) k
 | _=>k
def yS (ob : Ob) : S->S
 | .c (.y b q sz l n)=>(match ob b with
   | some (.a _ m ds)=>(match Nat.beq sz 1 && (Nat.ble (q+l * sz+n) m && Nat.ble n 1000000) with
     | true=>.c (.d (.sl n 1 (sub ds (q+l * sz) n)))
     | false=>.c (.y b q sz l n))
   | _=>.c (.y b q sz l n))
 | s=>s
def yBs : List S->List Nat
 | []=>[]
 | .c (.y b _ _ _ _)::l=>b::yBs l
 | _::l=>yBs l
def lendS (ln : Bool) (ob : Ob) (l : List S) : List S:=match ln with
 | true=>l.map (yS ob)
 | false=>l
def callP (P : Program) (tb : Tb) (id f : Nat) (xs : List S) : Prg:=match P.funcs[f]?,funcB P f with
 | none,_=>.no
 | some _,false=>.no
 | some fn,true=>match findSig tb f (typeds P fn.params.toList xs) with
   | none=>.no
   | some s=>reachP 12 (xs.flatMap refS) [] (fun ob=>match pack s.ins ⟨numbered 0 (lendS s.lend ob (typeds P fn.params.toList xs)),ob,0⟩ with
     | none=>.no
     | some (a,k)=>match fixedV ob k.fix k.fix with
      | _::_=>.no
      | []=>match s.lend with
       | true=>(match lendB s with
         | true=>.ca s a fun r=>unR r s.out fun v _=>plainP v (.ret (some v) [])
         | false=>.no)
       | false=>(match nodupB s.oob with
         | true=>.ca s a fun r=>unR r s.out fun v j=>unObP k.mp id r j s.oob (fixed ob k.fix++gone s.oob k.mp) fun os=>.ret (some (backR k.mp id v)) os
         | false=>.no)) (fun _=>none)
def natP (n : Nat) (x : Option Operand) (k : Int->Prg) : Prg:=match x with
 | none=>k (n : Int)
 | some x=>evP x fun s=>intP s k
def sliceP (P : Program) (t : TypeId) (x : S) (lo hi mx : Option Operand) : Prg:=match mx with
 | some _=>.no
 | none=>match elT P t with
   | some (_,sz)=>(match x with
     | .c (.y b q sz' l0 n)=>(match Nat.beq sz' sz with
       | true=>natP 0 lo fun l=>natP n hi fun h=>ckP (0<=l/\l<=h/\h<=(n : Int)) (retP (.c (.y b q sz (l0+l.toNat) (h.toNat - l.toNat))))
       | false=>.no)
     | .c c=>datP c fun x os=>.sc sz x fun n cs=>natP 0 lo fun l=>natP n hi fun h =>
         ckP (0<=l/\l<=h/\h<=n) (.ret (some (.c (.d (.sl (h.toNat - l.toNat) sz (sub cs (l.toNat * sz) ((h.toNat - l.toNat) * sz)))))) os)
     | _=>.no)
   | none=>match arrT P t with
    | some (n,_,sz)=>baseP x fun b o=>natP 0 lo fun l=>natP n hi fun h=>ckP (0<=l/\l<=h/\h<=(n : Int)) (retP (.c (.y b o sz l.toNat (h.toNat - l.toNat))))
    | none=>match P.underlying t with
     | some .string=>strP x fun s=>natP 0 lo fun l=>natP s.size hi fun h =>
         ckP (0<=l/\l<=h/\h<=(s.size : Int)) (retP (.c (.d (.v (.string (s.extract l.toNat h.toNat))))))
     | _=>.no
def arrayAtP (P : Program) (t : TypeId) (x : S) : Prg:=match arrT P t,x with
 | some (N,_,sz),.c (.y b q sz' l n)=>(match Nat.beq sz' sz with
   | true=>.rdO b fun o=>(match o with
     | some (.a _ _ _)=>ckP (N<=n) (retP (.c (.p b (q+l * sz))))
     | some (.b _ _)=>ckP (N<=n) (retP (.c (.p b (q+l * sz))))
     | _=>.no)
   | false=>.no)
 | _,_=>.no
def globD (g : Nat) : List (Nat×List D)->Option (List D)
 | []=>none
 | (i,ds)::l=>match Nat.beq g i with
   | true=>some ds
   | false=>globD g l
def globP (P : Program) (tb : Tb) (g : Nat) (t : TypeId) : Prg:=match globD g tb.gl,aggT P t with
 | some ds,some m=>(match Nat.beq m ds.length with
   | true=>retP (.a m ds)
   | false=>.no)
 | _,_=>.no
def makeP (P : Program) (id : Nat) (t : TypeId) (x y : S) : Prg:=match elT P t with
 | some (e,sz)=>(match (zCells P e).bind zDs,bytesOk P e sz with
   | some zs,true=>intP x fun a=>intP y fun b=>ckP (0<=a/\a = b/\room a.toNat (bytesT P e+1)) (newP id (.c (.w id)) [] (.w e sz a.toNat (List.replicate a.toNat zs).flatten))
   | _,_=>.no)
 | none=>.no
def minmaxP (mx : Bool) (x y : S) : Prg:=intP x fun a=>intP y fun b=>rInt (match mx with
 | true=>max a b
 | false=>min a b)
def capC : List S->Option (List C)
 | []=>some []
 | .c (.f _ _)::_=>none
 | .c c::l=>(match okC c,capC l with
   | true,some cs=>some (c::cs)
   | _,_=>none)
 | _::_=>none
def funP (g : Nat) (xs : List S) : Prg:=match capC xs with
 | some cs=>retP (.c (.f g cs))
 | none=>.no
def mapT (P : Program) (tb : Tb) (t : TypeId) : Option (Nat×Bool×Nat×List D):=match P.underlying t with
 | some (.map k e)=>(match tb.eq3.any (Nat.beq k),(zCells P e).bind zDs with
   | true,some zs=>(match isAggV (zeroB P e) with
     | true=>some (e,true,zs.length,zs)
     | false=>(match zs with
       | [_]=>some (e,false,1,zs)
       | _=>none))
   | _,_=>none)
 | _=>none
def makeMapP (P : Program) (tb : Tb) (id : Nat) (t : TypeId) : Prg:=match mapT P tb t with
 | some (_,ag,vs,_)=>newP id (.c (.m id)) [] (.m t ag vs 0 [])
 | none=>.no
def key3P (s : S) (k : Int->Int->Int->Prg) : Prg:=match size3 s with
 | true=>purP s fun ds=>.i (cell ds 0) fun a=>.i (cell ds 1) fun b=>.i (cell ds 2) fun c=>k a b c
 | false=>.no
def entP (t : TypeId) (ag : Bool) (vs : Nat) (s : S) (k : Nat->Nat->List D->Prg) : Prg:=match s with
 | .c (.m b)=>.rdO b fun o=>(match o with
   | some (.m t' ag' vs' n ds)=>(match Nat.beq t t' && Bool.and (ag == ag') (Nat.beq vs vs') with
     | true=>k b n ds
     | false=>.no)
   | _=>.no)
 | _=>.no
def hitS (ag : Bool) (vs : Nat) (xs : List D) : S:=match ag with
 | true=>.a vs xs
 | false=>.c (.d (cell xs 0))
def luS (cm : Bool) (v : S) (ok : Bool) : S:=match cm with
 | true=>.t [v,.c (.d (.v (.bool ok)))]
 | false=>v
def lookupP (P : Program) (tb : Tb) (t : TypeId) (s key : S) (cm : Bool) : Prg:=match mapT P tb t with
 | some (_,ag,vs,zs)=>entP t ag vs s fun _ n ds=>key3P key fun x y z=>retP (luS cm (hitS ag vs ((mapFind (3+vs) x y z n ds).getD zs)) (mapFind (3+vs) x y z n ds).isSome)
 | none=>.no
def mvalP (ag : Bool) (s : S) (k : Nat->List D->List (Nat×O)->Prg) : Prg:=match ag,s with
 | false,.c c=>datP c fun x os=>k 1 [x] os
 | true,.a n ds=>k n ds []
 | true,.g cs=>datsP cs fun ds os=>k cs.length ds os
 | _,_=>.no
def mapUpdateP (P : Program) (tb : Tb) (t : TypeId) (s key v : S) : Prg:=match mapT P tb t with
 | some (e,ag,vs,_)=>entP t ag vs s fun b n cur=>key3P key fun x y z=>mvalP ag (typed P e v) fun m ds os=>match Nat.beq m vs && !(os.any fun p=>Nat.beq p.1 b) with
     | true=>.ret none (os++[(b,.m t ag vs (mapLen (3+vs) x y z n cur) (mapSet (3+vs) x y z ds n cur))])
     | false=>.no
 | none=>.no
def opP (P : Program) (tb : Tb) (base : Nat) (o : Oper) : Prg:=match o.dst with
 | none=>(match o.op with
   | .store t x y=>evP x fun s=>evP y fun v=>storeP P t s (typed P t v)
   | .mapUpdate t x y z=>evP x fun s=>evP y fun k=>evP z fun v=>mapUpdateP P tb t s k v
   | _=>.no)
 | some d=>match o.op with
   | .move x=>evP x fun s=>retP (typed P o.type s)
   | .assign x=>evP x fun s=>retP (typed P o.type s)
   | .pick c a b=>evP c fun s=>booP s fun z=>.if_ z (evP a retP) (evP b retP)
   | .load t x=>(match x with
     | .global g=>globP P tb g t
     | x=>evP x fun s=>loadP P t s)
   | .fieldAddr t x i=>evP x fun s=>fieldP P t s i
   | .indexAddr t x i=>evP x fun s=>evP i fun z=>indexP P t s z
   | .alloc t=>allocP P (base+d) t
   | .box t x=>evP x fun s=>boxP P (base+d) t s
   | .build t ps=>buildP P t ps.toList
   | .buildSlice t n ps=>(match tb.deep.any (Nat.beq t) with
     | true=>buildRowP P (base+d) t n ps.toList
     | false=>buildSliceP P (base+d) t n ps.toList)
   | .binOp op t x y t'=>(match isSh op with
     | true=>evP x fun a=>evP y fun b=>shiftP P op t t' a b
     | false=>match Nat.beq t t' with
       | true=>evP x fun a=>evP y fun b=>binP P tb op t a b
       | false=>.no)
   | .convert s t x=>evP x fun a=>convP P s t a
   | .index t x i=>evP x fun a=>evP i fun z=>indexVP P t a z
   | .unOp op t x=>evP x fun a=>unP P op t a
   | .extract x i=>evP x fun s=>(match s with
     | .t l=>(match l[i]? with
       | some v=>retP v
       | none=>.no)
     | _=>.no)
   | .nilCheck x=>evP x fun s=>(match s with
     | .c (.p b o)=>retP (.c (.p b o))
     | .r n ds o=>retP (.r n ds o)
     | .c (.q b sz k j)=>retP (.c (.q b sz k j))
     | .c (.e b i)=>retP (.c (.e b i))
     | _=>.no)
   | .sliceToArrayPointer t x=>evP x fun s=>arrayAtP P t s
   | .slice t x lo hi mx=>evP x fun s=>sliceP P t s lo hi mx
   | .makeMap t none=>makeMapP P tb (base+d) t
   | .lookup t x y cm=>evP x fun s=>evP y fun k=>lookupP P tb t s k cm
   | .makeSlice t x y=>evP x fun a=>evP y fun b=>makeP P (base+d) t a b
   | .makeFunc (.func g) fs cs=>(match fs.toList with
     | []=>evsP cs.toList fun xs=>funP g xs
     | _=>.no)
   | .call c=>(match c.callee with
     | .value x=>evP x fun s=>(match s with
       | .c (.f g cs)=>evsP c.args.toList fun xs=>callP P tb (base+d) g (xs++cs.map S.c)
       | _=>.no)
     | .builtin .len=>(match c.args.toList,c.argTypes.toList with
       | [x],[t]=>evP x fun s=>lenP P t s
       | _,_=>.no)
     | .builtin .append=>(match c.args.toList,c.argTypes.toList with
       | [x,y],[t,t']=>(match Nat.beq t t' with
         | true=>evP x fun s=>evP y fun v=>appendP P (base+d) t s v
         | false=>evP x fun s=>evP y fun v=>appendSP P (base+d) t t' s v)
       | _,_=>.no)
     | .builtin .copy=>(match c.args.toList,c.argTypes.toList with
       | [x,y],[t,t']=>evP x fun s=>evP y fun v=>copyP P t t' s v
       | _,_=>.no)
     | .builtin .min=>(match c.args.toList with
       | [x,y]=>evP x fun a=>evP y fun b=>minmaxP false a b
       | _=>.no)
     | .builtin .max=>(match c.args.toList with
       | [x,y]=>evP x fun a=>evP y fun b=>minmaxP true a b
       | _=>.no)
     | _=>.no)
   | _=>.no
def caK (Is : Sig->St'->St'->Prop) (s : Sig) (a : St') (k : St'->Prop) : Prop:=∃ r,Is s a r/\k r
structure Fp where
 wr : Option Nat
 sl : List Nat
 ob : List Nat
 wo : List Nat
def run (Is : Sig->St'->St'->Prop) (fr : Fr) : Prg->List Nat->List Nat->(Option S->List (Nat×O)->List Nat->List Nat->Prop)->Prop
 | .no,_,_,_=>False
 | .ret v ob,fs,fo,K=>K v ob fs fo
 | .rdS t k,fs,fo,K=>run Is fr (k (fr.sl t)) (t::fs) fo K
 | .rdO b k,fs,fo,K=>run Is fr (k (fr.ob b)) fs (b::fo) K
 | .i x k,fs,fo,K=>intK x fun z=>run Is fr (k z) fs fo K
 | .bo x k,fs,fo,K=>booK x fun z=>run Is fr (k z) fs fo K
 | .st x k,fs,fo,K=>strK x fun z=>run Is fr (k z) fs fo K
 | .ik kd x k,fs,fo,K=>ikK kd x fun z=>run Is fr (k z) fs fo K
 | .by_ kd cs k,fs,fo,K=>byK kd cs fun z=>run Is fr (k z) fs fo K
 | .sc sz x k,fs,fo,K=>slcK sz x fun n cs=>run Is fr (k n cs) fs fo K
 | .if_ b p q,fs,fo,K=>ifK b (run Is fr p fs fo K) (run Is fr q fs fo K)
 | .ck p _ k,fs,fo,K=>ckK p (run Is fr k fs fo K)
 | .ca s a k,fs,fo,K=>caK Is s a fun r=>run Is fr (k r) fs fo K
def Prg.bind (h : Option S->List (Nat×O)->Prg) : Prg->Prg
 | .no=>.no
 | .ret v ob=>h v ob
 | .rdS t k=>.rdS t fun s=>(k s).bind h
 | .rdO b k=>.rdO b fun s=>(k s).bind h
 | .i x k=>.i x fun s=>(k s).bind h
 | .bo x k=>.bo x fun s=>(k s).bind h
 | .st x k=>.st x fun s=>(k s).bind h
 | .ik kd x k=>.ik kd x fun s=>(k s).bind h
 | .by_ kd cs k=>.by_ kd cs fun s=>(k s).bind h
 | .sc sz x k=>.sc sz x fun n s=>(k n s).bind h
 | .if_ b p q=>.if_ b (p.bind h) (q.bind h)
 | .ck p d k=>.ck p d (k.bind h)
 | .ca s a k=>.ca s a fun r=>(k r).bind h
def tellP (v : Option S) (ob : List (Nat×O)) : Prg:=match v with
 | some (.c (.d x))=>.bo x fun b=>.if_ b (.ret (some (.c (.d (.v (.bool true))))) ob) (.ret (some (.c (.d (.v (.bool false))))) ob)
 | v=>.ret v ob
def guardsL (ops : Array Oper) : List Oper->List Nat
 | []=>[]
 | o::l=>match o.guard with
   | some (j,_)=>(match (ops[j]?).bind (·.dst) with
     | some t=>t::guardsL ops l
     | none=>guardsL ops l)
   | none=>guardsL ops l
def toldP (gs : List Nat) (o : Oper) (p : Prg) : Prg:=match o.dst with
 | some d=>(match gs.any (Nat.beq d) with
   | true=>p.bind tellP
   | false=>p)
 | none=>p
def opG (P : Program) (tb : Tb) (base : Nat) (ops : Array Oper) (gs : List Nat) (o : Oper) : Prg:=match o.guard with
 | none=>toldP gs o (opP P tb base o)
 | some (j,want)=>match (ops[j]?).bind (·.dst) with
   | none=>.no
   | some t=>.rdS t fun s=>match s with
     | .c .z=>.ret (match o.dst with
       | some _=>some (.c .z)
       | none=>none) []
     | s=>booP s fun b=>.if_ (b == want) (toldP gs o (opP P tb base o)) (.ret (match o.dst with
       | some _=>some (.c .z)
       | none=>none) [])
def Fr.turn (fr : Fr) : List (Nat×O)->Fr
 | []=>fr
 | (b,o)::l=>(fr.set b o).turn l
def Fr.puts (fr : Fr) (d : Option Nat) (v : Option S) : Fr:=match d,v with
 | some d,some v=>fr.put d v
 | _,_=>fr
def fits (n : Nat) (d : Option Nat) (v : Option S) : Bool:=match d,v with
 | some d,some _=>Nat.blt d n
 | none,none=>true
 | _,_=>false
def forceC : C->(C->Prop)->Prop
 | .d x,k=>k (.d x)
 | .n,k=>k .n
 | .l sz,k=>k (.l sz)
 | .p b o,k=>k (.p b o)
 | .q b sz i j,k=>k (.q b sz i j)
 | .w b,k=>k (.w b)
 | .m b,k=>k (.m b)
 | .f g cs,k=>k (.f g cs)
 | .z,k=>k .z
 | .u,k=>k .u
 | .e b i,k=>k (.e b i)
 | .y b q sz l n,k=>k (.y b q sz l n)
def forceCs : List C->(List C->Prop)->Prop
 | [],k=>k []
 | c::cs,k=>forceC c fun c=>forceCs cs fun cs=>k (c::cs)
def forceS : S->(S->Prop)->Prop
 | .c x,k=>forceC x fun x=>k (.c x)
 | .a n ds,k=>k (.a n ds)
 | .g cs,k=>forceCs cs fun cs=>k (.g cs)
 | .r n ds o,k=>k (.r n ds o)
 | .t l,k=>k (.t l)
def forceV : Option S->(Option S->Prop)->Prop
 | none,k=>k none
 | some v,k=>forceS v fun v=>k (some v)
def forceO : O->(O->Prop)->Prop
 | .b e cs,k=>forceCs cs fun cs=>k (.b e cs)
 | .a e n ds,k=>k (.a e n ds)
 | .w e sz n ds,k=>k (.w e sz n ds)
 | .v e sz n cs,k=>forceCs cs fun cs=>k (.v e sz n cs)
 | .s sz n ds,k=>k (.s sz n ds)
 | .m t ag vs n ds,k=>k (.m t ag vs n ds)
 | .gone,k=>k .gone
def forceOs : List (Nat×O)->(List (Nat×O)->Prop)->Prop
 | [],k=>k []
 | (b,o)::l,k=>forceO o fun o=>forceOs l fun l=>k ((b,o)::l)
theorem forceC_eq (c : C) (k : C->Prop) : forceC c k = k c:=by cases c <;> rfl
theorem forceCs_eq : ∀ (l : List C) (k : List C->Prop),forceCs l k = k l
 | [],_=>rfl
 | c::l,k=>by rw [forceCs,forceC_eq,forceCs_eq l]
theorem forceS_eq (s : S) (k : S->Prop) : forceS s k = k s:=by
 cases s with
 | c x=>exact forceC_eq x _
 | g cs=>exact forceCs_eq cs _
 | _=>rfl
theorem forceV_eq (v : Option S) (k : Option S->Prop) : forceV v k = k v:=by
 cases v with
 | none=>rfl
 | some v=>exact forceS_eq v _
theorem forceO_eq (o : O) (k : O->Prop) : forceO o k = k o:=by
 cases o with
 | b e cs=>exact forceCs_eq cs _
 | v e sz n cs=>exact forceCs_eq cs _
 | _=>rfl
theorem forceOs_eq : ∀ (l : List (Nat×O)) (k : List (Nat×O)->Prop),forceOs l k = k l
 | [],_=>rfl
 | (b,o)::l,k=>by rw [forceOs,forceO_eq,forceOs_eq l]
def runL (Is : Sig->St'->St'->Prop) (P : Program) (tb : Tb) (n : Nat) (ops : Array Oper) (gs : List Nat) : List Oper->Nat->Fr->List (Nat×Fp)->(Fr->List (Nat×Fp)->Prop)->Prop
 | [],_,fr,l,K=>K fr l
 | o::os,i,fr,l,K=>run Is fr (opG P tb fr.base ops gs o) [] [] fun v ob fs fo=>match fits n o.dst v with
   | true=>forceV v fun v=>forceOs ob fun ob=>runL Is P tb n ops gs os (i+1) ((fr.puts o.dst v).turn ob) ((i,⟨o.dst,fs,fo,ob.map Prod.fst⟩)::l) K
   | false=>False
def clash (a b : Fp) : Bool :=
 (match a.wr with
 | some d=>b.sl.any (Nat.beq d) || (match b.wr with
   | some d'=>Nat.beq d d'
   | none=>false)
 | none=>false) || (match b.wr with
 | some d=>a.sl.any (Nat.beq d)
 | none=>false) || a.wo.any (fun x=>b.ob.any (Nat.beq x) || b.wo.any (Nat.beq x)) || b.wo.any (fun x=>a.ob.any (Nat.beq x))
def calm (bf : Array Nat) : List (Nat×Fp)->Bool
 | []=>true
 | (j,x)::l=>l.all (fun y=>!clash y.2 x || Nat.testBit (bf.getD j 0) y.1) && calm bf l
def edgesB : List Oper->Nat->Bool
 | [],_=>true
 | o::l,i=>o.after.toList.all (fun e=>!Region.binds .any e || Nat.blt e.on i) && edgesB l (i+1)
def Fr.past (fr : Fr) : Fr:=⟨fr.sl,fr.ob,fr.base+1000000⟩
structure Kt where
 n : Fr->Prop
 x : Nat->Fr->Prop
 r : Fr->Prop
def Lp (B : (St'->Prop)->St'->Prop) (s : St') : Prop:=∃ I : Nat->St'->Prop,(∃ m,I m s)/\∀ m s,I m s->B (fun s'=>∃ m',m' < m/\I m' s') s
def jn (X : (St'->Prop)->Prop) (k : St'->Prop) : Prop:=∃ I : St'->Prop,X I/\∀ s,I s->k s
def keptB (mp : List (Nat×Tg)) : List Nat->Bool
 | []=>true
 | i::l=>(match getT mp i with
   | some (.ob b)=>Nat.beq b i
   | _=>false) && keptB mp l
def packK (kp : List Nat) (sh : Sh) (fr : Fr) (k : St'->Prop) : Prop:=match pack sh fr with
 | some (st,x)=>(match keptB x.mp kp with
   | true=>k st
   | false=>False)
 | none=>False
def firstR : Code->Option Nat
 | .region id _ _=>some id
 | .seq a b=>(match firstR a with
   | some i=>some i
   | none=>firstR b)
 | .block _ c=>firstR c
 | .loop c=>firstR c
 | .scope c=>firstR c
 | _=>none
structure Hint where
 lp : List (Nat×Sh)
 jn : List (Nat×Sh)
 un : List (Nat×Nat)
def getU : List (Nat×Nat)->Option Nat->Option Nat
 | _,none=>none
 | [],_=>none
 | (i,s)::l,some j=>match Nat.beq i j with
   | true=>some s
   | false=>getU l (some j)
def unr (B : Fr->(Fr->Prop)->Prop) : Nat->Fr->Prop
 | 0,_=>False
 | n+1,fr=>B fr fun fr'=>unr B n fr'
def getH : List (Nat×Sh)->Option Nat->Option Sh
 | _,none=>none
 | [],_=>none
 | (i,s)::l,some j=>match Nat.beq i j with
   | true=>some s
   | false=>getH l (some j)
def getHs : List (Nat×Sh)->Option Nat->List Sh
 | _,none=>[]
 | [],_=>[]
 | (i,s)::l,some j=>match Nat.beq i j with
   | true=>s::getHs l (some j)
   | false=>getHs l (some j)
def pickSh (fr : Fr) : List Sh->Option Sh
 | []=>none
 | sh::l=>match pack sh fr with
   | some _=>some sh
   | none=>pickSh fr l
def evB (fr : Fr) (t : Operand) (k : Bool->Prop) : Prop:=match t with
 | .tmp t=>(match fr.sl t with
   | .c (.d x)=>booK x k
   | _=>False)
 | _=>False
def ex (Is : Sig->St'->St'->Prop) (P : Program) (tb : Tb) (n : Nat) (H : Hint) (kp : List Nat) : Code->Fr->Kt->Prop
 | .skip,fr,K=>K.n fr
 | .label _,fr,K=>K.n fr
 | .region _ ops draw,fr,K=>runL Is P tb n ops (guardsL ops ops.toList) ops.toList 0 fr [] fun fr l=>(match draw with
   | true=>(match calm (Region.before ops) l && edgesB ops.toList 0 with
     | true=>K.n fr.past
     | false=>False)
   | false=>K.n fr.past)
 | .seq a b,fr,K=>(match getH H.jn (firstR b) with
   | none=>ex Is P tb n H kp a fr ⟨fun fr=>ex Is P tb n H kp b fr K,K.x,K.r⟩
   | some sh=>jn (fun k=>ex Is P tb n H kp a fr ⟨fun fr=>packK kp sh fr k,K.x,K.r⟩) fun st=>unpack propQ sh st fun fr=>ex Is P tb n H kp b fr K)
 | .cond t a b,fr,K=>evB fr t fun z=>ifK z (ex Is P tb n H kp a fr K) (ex Is P tb n H kp b fr K)
 | .block i c,fr,K=>ex Is P tb n H kp c fr ⟨K.n,fun j fr=>(match Nat.beq j i with
   | true=>K.n fr
   | false=>K.x j fr),K.r⟩
 | .loop c,fr,K=>(match getU H.un (firstR c) with
  | some k=>unr (fun fr next=>ex Is P tb n H kp c fr ⟨next,K.x,K.r⟩) k fr
  | none=>match pickSh fr (getHs H.lp (firstR c)) with
   | none=>False
   | some sh=>packK kp sh fr (Lp fun next st=>unpack propQ sh st fun fr=>ex Is P tb n H kp c fr ⟨fun fr=>packK kp sh fr next,K.x,K.r⟩))
 | .exit i,fr,K=>K.x i fr
 | .scope c,fr,K=>ex Is P tb n H kp c fr K
 | .ret,fr,K=>K.r fr
 | _,_,_=>False
def cellR (P : Program) (fr : Fr) (t ty : Nat) : Option S:=match fr.sl t with
 | .c (.p b o)=>(match fr.ob b with
   | some (.a _ n ds)=>loadD P ty n ds o
   | some (.b _ cs)=>loadC P ty cs o
   | _=>none)
 | _=>none
def resL (P : Program) (fr : Fr) : List ResultVar->Option (List S)
 | []=>some []
 | .tmp t::l=>(match resL P fr l with
   | some xs=>some (fr.sl t::xs)
   | none=>none)
 | .cell t ty::l=>(match cellR P fr t ty with
   | some s=>(match resL P fr l with
     | some xs=>some (s::xs)
     | none=>none)
   | none=>none)
def outs : SSh->List SSh
 | .t l=>l
 | s=>[s]
def enumF {α : Type} : Nat->List α->List (Nat×α)
 | _,[]=>[]
 | j,x::l=>(j,x)::enumF (j+1) l
def start (ins oob : List (Nat×OSh)) : List (Nat×Tg):=match ins with
 | []=>[]
 | (i,_)::l=>match oob.any fun x=>Nat.beq x.1 i with
   | true=>(i,.ob i)::start l oob
   | false=>start l oob
def packOut (s : Sig) (fr : Fr) : Option St':=match packSl fr.ob fr.sl ⟨start s.ins.ob s.oob,[]⟩ (enumF 0 (outs s.out)) with
 | some (r,k)=>(match packOb fr.ob k s.oob with
   | some (r',k)=>(match linked s.oob k.mp && apartB k.mp k.fix && nodupB s.oob with
     | true=>some (r++r')
     | false=>none)
   | none=>none)
 | none=>none
def retK (P : Program) (s : Sig) (rs : List ResultVar) (fr : Fr) (K : St'->Prop) : Prop:=match resL P fr rs with
 | some xs=>(match packOut s ⟨numbered 0 xs,fr.ob,fr.base⟩ with
   | some st=>K st
   | none=>False)
 | none=>False
def fnB (s : Sig) (fn : Func) : Bool:=Nat.ble s.ins.sl.length fn.ntmps && (match s.out with
 | .t l=>Nat.beq fn.results.toList.length l.length && !Nat.beq l.length 1
 | _=>Nat.beq fn.results.toList.length 1)
def keptL (l : List (Nat×Tg)) : List Nat:=l.map Prod.fst
def fnX (Is : Sig->St'->St'->Prop) (P : Program) (tb : Tb) (H : Hint) (s : Sig) (a : St') (K : St'->Prop) : Prop:=match P.funcs[s.f]? with
 | none=>False
 | some fn=>match fn.body with
   | none=>False
   | some c=>match fnB s fn with
     | true=>unpack propQ s.ins a fun fr=>ex Is P tb fn.ntmps H (keptL (start s.ins.ob s.oob)) c fr ⟨fun fr=>retK P s fn.results.toList fr K,fun _ _=>False,fun fr=>retK P s fn.results.toList fr K⟩
     | false=>False
abbrev ptr (k : Nat) : Value:=.pointer (some ⟨k,0,none⟩)
def CB (M : Mem) (ρ : Nat->Option Value) : C->Value->Prop
 | .d x,u=>Rd M x u
 | .n,u=>u = .slice none 0 0
 | .l _,u=>u = .slice none 0 0
 | .p b o,u=>∃ k,ρ b = some (ptr k)/\u = .pointer (some (adr (some ⟨k,0,none⟩) o))
 | .q b sz k j,u=>∃ a n c,ρ b = some (.slice a n c)/\k < n/\u = .pointer (some (adr a (k * sz+j)))
 | .w b,u=>ρ b = some u/\∃ a n c,u = .slice a n c
 | .m b,u=>∃ k,ρ b = some (.map (some k))/\u = .map (some k)
 | .z,u=>u = undef
 | .u,_=>True
 | .e b i,u=>∃ k,ρ b = some (ptr k)/\u = .pointer (some (adr (some ⟨k,0,none⟩) i))
 | .y b q sz l n,u=>∃ ad c,u = .slice ad n c/\(n<=c/\c<=maxLen)/\((∃ k,ρ b = some (ptr k)/\(0 < n->ad = some (adr (some ⟨k,0,none⟩) (q+l * sz)))) \/
   ∃ a N C,ρ b = some (.slice a N C)/\q = 0/\l+n<=N/\l+c = C/\(0 < n->ad = some (adr a (l * sz))))
 | .f _ _,_=>False
def CBs (M : Mem) (ρ : Nat->Option Value) : List C->List Value->Prop
 | [],[]=>True
 | c::cs,u::us=>CB M ρ c u/\CBs M ρ cs us
 | _,_=>False
def CR (M : Mem) (ρ : Nat->Option Value) : C->Value->Prop
 | .f g cs,u=>∃ us,u = .func (.func g) #[] us.toArray/\CBs M ρ cs us
 | c,u=>CB M ρ c u
def CRs (M : Mem) (ρ : Nat->Option Value) : List C->List Value->Prop
 | [],[]=>True
 | c::cs,u::us=>CR M ρ c u/\CRs M ρ cs us
 | _,_=>False
def Seen (M : Mem) (a : Option Addr) (q : Nat) (ds : List D) : Prop:=∀ i d,ds[i]? = some d->∃ u,cellM M (adr a (q+i)) = some u/\Rd M d u
def SB (M : Mem) (ρ : Nat->Option Value) : S->Value->Prop
 | .c c,v=>CR M ρ c v
 | .a n ds,v=>ds.length = n/\∃ us,v = .agg us.toArray/\RdL M ds us
 | .g cs,v=>∃ us,v = .agg us.toArray/\CRs M ρ cs us
 | .r n ds o,v=>ds.length = n/\∃ a q,v = .pointer (some (adr a (q+o)))/\Seen M a q ds
 | .t _,_=>False
def SBs (M : Mem) (ρ : Nat->Option Value) : List S->List Value->Prop
 | [],[]=>True
 | c::cs,u::us=>SB M ρ c u/\SBs M ρ cs us
 | _,_=>False
def SR (M : Mem) (ρ : Nat->Option Value) : S->Value->Prop
 | .t l,v=>∃ vs,v = .tuple vs.toArray/\SBs M ρ l vs
 | s,v=>SB M ρ s v
abbrev idV (i : IdT) : Value:=.agg i.vals.toArray
def VR (M : Mem) : Bool->List D->Value->Prop
 | true,xs,v=>∃ us,v = .agg us.toArray/\RdL M xs us
 | false,xs,v=>∃ d,xs = [d]/\Rd M d v
def MR (M : Mem) (ag : Bool) (vs : Nat) : List (IdT×Value)->List D->Prop
 | [],ds=>ds = []
 | (i,v)::l,ds=>∃ xs rest,ds = .v (.int .i64 i.shop)::.v (.int .i64 i.seq)::.v (.int .i64 i.index)::(xs++rest)/\xs.length = vs/\VR M ag xs v/\MR M ag vs l rest
def OR (M : Mem) (ρ : Nat->Option Value) (lst : List (Nat×As)) (b : Nat) : O->Prop
 | .b e cs=>∃ k us,ρ b = some (ptr k)/\(b,As.own k e us)∈lst/\CRs M ρ cs us
 | .a e n ds=>∃ k us,ρ b = some (ptr k)/\(b,As.own k e us)∈lst/\RdL M ds us/\ds.length = n
 | .w e sz n ds=>∃ a c us,ρ b = some (.slice a n c)/\(b,As.acc (.slice a n c) e sz n us)∈lst/\RdL M ds us/\us.length = n * sz/\n<=lim
 | .v e sz n cs=>∃ a c us,ρ b = some (.slice a n c)/\(b,As.acc (.slice a n c) e sz n us)∈lst/\CRs M ρ cs us/\us.length = n * sz/\n<=lim
 | .s sz n ds=>∃ v,ρ b = some v/\Rd M (.sl n sz ds) v
 | .m _ ag vs n ds=>∃ k l,ρ b = some (.map (some k))/\(b,As.mp k (kvs idV l))∈lst/\MR M ag vs l ds/\l.length = n
 | .gone=>True
structure Rel (w0 : World) (Γ0 : List As) (fr : Fr) (ρ : Nat->Option Value) (M : Mem) (lst : List (Nat×As)) (val : Nat->Option Value) (w : World) : Prop where
 sl : ∀ t,fr.sl t = su\/∃ v,val t = some v/\SR M ρ (fr.sl t) v
 ob : ∀ b o,fr.ob b = some o->OR M ρ lst b o
 rho : ∀ b v,ρ b = some v->b < fr.base\/(fr.ob b).isSome = true
 keys : ∀ p,p∈lst->(ρ p.1).isSome = true
 nd : (lst.map Prod.fst).Nodup
 st : St w0 M (lst.map Prod.snd++Γ0) w
 gr : GrOk M
def Ext (ρ ρ' : Nat->Option Value) : Prop:=∀ b v,ρ b = some v->ρ' b = some v
theorem Ext.refl (ρ : Nat->Option Value) : Ext ρ ρ:=fun _ _ h=>h
theorem Ext.trans {a b c : Nat->Option Value} (h : Ext a b) (k : Ext b c) : Ext a c:=fun x v hx=>k x v (h x v hx)
section
variable {M M' : Mem} {ρ ρ' : Nat->Option Value} (hM : Sub M M') (hr : Ext ρ ρ')
theorem CB.mono (hM : Sub M M') (hr : Ext ρ ρ') : ∀ {c : C} {v : Value},CB M ρ c v->CB M' ρ' c v
 | .d _,_,h=>Rd.mono hM _ _ h
 | .n,_,h=>h
 | .l _,_,h=>h
 | .p _ _,_,⟨k,h1,h2⟩=>⟨k,hr _ _ h1,h2⟩
 | .q _ _ _ _,_,⟨a,n,c,h1,h2⟩=>⟨a,n,c,hr _ _ h1,h2⟩
 | .w _,_,h=>⟨hr _ _ h.1,h.2⟩
 | .m _,_,⟨k,h1,h2⟩=>⟨k,hr _ _ h1,h2⟩
 | .z,_,h=>h
 | .u,_,_=>trivial
 | .e _ _,_,⟨k,h1,h2⟩=>⟨k,hr _ _ h1,h2⟩
 | .y _ _ _ _ _,_,⟨ad,c,h1,h2,.inl ⟨k,h3,h4⟩⟩=>⟨ad,c,h1,h2,.inl ⟨k,hr _ _ h3,h4⟩⟩
 | .y _ _ _ _ _,_,⟨ad,c,h1,h2,.inr ⟨a,N,C,h3,h4⟩⟩=>⟨ad,c,h1,h2,.inr ⟨a,N,C,hr _ _ h3,h4⟩⟩
 | .f _ _,_,h=>h
theorem CBs.mono (hM : Sub M M') (hr : Ext ρ ρ') : ∀ {c : List C} {v : List Value},CBs M ρ c v->CBs M' ρ' c v
 | [],[],_=>trivial
 | _::_,_::_,h=>⟨CB.mono hM hr h.1,CBs.mono hM hr h.2⟩
 | [],_::_,h=>h
 | _::_,[],h=>h
theorem CR.mono (hM : Sub M M') (hr : Ext ρ ρ') : ∀ {c : C} {v : Value},CR M ρ c v->CR M' ρ' c v
 | .f _ _,_,⟨us,h1,h2⟩=>⟨us,h1,CBs.mono hM hr h2⟩
 | .d x,_,h=>CB.mono hM hr (c:=.d x) h
 | .n,_,h=>CB.mono hM hr (c:=.n) h
 | .l sz,_,h=>CB.mono hM hr (c:=.l sz) h
 | .p b o,_,h=>CB.mono hM hr (c:=.p b o) h
 | .q b s k j,_,h=>CB.mono hM hr (c:=.q b s k j) h
 | .w b,_,h=>CB.mono hM hr (c:=.w b) h
 | .m b,_,h=>CB.mono hM hr (c:=.m b) h
 | .z,_,h=>CB.mono hM hr (c:=.z) h
 | .u,_,_=>trivial
 | .e b i,_,h=>CB.mono hM hr (c:=.e b i) h
 | .y b q sz l n,_,h=>CB.mono hM hr (c:=.y b q sz l n) h
theorem CRs.mono (hM : Sub M M') (hr : Ext ρ ρ') : ∀ {c : List C} {v : List Value},CRs M ρ c v->CRs M' ρ' c v
 | [],[],_=>trivial
 | _::_,_::_,h=>⟨CR.mono hM hr h.1,CRs.mono hM hr h.2⟩
 | [],_::_,h=>h
 | _::_,[],h=>h
theorem Seen.mono (hM : Sub M M') {a : Option Addr} {q : Nat} {ds : List D} (h : Seen M a q ds) : Seen M' a q ds:=fun i d hi =>
 let ⟨u,h1,h2⟩:=h i d hi;⟨u,cellM_mono hM h1,Rd.mono hM _ _ h2⟩
theorem SB.mono (hM : Sub M M') (hr : Ext ρ ρ') {s : S} {v : Value} (h : SB M ρ s v) : SB M' ρ' s v:=by
 cases s with
 | c c=>exact CR.mono hM hr h
 | a n ds=>obtain ⟨h0,us,h1,h2⟩:=h;exact ⟨h0,us,h1,h2.mono hM⟩
 | g cs=>obtain ⟨us,h1,h2⟩:=h;exact ⟨us,h1,CRs.mono hM hr h2⟩
 | r n ds o=>obtain ⟨h0,a,q,h1,h2⟩:=h;exact ⟨h0,a,q,h1,h2.mono hM⟩
 | t l=>exact h
theorem SBs.mono (hM : Sub M M') (hr : Ext ρ ρ') : ∀ {c : List S} {v : List Value},SBs M ρ c v->SBs M' ρ' c v
 | [],[],_=>trivial
 | _::_,_::_,h=>⟨SB.mono hM hr h.1,SBs.mono hM hr h.2⟩
 | [],_::_,h=>h
 | _::_,[],h=>h
theorem SR.mono (hM : Sub M M') (hr : Ext ρ ρ') : ∀ {s : S} {v : Value},SR M ρ s v->SR M' ρ' s v
 | .t _,_,⟨vs,h1,h2⟩=>⟨vs,h1,SBs.mono hM hr h2⟩
 | .c c,_,h=>SB.mono hM hr (s:=.c c) h
 | .a n ds,_,h=>SB.mono hM hr (s:=.a n ds) h
 | .g cs,_,h=>SB.mono hM hr (s:=.g cs) h
 | .r n ds o,_,h=>SB.mono hM hr (s:=.r n ds o) h
theorem VR.mono (hM : Sub M M') {ag : Bool} {xs : List D} {v : Value} (h : VR M ag xs v) : VR M' ag xs v:=by
 cases ag with
 | true=>obtain ⟨us,h1,h2⟩:=h;exact ⟨us,h1,h2.mono hM⟩
 | false=>obtain ⟨d,h1,h2⟩:=h;exact ⟨d,h1,Rd.mono hM _ _ h2⟩
theorem MR.mono (hM : Sub M M') {ag : Bool} {vs : Nat} : ∀ {l : List (IdT×Value)} {ds : List D},MR M ag vs l ds->MR M' ag vs l ds
 | [],_,h=>h
 | (_,_)::_,_,⟨xs,rest,h1,h2,h3,h4⟩=>⟨xs,rest,h1,h2,VR.mono hM h3,MR.mono hM h4⟩
theorem OR.mono (hM : Sub M M') (hr : Ext ρ ρ') {lst lst' : List (Nat×As)} {b : Nat} (hl : ∀ x,(b,x)∈lst->(b,x)∈lst') {o : O} (h : OR M ρ lst b o) : OR M' ρ' lst' b o:=by
 cases o with
 | b e cs=>obtain ⟨k,us,h1,h2,h3⟩:=h;exact ⟨k,us,hr _ _ h1,hl _ h2,CRs.mono hM hr h3⟩
 | a e n ds=>obtain ⟨k,us,h1,h2,h3,h4⟩:=h;exact ⟨k,us,hr _ _ h1,hl _ h2,h3.mono hM,h4⟩
 | w e sz n ds=>obtain ⟨a,c,us,h1,h2,h3,h4⟩:=h;exact ⟨a,c,us,hr _ _ h1,hl _ h2,h3.mono hM,h4⟩
 | v e sz n cs=>obtain ⟨a,c,us,h1,h2,h3,h4⟩:=h;exact ⟨a,c,us,hr _ _ h1,hl _ h2,CRs.mono hM hr h3,h4⟩
 | s sz n ds=>obtain ⟨v,h1,h2⟩:=h;exact ⟨v,hr _ _ h1,Rd.mono hM _ _ h2⟩
 | m t ag vs n ds=>obtain ⟨k,l,h1,h2,h3,h4⟩:=h;exact ⟨k,l,hr _ _ h1,hl _ h2,h3.mono hM,h4⟩
 | gone=>trivial
end
def upV (val : Nat->Option Value) (d : Nat) (v : Value) : Nat->Option Value:=fun t=>match Nat.beq t d with
 | true=>some v
 | false=>val t
theorem put_at (fr : Fr) (d : Nat) (s : S) (t : Nat) : (fr.put d s).sl t = if t = d then s else fr.sl t:=by
 show (match Nat.beq t d with
  | true=>s
  | false=>fr.sl t) = _
 by_cases e : t = d
 ·subst e;rw [Nat.beq_refl];simp
 ·rw [if_neg e]
  have : Nat.beq t d = false:=by
   cases hb : Nat.beq t d with
   | false=>rfl
   | true=>exact absurd (Nat.eq_of_beq_eq_true hb) e
  rw [this]
theorem upV_at (val : Nat->Option Value) (d : Nat) (v : Value) (t : Nat) : upV val d v t = if t = d then some v else val t:=by
 unfold upV
 by_cases e : t = d
 ·subst e;rw [Nat.beq_refl];simp
 ·rw [if_neg e]
  have : Nat.beq t d = false:=by
   cases hb : Nat.beq t d with
   | false=>rfl
   | true=>exact absurd (Nat.eq_of_beq_eq_true hb) e
  rw [this]
theorem set_at (fr : Fr) (b : Nat) (o : O) (k : Nat) : (fr.set b o).ob k = if k = b then some o else fr.ob k:=by
 show (match Nat.beq k b with
  | true=>some o
  | false=>fr.ob k) = _
 by_cases e : k = b
 ·subst e;rw [Nat.beq_refl];simp
 ·rw [if_neg e]
  have : Nat.beq k b = false:=by
   cases hb : Nat.beq k b with
   | false=>rfl
   | true=>exact absurd (Nat.eq_of_beq_eq_true hb) e
  rw [this]
section
variable {w0 : World} {Γ0 : List As} {fr : Fr} {ρ : Nat->Option Value} {M : Mem} {lst : List (Nat×As)} {val : Nat->Option Value} {w : World}
theorem Rel.put (h : Rel w0 Γ0 fr ρ M lst val w) (d : Nat) {s : S} {v : Value} (hs : SR M ρ s v) : Rel w0 Γ0 (fr.put d s) ρ M lst (upV val d v) w:=by
 refine ⟨fun t=>?_,h.ob,h.rho,h.keys,h.nd,h.st,h.gr⟩
 rw [put_at,upV_at]
 by_cases e : t = d
 ·rw [if_pos e,if_pos e];exact .inr ⟨v,rfl,hs⟩
 ·rw [if_neg e,if_neg e];exact h.sl t
theorem Rel.mem (h : Rel w0 Γ0 fr ρ M lst val w) {b : Nat} {x : As} (hm : (b,x)∈lst) : List.Perm (lst.map Prod.snd++Γ0) (x::((lst.filter fun p=>!Nat.beq p.1 b).map Prod.snd++Γ0)):=by
 obtain ⟨l1,l2,rfl⟩:=List.append_of_mem hm
 have hnd:=h.nd
 rw [List.map_append,List.map_cons] at hnd
 have hn1 : ∀ p∈l1,Nat.beq p.1 b = false:=fun p hp=>by
  cases hb : Nat.beq p.1 b with
  | false=>rfl
  | true =>
   have e:=Nat.eq_of_beq_eq_true hb
   exact absurd e ((List.nodup_append.1 hnd).2.2 p.1 (List.mem_map_of_mem hp) b (List.mem_cons_self ..))
 have hn2 : ∀ p∈l2,Nat.beq p.1 b = false:=fun p hp=>by
  cases hb : Nat.beq p.1 b with
  | false=>rfl
  | true =>
   have e:=Nat.eq_of_beq_eq_true hb
   have:=(List.nodup_cons.1 (List.nodup_append.1 hnd).2.1).1
   exact absurd (show b∈l2.map Prod.fst by rw [<-e];exact List.mem_map_of_mem hp) this
 have f1 : l1.filter (fun p=>!Nat.beq p.1 b) = l1:=List.filter_eq_self.2 fun p hp=>by rw [hn1 p hp];rfl
 have f2 : l2.filter (fun p=>!Nat.beq p.1 b) = l2:=List.filter_eq_self.2 fun p hp=>by rw [hn2 p hp];rfl
 rw [List.filter_append,List.filter_cons,f1,f2,Nat.beq_refl]
 simp only [Bool.not_true,Bool.false_eq_true,if_false,List.map_append,List.map_cons,List.append_assoc,List.cons_append]
 exact List.perm_middle
end
structure Out where
 v : Option S
 ob : List (Nat×O)
 fs : List Nat
 fo : List Nat
def R1 (Is : Sig->St'->St'->Prop) (fr : Fr) : Prg->List Nat->List Nat->Out->Prop
 | .no,_,_,_=>False
 | .ret v ob,fs,fo,o=>o = ⟨v,ob,fs,fo⟩
 | .rdS t k,fs,fo,o=>R1 Is fr (k (fr.sl t)) (t::fs) fo o
 | .rdO b k,fs,fo,o=>R1 Is fr (k (fr.ob b)) fs (b::fo) o
 | .i x k,fs,fo,o=>∃ z,x = .v (.int .i64 z)/\R1 Is fr (k z) fs fo o
 | .bo x k,fs,fo,o=>∃ z,x = .v (.bool z)/\R1 Is fr (k z) fs fo o
 | .st x k,fs,fo,o=>∃ z,x = .v (.string z)/\R1 Is fr (k z) fs fo o
 | .ik kd x k,fs,fo,o=>∃ z,x = .v (.int kd z)/\R1 Is fr (k z) fs fo o
 | .by_ kd cs k,fs,fo,o=>∃ b,intsOf kd cs = some b/\R1 Is fr (k b) fs fo o
 | .sc sz x k,fs,fo,o=>∃ n cs,x = .sl n sz cs/\R1 Is fr (k n cs) fs fo o
 | .if_ b p q,fs,fo,o=>(b = true/\R1 Is fr p fs fo o)\/(b = false/\R1 Is fr q fs fo o)
 | .ck p _ k,fs,fo,o=>p/\R1 Is fr k fs fo o
 | .ca s a k,fs,fo,o=>∃ r,Is s a r/\R1 Is fr (k r) fs fo o
theorem intK_iff {x : D} {k : Int->Prop} (h : intK x k) : ∃ z,x = .v (.int .i64 z)/\k z:=by
 unfold intK at h
 split at h
 ·exact ⟨_,rfl,h⟩
 ·exact h.elim
theorem booK_iff {x : D} {k : Bool->Prop} (h : booK x k) : ∃ z,x = .v (.bool z)/\k z:=by
 unfold booK at h
 split at h
 ·exact ⟨_,rfl,h⟩
 ·exact h.elim
theorem strK_iff {x : D} {k : ByteArray->Prop} (h : strK x k) : ∃ z,x = .v (.string z)/\k z:=by
 unfold strK at h
 split at h
 ·exact ⟨_,rfl,h⟩
 ·exact h.elim
theorem ikK_iff {kd : IntKind} {x : D} {k : Int->Prop} (h : ikK kd x k) : ∃ z,x = .v (.int kd z)/\k z:=by
 unfold ikK at h
 split at h
 ·obtain ⟨rfl,h⟩:=h
  exact ⟨_,rfl,h⟩
 ·exact h.elim
theorem byK_iff {kd : IntKind} {cs : List D} {k : List Int->Prop} (h : byK kd cs k) : ∃ b,intsOf kd cs = some b/\k b:=by
 unfold byK at h
 split at h
 ·rename_i b hb
  exact ⟨b,hb,h⟩
 ·exact h.elim
theorem slcK_iff {sz : Nat} {x : D} {k : Nat->List D->Prop} (h : slcK sz x k) : ∃ n cs,x = .sl n sz cs/\k n cs:=by
 unfold slcK at h
 split at h
 ·rename_i n s cs
  cases hb : Nat.beq s sz with
  | true=>rw [hb] at h;rw [Nat.eq_of_beq_eq_true hb];exact ⟨n,cs,rfl,h⟩
  | false=>rw [hb] at h;exact h.elim
 ·exact h.elim
theorem run_R1 {Is : Sig->St'->St'->Prop} {fr : Fr} : ∀ (p : Prg) {fs fo : List Nat} {K : Option S->List (Nat×O)->List Nat->List Nat->Prop},run Is fr p fs fo K->∃ o,R1 Is fr p fs fo o/\K o.v o.ob o.fs o.fo
 | .no,_,_,_,h=>h.elim
 | .ret v ob,fs,fo,_,h=>⟨⟨v,ob,fs,fo⟩,rfl,h⟩
 | .rdS t k,_,_,_,h=>run_R1 (k (fr.sl t)) h
 | .rdO b k,_,_,_,h=>run_R1 (k (fr.ob b)) h
 | .i _ k,_,_,_,h=>let ⟨z,h1,h2⟩:=intK_iff h;let ⟨o,h3,h4⟩:=run_R1 (k z) h2;⟨o,⟨z,h1,h3⟩,h4⟩
 | .bo _ k,_,_,_,h=>let ⟨z,h1,h2⟩:=booK_iff h;let ⟨o,h3,h4⟩:=run_R1 (k z) h2;⟨o,⟨z,h1,h3⟩,h4⟩
 | .st _ k,_,_,_,h=>let ⟨z,h1,h2⟩:=strK_iff h;let ⟨o,h3,h4⟩:=run_R1 (k z) h2;⟨o,⟨z,h1,h3⟩,h4⟩
 | .ik _ _ k,_,_,_,h=>let ⟨z,h1,h2⟩:=ikK_iff h;let ⟨o,h3,h4⟩:=run_R1 (k z) h2;⟨o,⟨z,h1,h3⟩,h4⟩
 | .by_ _ _ k,_,_,_,h=>let ⟨z,h1,h2⟩:=byK_iff h;let ⟨o,h3,h4⟩:=run_R1 (k z) h2;⟨o,⟨z,h1,h3⟩,h4⟩
 | .sc _ _ k,_,_,_,h=>let ⟨n,cs,h1,h2⟩:=slcK_iff h;let ⟨o,h3,h4⟩:=run_R1 (k n cs) h2;⟨o,⟨n,cs,h1,h3⟩,h4⟩
 | .if_ true p _,_,_,_,h=>let ⟨o,h3,h4⟩:=run_R1 p h;⟨o,.inl ⟨rfl,h3⟩,h4⟩
 | .if_ false _ q,_,_,_,h=>let ⟨o,h3,h4⟩:=run_R1 q h;⟨o,.inr ⟨rfl,h3⟩,h4⟩
 | .ck _ _ k,_,_,_,h=>let ⟨o,h3,h4⟩:=run_R1 k h.2;⟨o,⟨h.1,h3⟩,h4⟩
 | .ca _ _ k,_,_,_,h=>let ⟨r,h1,h2⟩:=h;let ⟨o,h3,h4⟩:=run_R1 (k r) h2;⟨o,⟨r,h1,h3⟩,h4⟩
def tv (a : Act) : Nat->Option Value:=fun t=>a.tmps[t]?
def EvOk (a : Act) : Operand->Value->Prop
 | .tmp t,v=>a.tmps[t]? = some v
 | .const c,v=>v = c
 | .func f,v=>v = .func (.func f) #[] #[]
 | .global _,_=>False
def Lf (a : Act) : Lm:=slotsOf 0 a.tmps.toList
theorem slotsOf_at : ∀ (vs : List Value) (i k : Nat),getL (slotsOf i vs) (i+k) = vs[k]?
 | [],_,_=>by simp [slotsOf,getL]
 | v::vs,i,0=>by
  simp only [slotsOf,getL,Nat.add_zero,Nat.beq_refl]
  rfl
 | v::vs,i,k+1=>by
  have hb : Nat.beq (i+(k+1)) i = false:=by
   cases h : Nat.beq (i+(k+1)) i with
   | false=>rfl
   | true=>have:=Nat.eq_of_beq_eq_true h;omega
  simp only [slotsOf,getL,hb]
  rw [show i+(k+1) = i+1+k by omega,slotsOf_at vs (i+1) k]
  simp
theorem Lf_at (a : Act) (t : Nat) : getL (Lf a) t = a.tmps[t]?:=by
 have:=slotsOf_at a.tmps.toList 0 t
 rw [Nat.zero_add] at this
 rw [Lf,this]
 simp
theorem Lf_sat {n : Nat} {a : Act} (h1 : a.tmps.size = n) (h2 : a.defers = []) : Sat n (Lf a) a:=⟨h1,h2,fun t v h=>by rwa [Lf_at] at h⟩
theorem EvOk.evL {a : Act} {x : Operand} {v : Value} (h : EvOk a x v) : evL (Lf a) x = some v:=by
 cases x with
 | tmp t=>rw [Xe.evL,Lf_at];exact h
 | const c=>rw [Xe.evL,h]
 | func f=>rw [Xe.evL,h]
 | global g=>exact h.elim
theorem EvOk.eval {a : Act} {x : Operand} {v : Value} (h : EvOk a x v) : a.eval x = v:=by
 cases x with
 | tmp t=>simp [Act.eval,show a.tmps[t]? = some v from h]
 | const c=>rw [h];rfl
 | func f=>rw [h];rfl
 | global g=>exact h.elim
theorem conS_ok (M : Mem) (ρ : Nat->Option Value) (v : Value) : SR M ρ (conS v) v:=by
 unfold conS
 split
 ·rfl
 ·split
  ·rename_i h
   exact ⟨rfl,h⟩
  ·exact trivial
section
variable {Is : Sig->St'->St'->Prop} {w0 : World} {Γ0 : List As} {fr : Fr} {ρ : Nat->Option Value} {M : Mem} {lst : List (Nat×As)} {a : Act} {w : World} {fs fo : List Nat} {o : Out}
theorem ev_R1 (h : Rel w0 Γ0 fr ρ M lst (tv a) w) {x : Operand} {k : S->Prg} (hr : R1 Is fr (evP x k) fs fo o) : ∃ s fs',R1 Is fr (k s) fs' fo o/\(s = su\/∃ v,EvOk a x v/\SR M ρ s v):=by
 cases x with
 | tmp t=>exact ⟨_,_,hr,h.sl t⟩
 | const c=>exact ⟨_,_,hr,.inr ⟨c,rfl,conS_ok M ρ c⟩⟩
 | func f=>exact ⟨_,_,hr,.inr ⟨_,rfl,⟨[],rfl,trivial⟩⟩⟩
 | global g=>exact hr.elim
theorem typed_ok {P : Program} {t : TypeId} {s : S} {v : Value} (h : SR M ρ s v) : SR M ρ (typed P t s) v:=by
 unfold typed
 split
 ·split
  ·exact h
  ·exact h
 ·exact h
theorem int_R1 {s : S} {k : Int->Prg} (hr : R1 Is fr (intP s k) fs fo o) : ∃ z,s = .c (.d (.v (.int .i64 z)))/\R1 Is fr (k z) fs fo o:=by
 unfold intP at hr
 split at hr
 ·obtain ⟨z,rfl,h⟩:=hr;exact ⟨z,rfl,h⟩
 ·exact hr.elim
theorem boo_R1 {s : S} {k : Bool->Prg} (hr : R1 Is fr (booP s k) fs fo o) : ∃ z,s = .c (.d (.v (.bool z)))/\R1 Is fr (k z) fs fo o:=by
 unfold booP at hr
 split at hr
 ·obtain ⟨z,rfl,h⟩:=hr;exact ⟨z,rfl,h⟩
 ·exact hr.elim
theorem str_R1 {s : S} {k : ByteArray->Prg} (hr : R1 Is fr (strP s k) fs fo o) : ∃ z,s = .c (.d (.v (.string z)))/\R1 Is fr (k z) fs fo o:=by
 unfold strP at hr
 split at hr
 ·obtain ⟨z,rfl,h⟩:=hr;exact ⟨z,rfl,h⟩
 ·exact hr.elim
theorem ev_val {x : Operand} {s : S} {y : D} (h : s = su\/∃ v,EvOk a x v/\SR M ρ s v) (e : s = .c (.d y)) : ∃ v,EvOk a x v/\Rd M y v:=by
 subst e
 rcases h with h | h
 ·cases h
 ·exact h
theorem ev_v {x : Operand} {s : S} {y : Value} (h : s = su\/∃ v,EvOk a x v/\SR M ρ s v) (e : s = .c (.d (.v y))) : EvOk a x y:=by
 obtain ⟨v,h1,h2⟩:=ev_val h e
 simp only [Rd] at h2
 rw [<-h2.1]
 exact h1
end
def Done (n : Nat) (w0 : World) (Γ0 : List As) (ρ : Nat->Option Value) (M : Mem) (fr : Fr) (a : Act) (w : World) : Prop :=
 a.tmps.size = n/\a.defers = []/\∃ ρ' M' lst',Sub M M'/\Ext ρ ρ'/\Rel w0 Γ0 fr ρ' M' lst' (tv a) w
theorem turn_sl : ∀ (l : List (Nat×O)) (fr : Fr),(fr.turn l).sl = fr.sl
 | [],_=>rfl
 | (b,o)::l,fr=>by rw [Fr.turn,turn_sl l];rfl
theorem turn_base : ∀ (l : List (Nat×O)) (fr : Fr),(fr.turn l).base = fr.base
 | [],_=>rfl
 | (b,o)::l,fr=>by rw [Fr.turn,turn_base l];rfl
theorem turn_put : ∀ (l : List (Nat×O)) (fr : Fr) (d : Nat) (s : S),(fr.put d s).turn l = (fr.turn l).put d s
 | [],_,_,_=>rfl
 | (b,o)::l,fr,d,s=>by
  rw [Fr.turn,Fr.turn,<-turn_put l (fr.set b o) d s]
  rfl
theorem turn_app : ∀ (l k : List (Nat×O)) (fr : Fr),fr.turn (l++k) = (fr.turn l).turn k
 | [],_,_=>rfl
 | (b,o)::l,k,fr=>by rw [List.cons_append,Fr.turn,Fr.turn,turn_app l k]
theorem tv_put {a : Act} {d : Nat} (v : Value) (hd : d < a.tmps.size) : tv (a.put (some d) v) = upV (tv a) d v:=by
 funext t
 rw [upV_at]
 unfold tv
 simp only [Act.put]
 by_cases e : t = d
 ·subst e;simp [hd]
 ·rw [if_neg e,Array.getElem?_setIfInBounds_ne Q0]
section
variable {P : Program} {n : Nat} {w0 : World} {Γ0 : List As} {fr : Fr} {ρ : Nat->Option Value} {M : Mem} {lst : List (Nat×As)} {a : Act} {w : World} {Q : Exit->Act->World->Prop}
theorem Done.put {fr' : Fr} {ρ' : Nat->Option Value} {M' : Mem} {lst' : List (Nat×As)} {w' : World} (h1 : a.tmps.size = n) (h2 : a.defers = []) (hM : Sub M M') (hE : Ext ρ ρ') (h : Rel w0 Γ0 fr' ρ' M' lst' (tv a) w') {d : Nat} (hd : d < n) {s : S} {v : Value} (hs : SR M' ρ' s v) :
  Done n w0 Γ0 ρ M (fr'.put d s) (a.put (some d) v) w':=by
 refine ⟨by simp [Act.put,h1],by simp [Act.put,h2],ρ',M',lst',hM,hE,?_⟩
 rw [tv_put v Q0]
 exact h.put d hs
theorem op_value {o : Oper} {d : Nat} {out : Out} {s : S} {v : Value} {ρ' : Nat->Option Value} {M' : Mem} {lst' : List (Nat×As)} {w' : World} (h1 : a.tmps.size = n) (h2 : a.defers = []) (hd : o.dst = some d) (hdn : d < n) (hv : out.v = some s)
  (hM : Sub M M') (hE : Ext ρ ρ') (h : Rel w0 Γ0 (fr.turn out.ob) ρ' M' lst' (tv a) w') (hs : SR M' ρ' s v) (hrun : (execOp a.eval o).run P w = .ok (.value v) w') :
  o.wp P a w (Done n w0 Γ0 ρ M ((fr.puts o.dst out.v).turn out.ob)) Q:=by
 unfold Oper.wp
 rw [hrun,Oper.upon_value,hd,hv]
 show Done n w0 Γ0 ρ M ((fr.put d s).turn out.ob) _ _
 rw [turn_put]
 exact Done.put h1 h2 hM hE h hdn hs
theorem op_skip {o : Oper} {out : Out} {ρ' : Nat->Option Value} {M' : Mem} {lst' : List (Nat×As)} {w' : World} (h1 : a.tmps.size = n) (h2 : a.defers = []) (hd : o.dst = none)
  (hM : Sub M M') (hE : Ext ρ ρ') (h : Rel w0 Γ0 (fr.turn out.ob) ρ' M' lst' (tv a) w') (hrun : (execOp a.eval o).run P w = .ok .skip w') :
  o.wp P a w (Done n w0 Γ0 ρ M ((fr.puts o.dst out.v).turn out.ob)) Q:=by
 unfold Oper.wp
 rw [hrun,Oper.upon_skip,hd]
 refine ⟨h1,h2,ρ',M',lst',hM,hE,?_⟩
 have e : fr.puts none out.v = fr:=rfl
 rw [e]
 exact h
theorem op_quiet {o : Oper} {d : Nat} {out : Out} {s : S} {v : Value} (h1 : a.tmps.size = n) (h2 : a.defers = []) (h : Rel w0 Γ0 fr ρ M lst (tv a) w) (hd : o.dst = some d) (hdn : d < n) (hv : out.v = some s) (hob : out.ob = []) (hs : SR M ρ s v)
  (hy : Yq P w0 (Lf a) M (lst.map Prod.snd++Γ0) o v) : o.wp P a w (Done n w0 Γ0 ρ M ((fr.puts o.dst out.v).turn out.ob)) Q :=
 op_value h1 h2 hd hdn hv (Sub.refl M) (Ext.refl ρ) (by rw [hob];exact h) hs (hy n a w (Lf_sat h1 h2) h.st)
end
def Eq3 (P : Program) (t : TypeId) : Prop:=∀ (w0 : World) (L : Lm) (M : Mem) (Γ : List As) (d : Option Nat) (ty : TypeId) (pos : String) (af : Array Edge) (g : Option (Nat×Bool)) (x y : Operand) (a b c a' b' c' : Int),
 evL L x = some (.agg [.int .i64 a,.int .i64 b,.int .i64 c].toArray)->evL L y = some (.agg [.int .i64 a',.int .i64 b',.int .i64 c'].toArray) ->
 Yq P w0 L M Γ ⟨d,.binOp .eql t x y t,ty,pos,af,g⟩ (.bool (decide (a = a'/\b = b'/\c = c')))/\Yq P w0 L M Γ ⟨d,.binOp .neq t x y t,ty,pos,af,g⟩ (.bool (!decide (a = a'/\b = b'/\c = c')))
def EqA (P : Program) (t : TypeId) (n : Nat) (kd : IntKind) : Prop:=∀ (w0 : World) (L : Lm) (M : Mem) (Γ : List As) (d : Option Nat) (ty : TypeId) (pos : String) (af : Array Edge) (g : Option (Nat×Bool)) (x y : Operand) (a b : List Int),
 a.length = n->b.length = n->evL L x = some (.agg (a.map (Value.int kd)).toArray)->evL L y = some (.agg (b.map (Value.int kd)).toArray) ->
 Yq P w0 L M Γ ⟨d,.binOp .eql t x y t,ty,pos,af,g⟩ (.bool (decide (a = b)))/\Yq P w0 L M Γ ⟨d,.binOp .neq t x y t,ty,pos,af,g⟩ (.bool (!decide (a = b)))
structure TbOk (P : Program) (tb : Tb) : Prop where
 eq3 : ∀ t,tb.eq3.any (Nat.beq t) = true->Eq3 P t
 key : ∀ t,tb.eq3.any (Nat.beq t) = true->KeyOk P t idV
 eqa : ∀ t n e kd,tb.eqa.any (Nat.beq t) = true->P.underlying t = some (.array n e)->P.underlying e = some (.int kd)->EqA P t n kd
 gl : ∀ v ds,globD v tb.gl = some ds->∀ M,GrOk M->∃ us,RdL M ds us/\∀ i u,us[i]? = some u->cellM M (Addr.add ⟨v,0,none⟩ i) = some u
theorem szT_spec {P : Program} {t : TypeId} {m : Nat} (h : szT P t = some m) : sizeB P t m = true:=by
 unfold szT at h
 unfold sizeB
 cases hi : P.info? t with
 | none=>simp [hi] at h
 | some i =>
  rw [hi] at h
  have : i.size = m:=by simpa using h
  subst this
  exact Nat.beq_refl _
theorem aggT_spec {P : Program} {t : TypeId} {m : Nat} (h : aggT P t = some m) : aggB P t m = true:=by
 unfold aggT at h
 unfold aggB
 cases hu : P.underlying t with
 | none=>simp [hu] at h
 | some d =>
  rw [hu] at h
  cases d with
  | struct fs =>
   have:=szT_spec h
   unfold sizeB at this
   simpa using this
  | array n e =>
   have:=szT_spec h
   unfold sizeB at this
   simpa using this
  | _=>simp at h
theorem elT_spec {P : Program} {t e sz : Nat} (h : elT P t = some (e,sz)) : sliceB P t e sz = true:=by
 unfold elT at h
 unfold sliceB
 cases hu : P.underlying t with
 | none=>simp [hu] at h
 | some d =>
  rw [hu] at h
  cases d with
  | slice e' =>
   simp only [] at h
   cases hs : szT P e' with
   | none=>simp [hs] at h
   | some sz' =>
    rw [hs] at h
    simp only [Option.some.injEq,Prod.mk.injEq] at h
    obtain ⟨rfl,rfl⟩:=h
    rw [szT_spec hs]
    simp
  | _=>simp at h
theorem fieldT_spec {P : Program} {s i off ft : Nat} (h : fieldT P s i = some (off,ft)) : fieldB P s i off = true:=by
 unfold fieldT at h
 unfold fieldB
 cases hu : P.underlying s with
 | none=>simp [hu] at h
 | some d =>
  rw [hu] at h
  cases d with
  | struct fs =>
   simp only [] at h ⊢
   cases hf : fs[i]? with
   | none=>simp [hf] at h
   | some f =>
    rw [hf] at h
    simp only [] at h ⊢
    cases hj : P.info? f.type with
    | none=>simp [hj] at h
    | some j =>
     rw [hj] at h
     simp only [] at h ⊢
     cases hs : j.size with
     | zero=>rw [hs] at h;simp at h
     | succ k =>
      rw [hs] at h
      simp only [Option.some.injEq,Prod.mk.injEq] at h
      obtain ⟨rfl,_⟩:=h
      simp
  | _=>simp at h
theorem cell_get {ds : List D} {i : Nat} (h : i < ds.length) : ds[i]? = some (cell ds i):=by
 unfold cell
 rw [List.getD_eq_getElem?_getD,List.getElem?_eq_getElem h]
 rfl
theorem CRs.len {M : Mem} {ρ : Nat->Option Value} : ∀ {cs : List C} {us : List Value},CRs M ρ cs us->us.length = cs.length
 | [],[],_=>rfl
 | _::cs,_::us,h=>by rw [List.length_cons,List.length_cons,CRs.len h.2]
 | [],_::_,h=>h.elim
 | _::_,[],h=>h.elim
theorem CRs.get {M : Mem} {ρ : Nat->Option Value} : ∀ {cs : List C} {us : List Value} {i : Nat} {c : C},CRs M ρ cs us->cs[i]? = some c->∃ u,us[i]? = some u/\CR M ρ c u
 | c::cs,u::us,0,_,h,hc=>by
  simp only [List.getElem?_cons_zero,Option.some.injEq] at hc
  subst hc
  exact ⟨u,rfl,h.1⟩
 | _::cs,_::us,i+1,_,h,hc=>by
  obtain ⟨u,h1,h2⟩:=CRs.get (i:=i) h.2 (by simpa using hc)
  exact ⟨u,by simpa using h1,h2⟩
 | [],[],_,_,_,hc=>by simp at hc
 | [],_::_,_,_,h,_=>h.elim
 | _::_,[],_,_,h,_=>h.elim
theorem CRs.drop {M : Mem} {ρ : Nat->Option Value} : ∀ (n : Nat) {cs : List C} {us : List Value},CRs M ρ cs us->CRs M ρ (cs.drop n) (us.drop n)
 | 0,_,_,h=>h
 | _+1,[],[],_=>trivial
 | n+1,_::_,_::_,h=>CRs.drop n h.2
 | _+1,[],_::_,h=>h.elim
 | _+1,_::_,[],h=>h.elim
theorem CRs.take {M : Mem} {ρ : Nat->Option Value} : ∀ (n : Nat) {cs : List C} {us : List Value},CRs M ρ cs us->CRs M ρ (cs.take n) (us.take n)
 | 0,_,_,_=>trivial
 | _+1,[],[],_=>trivial
 | n+1,_::_,_::_,h=>⟨h.1,CRs.take n h.2⟩
 | _+1,[],_::_,h=>h.elim
 | _+1,_::_,[],h=>h.elim
theorem CRs.app {M : Mem} {ρ : Nat->Option Value} : ∀ {cs : List C} {us : List Value} {cs' : List C} {us' : List Value},CRs M ρ cs us->CRs M ρ cs' us'->CRs M ρ (cs++cs') (us++us')
 | [],[],_,_,_,h=>h
 | _::_,_::_,_,_,h,k=>⟨h.1,CRs.app h.2 k⟩
 | [],_::_,_,_,h,_=>h.elim
 | _::_,[],_,_,h,_=>h.elim
theorem CRs.data {M : Mem} {ρ : Nat->Option Value} : ∀ {ds : List D} {us : List Value},RdL M ds us->CRs M ρ (ds.map C.d) us
 | [],[],_=>trivial
 | d::ds,u::us,h=>⟨h.2 0 d u rfl rfl,CRs.data ⟨by simpa using h.1,fun k e x h1 h2=>h.2 (k+1) e x (by simpa using h1) (by simpa using h2)⟩⟩
 | [],_::_,h=>by have:=h.1;simp at this
 | _::_,[],h=>by have:=h.1;simp at this
theorem cells_eq {n : Nat} {ds : List D} (h : ds.length = n) : cells n ds = ds:=by
 unfold cells
 apply List.ext_getElem?
 intro i
 rcases Nat.lt_or_ge i n with hi | hi
 ·rw [cell_get (ds:=ds) Q0]
  simp [hi]
 ·rw [List.getElem?_eq_none (by simpa using hi),List.getElem?_eq_none Q0]
section
variable {P : Program} {n : Nat} {w0 : World} {Γ : List As} {ρ : Nat->Option Value} {M : Mem} {L : Lm} {d : Option Nat} {ty : TypeId} {pos : String} {af : Array Edge} {g : Option (Nat×Bool)}
theorem adr_adr (a : Option Addr) (i j : Nat) : adr a (i+j) = adr (some (adr a i)) j:=(adr_add a i j).symm
theorem loadD_ok {t : TypeId} {x : Operand} {ad : Option Addr} {q o m : Nat} {ds : List D} {us : List Value} {s : S} (hx : evL L x = some (.pointer (some (adr ad (q+o))))) (hr : RdL M ds us) (hl : ds.length = m)
  (hc : ∀ i u,us[i]? = some u->∀ w,St w0 M Γ w->w.cell? (adr ad (q+i)) = some u) (h : loadD P t m ds o = some s) : ∃ v,Yq P w0 L M Γ ⟨d,.load t x,ty,pos,af,g⟩ v/\SR M ρ s v:=by
 unfold loadD at h
 cases hf : flatB P t with
 | true =>
  rw [hf] at h
  simp only [] at h
  cases ho : Nat.blt o m with
  | false=>simp [ho] at h
  | true =>
   rw [ho] at h
   simp only [Option.some.injEq] at h
   subst h
   have ho' : o < ds.length:=by rw [hl];simpa [Nat.blt_eq] using ho
   obtain ⟨u,h1,h2⟩:=RdL.get hr (cell_get ho')
   exact ⟨u,Y.load hx hf (hc o u h1),h2⟩
 | false =>
  rw [hf] at h
  simp only [] at h
  cases ha : aggT P t with
  | none=>simp [ha] at h
  | some k =>
   rw [ha] at h
   simp only [] at h
   have hag:=aggT_spec ha
   cases hb : (Nat.beq o 0 && Nat.beq k m) with
   | true =>
    rw [hb] at h
    simp only [Option.some.injEq] at h
    subst h
    simp only [Bool.and_eq_true] at hb
    have e1:=Nat.eq_of_beq_eq_true hb.1
    have e2:=Nat.eq_of_beq_eq_true hb.2
    subst e1 e2
    refine ⟨.agg us.toArray,Y.loadAgg hx (by rw [hr.1,hl];exact hag) fun w hw j v hj=>?_,hl,us,rfl,hr⟩
    have:=hc j v hj w hw
    rwa [Nat.add_zero,adr_add]
   | false =>
    rw [hb] at h
    simp only [] at h
    cases hb2 : Nat.ble (o+k) m with
    | false=>simp [hb2] at h
    | true =>
     rw [hb2] at h
     simp only [Option.some.injEq] at h
     subst h
     have hle : o+k<=m:=by simpa [Nat.ble_eq] using hb2
     have hcut:=hr.cut o k
     have hlen : ((us.drop o).take k).length = k:=by simp [hr.1,hl];omega
     refine ⟨.agg ((us.drop o).take k).toArray,Y.loadAgg hx (by rw [hlen];exact hag) fun w hw j v hj=>?_,?_,_,rfl,hcut⟩
     ·have hj' : us[o+j]? = some v:=by
       rw [List.getElem?_take] at hj
       split at hj
       ·simpa using hj
       ·cases hj
      have:=hc (o+j) v hj' w hw
      rwa [adr_add,Nat.add_assoc]
     ·unfold sub;simp [hl];omega
theorem loadC_ok {t : TypeId} {x : Operand} {ad : Option Addr} {o : Nat} {cs : List C} {us : List Value} {s : S} (hx : evL L x = some (.pointer (some (adr ad o)))) (hr : CRs M ρ cs us)
  (hc : ∀ i u,us[i]? = some u->∀ w,St w0 M Γ w->w.cell? (adr ad i) = some u) (h : loadC P t cs o = some s) : ∃ v,Yq P w0 L M Γ ⟨d,.load t x,ty,pos,af,g⟩ v/\SR M ρ s v:=by
 unfold loadC at h
 cases hf : flatB P t with
 | true =>
  rw [hf] at h
  simp only [] at h
  cases ho : cs[o]? with
  | none=>simp [ho] at h
  | some c =>
   rw [ho] at h
   simp only [Option.some.injEq] at h
   subst h
   obtain ⟨u,h1,h2⟩:=CRs.get hr ho
   exact ⟨u,Y.load hx hf (hc o u h1),h2⟩
 | false =>
  rw [hf] at h
  simp only [] at h
  cases ha : aggT P t with
  | none=>simp [ha] at h
  | some k =>
   rw [ha] at h
   simp only [] at h
   have hag:=aggT_spec ha
   cases hb2 : Nat.ble (o+k) cs.length with
   | false=>simp [hb2] at h
   | true =>
    rw [hb2] at h
    simp only [Option.some.injEq] at h
    subst h
    have hle : o+k<=cs.length:=by simpa [Nat.ble_eq] using hb2
    have hcut:=CRs.take k (CRs.drop o hr)
    have hlen : ((us.drop o).take k).length = k:=by simp [CRs.len hr];omega
    refine ⟨.agg ((us.drop o).take k).toArray,Y.loadAgg hx (by rw [hlen];exact hag) fun w hw j v hj=>?_,_,rfl,hcut⟩
    have hj' : us[o+j]? = some v:=by
     rw [List.getElem?_take] at hj
     split at hj
     ·simpa using hj
     ·cases hj
    have:=hc (o+j) v hj' w hw
    rwa [adr_add]
end
theorem el_cut {M : Mem} {ds : List D} {us : List Value} (h : RdL M ds us) (sz k : Nat) : RdL M (el ds sz k) ((us.drop (k * sz)).take sz):=h.cut _ _
theorem el_len {ds : List D} {sz n k : Nat} (hl : ds.length = n * sz) (hk : k < n) : (el ds sz k).length = sz:=by
 unfold el
 have : (k+1) * sz<=n * sz:=Nat.mul_le_mul_right _ hk
 rw [Nat.add_mul,Nat.one_mul] at this
 simp [hl];omega
theorem opt_R1 {Is : Sig->St'->St'->Prop} {fr : Fr} {x : Option S} {fs fo : List Nat} {o : Out} (h : R1 Is fr (optP x) fs fo o) : ∃ s,x = some s/\o = ⟨some s,[],fs,fo⟩:=by
 cases x with
 | none=>exact h.elim
 | some s=>exact ⟨s,rfl,h⟩
theorem intsOf_spec {kd : IntKind} : ∀ {ds : List D} {zs : List Int},intsOf kd ds = some zs->ds = zs.map (fun z=>D.v (.int kd z))
 | [],zs,h=>by
  simp only [intsOf,Option.some.injEq] at h
  rw [<-h];rfl
 | x::ds,zs,h=>by
  unfold intsOf at h
  split at h
  ·rename_i heq
   cases heq
  ·rename_i kd' z l heq
   obtain ⟨rfl,rfl⟩:=List.cons.inj heq
   split at h
   ·rename_i e _
    subst e
    split at h
    ·rename_i b' hb
     simp only [Option.some.injEq] at h
     rw [<-h,intsOf_spec hb];rfl
    ·cases h
   ·cases h
  ·cases h
theorem bytes_rdl {M : Mem} {kd : IntKind} {zs : List Int} {us : List Value} (h : RdL M (zs.map fun z=>D.v (.int kd z)) us) : us = zs.map fun z=>Value.int kd z:=by
 induction zs generalizing us with
 | nil=>exact List.eq_nil_of_length_eq_zero (by simpa using h.1)
 | cons z zs ih =>
  cases us with
  | nil=>have:=h.1;simp at this
  | cons u us =>
   have h0:=h.2 0 (.v (.int kd z)) u rfl rfl
   simp only [Rd] at h0
   have h1 : RdL M (zs.map fun z=>D.v (.int kd z)) us:=⟨by have:=h.1;simpa using this,fun k e x h1 h2=>h.2 (k+1) e x (by simpa using h1) (by simpa using h2)⟩
   rw [ih h1,h0.1];rfl
theorem zDs'_ok {M : Mem} {ρ : Nat->Option Value} : ∀ {cs : List C} {us : List Value} {ds : List D},CRs M ρ cs us->zDs' cs = some ds->RdL M ds us/\ds.length = cs.length
 | [],[],ds,_,h=>by
  simp only [zDs',Option.some.injEq] at h
  subst h
  exact ⟨RdL.nil _,rfl⟩
 | .d x::cs,u::us,ds,h,hz=>by
  unfold zDs' at hz
  split at hz
  ·rename_i ds' h4
   simp only [Option.some.injEq] at hz
   subst hz
   obtain ⟨h5,h6⟩:=zDs'_ok h.2 h4
   exact ⟨RdL.cons h.1 h5,by simp [h6]⟩
  ·cases hz
 | [],_::_,_,h,_=>h.elim
 | _::_,[],_,h,_=>h.elim
 | .n::_,_,_,_,hz=>by simp [zDs'] at hz
 | .l _::_,_,_,_,hz=>by simp [zDs'] at hz
 | .p _ _::_,_,_,_,hz=>by simp [zDs'] at hz
 | .q _ _ _ _::_,_,_,_,hz=>by simp [zDs'] at hz
 | .w _::_,_,_,_,hz=>by simp [zDs'] at hz
 | .m _::_,_,_,_,hz=>by simp [zDs'] at hz
 | .f _ _::_,_,_,_,hz=>by simp [zDs'] at hz
 | .z::_,_,_,_,hz=>by simp [zDs'] at hz
 | .u::_,_,_,_,hz=>by simp [zDs'] at hz
 | .e _ _::_,_,_,_,hz=>by simp [zDs'] at hz
 | .y _ _ _ _ _::_,_,_,_,hz=>by simp [zDs'] at hz
theorem loadE_R1 {Is : Sig->St'->St'->Prop} {P : Program} {fr : Fr} {t n i : Nat} {ds : List D} {fs fo : List Nat} {o : Out} (h : R1 Is fr (loadE P t n ds i) fs fo o) (hl : ds.length = n) : ∃ s,loadD P t n ds i = some s/\o = ⟨some s,[],fs,fo⟩:=by
 unfold loadE at h
 unfold loadD
 cases hf : flatB P t with
 | true =>
  rw [hf] at h
  obtain ⟨h0,h⟩:=h
  have : Nat.blt i n = true:=by simpa [Nat.blt_eq] using h0
  dsimp only
  rw [this]
  exact ⟨_,rfl,h⟩
 | false =>
  rw [hf] at h
  dsimp only at h ⊢
  cases ha : aggT P t with
  | none=>rw [ha] at h;exact h.elim
  | some m =>
   rw [ha] at h
   obtain ⟨h0,h⟩:=h
   have h : o = ⟨some (.a m (sub ds i m)),[],fs,fo⟩:=h
   dsimp only
   cases hb : (Nat.beq i 0 && Nat.beq m n) with
   | true =>
    simp only [Bool.and_eq_true] at hb
    have e1:=Nat.eq_of_beq_eq_true hb.1
    have e2:=Nat.eq_of_beq_eq_true hb.2
    subst e1 e2
    refine ⟨_,rfl,?_⟩
    rw [h]
    unfold sub
    rw [List.drop_zero,List.take_of_length_le Q0]
   | false =>
    have : Nat.ble (i+m) n = true:=by simpa [Nat.ble_eq] using h0
    dsimp only
    rw [this]
    exact ⟨_,rfl,h⟩
section
variable {Is : Sig->St'->St'->Prop} {P : Program} {tb : Tb} {n : Nat} {w0 : World} {Γ0 : List As} {fr : Fr} {ρ : Nat->Option Value} {M : Mem} {lst : List (Nat×As)} {a : Act} {w : World} {fs fo : List Nat} {o : Out} {Q : Exit->Act->World->Prop} {d : Nat} {ty : TypeId} {pos : String} {af : Array Edge} {g : Option (Nat×Bool)}
variable (h1 : a.tmps.size = n) (h2 : a.defers = []) (h : Rel w0 Γ0 fr ρ M lst (tv a) w) (hd : d < n)
theorem ok_load (h1 : a.tmps.size = n) (h2 : a.defers = []) (h : Rel w0 Γ0 fr ρ M lst (tv a) w) (hd : d < n) {t : TypeId} {x : Operand} (hr : R1 Is fr (evP x fun s=>loadP P t s) fs fo o) : (⟨some d,.load t x,ty,pos,af,g⟩ : Oper).wp P a w (Done n w0 Γ0 ρ M ((fr.puts (some d) o.v).turn o.ob)) Q:=by
 obtain ⟨s,fs',hr,hs⟩:=ev_R1 h hr
 unfold loadP at hr
 split at hr
 ·rename_i m ds off
  obtain ⟨s',e1,rfl⟩:=opt_R1 hr
  rcases hs with hs | ⟨v,hv,hl,ad,q,rfl,hseen⟩
  ·cases hs
  ·obtain ⟨us,h3,h4⟩:=cells_of (M:=M) (a:=ad) (q:=q) (ds:=ds) fun j e hj=>hseen j e hj
   obtain ⟨v,h5,h6⟩:=loadD_ok (P:=P) (w0:=w0) (Γ:=lst.map Prod.snd++Γ0) (ρ:=ρ) hv.evL h3 hl (fun i u hi w hw=>hw.cell (h4 i u hi)) e1
   exact op_quiet h1 h2 h rfl hd rfl rfl h6 h5
 ·rename_i b off
  have hb : ∀ x,fr.ob b = some x->OR M ρ lst b x:=fun x hx=>h.ob b x hx
  change R1 Is fr (match fr.ob b with | some (.a _ n ds)=>_ | some (.b _ cs)=>_ | _=>_) _ _ _ at hr
  rcases hs with hs | ⟨v,hv,k,hk,rfl⟩
  ·cases hs
  ·split at hr
   ·rename_i e m ds hob
    obtain ⟨s',e1,rfl⟩:=opt_R1 hr
    obtain ⟨k',us,h3,h4,h5,h6⟩:=hb _ hob
    rw [hk] at h3
    obtain rfl : k = k':=by simpa using h3
    have hm : As.own k e us∈lst.map Prod.snd++Γ0:=List.mem_append_left _ (List.mem_map_of_mem h4)
    obtain ⟨v,h7,h8⟩:=loadD_ok (P:=P) (w0:=w0) (ρ:=ρ) (q:=0) (ad:=some ⟨k,0,none⟩) (by rw [Nat.zero_add];exact hv.evL) h5 h6 (Γ:=lst.map Prod.snd++Γ0) (fun i u hi w hw=>by rw [Nat.zero_add];exact hw.own_cell hm hi) e1
    exact op_quiet h1 h2 h rfl hd rfl rfl h8 h7
   ·rename_i e cs hob
    obtain ⟨s',e1,rfl⟩:=opt_R1 hr
    obtain ⟨k',us,h3,h4,h5⟩:=hb _ hob
    rw [hk] at h3
    obtain rfl : k = k':=by simpa using h3
    have hm : As.own k e us∈lst.map Prod.snd++Γ0:=List.mem_append_left _ (List.mem_map_of_mem h4)
    obtain ⟨v,h7,h8⟩:=loadC_ok (P:=P) (w0:=w0) (ρ:=ρ) (ad:=some ⟨k,0,none⟩) (Γ:=lst.map Prod.snd++Γ0) hv.evL h5 (fun i u hi w hw=>hw.own_cell hm hi) e1
    exact op_quiet h1 h2 h rfl hd rfl rfl h8 h7
   ·exact hr.elim
 ·rename_i b sz k j
  have hb : ∀ x,fr.ob b = some x->OR M ρ lst b x:=fun x hx=>h.ob b x hx
  change R1 Is fr (match fr.ob b with | some (.w _ sz' _ ds)=>_ | some (.s sz' _ ds)=>_ | some (.v _ sz' _ cs)=>_ | _=>_) _ _ _ at hr
  rcases hs with hs | ⟨v,hv,ad,m,c,hk,hkm,rfl⟩
  ·cases hs
  ·split at hr
   ·rename_i e sz' m' ds hob
    obtain ⟨ad',c',us,h3,h4,h5,h6,h7⟩:=hb _ hob
    rw [hk] at h3
    simp only [Option.some.injEq,Value.slice.injEq] at h3
    obtain ⟨rfl,rfl,rfl⟩:=h3
    split at hr
    ·rename_i hbe
     obtain ⟨s',e1,rfl⟩:=opt_R1 hr
     have e2:=Nat.eq_of_beq_eq_true hbe
     subst e2
     have hm : As.acc (.slice ad m c) e sz' m us∈lst.map Prod.snd++Γ0:=List.mem_append_left _ (List.mem_map_of_mem h4)
     obtain ⟨v,h8,h9⟩:=loadD_ok (P:=P) (w0:=w0) (ρ:=ρ) (q:=k * sz') (ad:=ad) (Γ:=lst.map Prod.snd++Γ0) hv.evL (el_cut h5 sz' k) (el_len (by rw [<-h5.1,h6]) hkm) (fun i u hi w hw=>by
      refine (hw.acc_cell hm (q:=k * sz'+i) ?_).2
      rw [List.getElem?_take] at hi
      split at hi
      ·simpa using hi
      ·cases hi) e1
     exact op_quiet h1 h2 h rfl hd rfl rfl h9 h8
    ·exact hr.elim
   ·rename_i sz' m' ds hob
    obtain ⟨v,h3,h4⟩:=hb _ hob
    rw [hk] at h3
    simp only [Option.some.injEq] at h3
    subst h3
    split at hr
    ·rename_i hbe
     obtain ⟨s',e1,rfl⟩:=opt_R1 hr
     have e2:=Nat.eq_of_beq_eq_true hbe
     subst e2
     have h5:=h4
     simp only [Rd] at h5
     obtain ⟨a',cap,e3,_,_,_,h6,_,h7⟩:=h5
     simp only [Value.slice.injEq] at e3
     obtain ⟨rfl,rfl,rfl⟩:=e3
     obtain ⟨us,h8,h9⟩:=cells_of (M:=M) (a:=ad) (q:=0) (ds:=ds) fun j e hj=>by simpa using RdC.get ds 0 h7 j e hj
     obtain ⟨v,h10,h11⟩:=loadD_ok (P:=P) (w0:=w0) (ρ:=ρ) (q:=k * sz') (ad:=ad) (Γ:=lst.map Prod.snd++Γ0) hv.evL (el_cut h8 sz' k) (el_len h6 hkm) (fun i u hi w hw=>by
      refine hw.cell ?_
      have:=h9 (k * sz'+i) u (by
       rw [List.getElem?_take] at hi
       split at hi
       ·simpa using hi
       ·cases hi)
      rwa [Nat.zero_add] at this) e1
     exact op_quiet h1 h2 h rfl hd rfl rfl h11 h10
    ·exact hr.elim
   ·rename_i e sz' m' cs hob
    obtain ⟨ad',c',us,h3,h4,h5,h6,h7⟩:=hb _ hob
    rw [hk] at h3
    simp only [Option.some.injEq,Value.slice.injEq] at h3
    obtain ⟨rfl,rfl,rfl⟩:=h3
    split at hr
    ·rename_i hbe
     obtain ⟨s',e1,rfl⟩:=opt_R1 hr
     have e2:=Nat.eq_of_beq_eq_true hbe
     subst e2
     have hm : As.acc (.slice ad m c) e sz' m us∈lst.map Prod.snd++Γ0:=List.mem_append_left _ (List.mem_map_of_mem h4)
     obtain ⟨v,h8,h9⟩:=loadC_ok (P:=P) (w0:=w0) (ρ:=ρ) (ad:=some (adr ad (k * sz'))) (Γ:=lst.map Prod.snd++Γ0) (by rw [<-adr_adr];exact hv.evL) (CRs.take sz' (CRs.drop (k * sz') h5)) (fun i u hi w hw=>by
      rw [<-adr_adr]
      refine (hw.acc_cell hm (q:=k * sz'+i) ?_).2
      rw [List.getElem?_take] at hi
      split at hi
      ·simpa using hi
      ·cases hi) e1
     exact op_quiet h1 h2 h rfl hd rfl rfl h9 h8
    ·exact hr.elim
   ·exact hr.elim
 ·rename_i b off
  have hb : ∀ x,fr.ob b = some x->OR M ρ lst b x:=fun x hx=>h.ob b x hx
  change R1 Is fr (match fr.ob b with | some (.a _ n ds)=>_ | some (.b _ cs)=>_ | _=>_) _ _ _ at hr
  rcases hs with hs | ⟨v,hv,k,hk,rfl⟩
  ·cases hs
  ·split at hr
   ·rename_i e m ds hob
    obtain ⟨k',us,h3,h4,h5,h6⟩:=hb _ hob
    obtain ⟨s',e1,rfl⟩:=loadE_R1 hr h6
    rw [hk] at h3
    obtain rfl : k = k':=by simpa using h3
    have hm : As.own k e us∈lst.map Prod.snd++Γ0:=List.mem_append_left _ (List.mem_map_of_mem h4)
    obtain ⟨v,h7,h8⟩:=loadD_ok (P:=P) (w0:=w0) (ρ:=ρ) (q:=0) (ad:=some ⟨k,0,none⟩) (by rw [Nat.zero_add];exact hv.evL) h5 h6 (Γ:=lst.map Prod.snd++Γ0) (fun i u hi w hw=>by rw [Nat.zero_add];exact hw.own_cell hm hi) e1
    exact op_quiet h1 h2 h rfl hd rfl rfl h8 h7
   ·rename_i e cs hob
    obtain ⟨k',us,h3,h4,h5⟩:=hb _ hob
    split at hr
    ·rename_i ds hz
     obtain ⟨h5,h6⟩:=zDs'_ok h5 hz
     obtain ⟨s',e1,rfl⟩:=loadE_R1 hr h6
     rw [hk] at h3
     obtain rfl : k = k':=by simpa using h3
     have hm : As.own k e us∈lst.map Prod.snd++Γ0:=List.mem_append_left _ (List.mem_map_of_mem h4)
     obtain ⟨v,h7,h8⟩:=loadD_ok (P:=P) (w0:=w0) (ρ:=ρ) (q:=0) (ad:=some ⟨k,0,none⟩) (by rw [Nat.zero_add];exact hv.evL) h5 h6 (Γ:=lst.map Prod.snd++Γ0) (fun i u hi w hw=>by rw [Nat.zero_add];exact hw.own_cell hm hi) e1
     exact op_quiet h1 h2 h rfl hd rfl rfl h8 h7
    ·exact hr.elim
   ·exact hr.elim
 ·exact hr.elim
theorem ok_glob (hT : TbOk P tb) (h1 : a.tmps.size = n) (h2 : a.defers = []) (h : Rel w0 Γ0 fr ρ M lst (tv a) w) (hd : d < n) {t : TypeId} {v : Nat} (hr : R1 Is fr (globP P tb v t) fs fo o) : (⟨some d,.load t (.global v),ty,pos,af,g⟩ : Oper).wp P a w (Done n w0 Γ0 ρ M ((fr.puts (some d) o.v).turn o.ob)) Q:=by
 unfold globP at hr
 split at hr
 ·rename_i ds m hg ha
  split at hr
  ·rename_i hb
   have e1:=Nat.eq_of_beq_eq_true hb
   have hr : o = ⟨some (.a m ds),[],fs,fo⟩:=hr
   subst hr
   obtain ⟨us,h3,h4⟩:=hT.gl v ds hg M h.gr
   have hl : us.length = m:=by rw [h3.1,e1]
   refine op_quiet h1 h2 h rfl hd rfl rfl (show SR M ρ (.a m ds) (.agg us.toArray) from ⟨e1.symm,us,rfl,h3⟩) (Y.loadAgg (p:=⟨v,0,none⟩) (show evL (Lf a) (.global v) = _ from rfl) (by rw [hl];exact aggT_spec ha) fun w hw j u hj=>hw.cell (h4 j u hj))
  ·exact hr.elim
 ·exact hr.elim
end
end Pm

namespace Xe
open Go
section
variable {P : Program} {n : Nat} {w0 : World} {ops : Array Oper} {Mc : Mem} {Γc : List As} {fuel : Nat} {listed : Array Bool} {L : Lm} {M : Mem} {Γ : List As} {K : Lm->Mem->List As->Prop} {X : Pst}

end
section
variable {fin : Nat} {P : Program} {n : Nat} {w0 : World} {ops : Array Oper} {Mc : Mem} {Γc : List As} {fuel : Nat} {listed : Array Bool} {L : Lm} {M : Mem} {Γ : List As} {K : Lm->Mem->List As->Prop} {X : Pst}
end
section
variable {P : Program} {w0 : World} {L : Lm} {M : Mem} {Γ : List As} {d : Option Nat} {ty : TypeId} {pos : String} {af : Array Edge} {g : Option (Nat×Bool)}
theorem Y.nilCheck {x : Operand} {p : Addr} (hx : evL L x = some (.pointer (some p))) : Yq P w0 L M Γ ⟨d,.nilCheck x,ty,pos,af,g⟩ (.pointer (some p)):=fun n a w ha _=>by
 simp [execOp,ha.ev hx]
end
def ScopeM (M : Mem) : Env->Value->Prop
 | [],v=>v = .pointer none
 | x::env,v=>∃ b us up,v = .pointer (some (adr (some ⟨b,0,none⟩) 0))/\M b = some (.cells (x.1.vals++[vint x.2.1]++us++[up]).toArray 146 (0,0))/\RdL M x.2.2.enc us/\ScopeM M env up
abbrev RunA (br : Nat) (um ud : Value) (F s : Int) : As:=.own br 131 [um,ud,vint F,vint s]
abbrev ptrB (b : Nat) : Value:=.pointer (some (adr (some ⟨b,0,none⟩) 0))
abbrev errE (x : Int) : List PanicEntry:=[{ v:=.iface 60 (vint x),recovered:=false }]
abbrev EvPost (M : Mem) (Γ : List As) (br : Nat) (um ud : Value) (F : Int) (r : EO) : Post:=fun v M' Γ'=>∃ x s',r = .ok x s'/\0<=s'/\s'<=F/\Sub M M'/\(∃ us,v = .agg us.toArray/\RdL M' x.enc us)/\Γ' = RunA br um ud F s'::Γ
abbrev EvPanic (M : Mem) (Γ : List As) (br : Nat) (um ud : Value) (F : Int) (r : EO) : PPost:=fun ch M' Γ'=>∃ x s',r = .err x/\ch = errE x/\Sub M M'/\Γ' = RunA br um ud F s'::Γ
structure EvHyp (M : Mem) (p : ProgT) (um ud : Value) (F s : Int) (env : Env) (sp : Value) : Prop where
 nums : NumsM M
 prog : RdL M p.enc [um,ud]
 s0 : 0<=s
 sF : s<=F
 F1 : F<=1099511627776
 scope : ScopeM M env sp
def EvOk (P : Program) (p : ProgT) (F : Int) (br : Nat) (um ud : Value) (g : Nat) : Prop :=
 ∀ (w0 : World) (M : Mem) (Γ : List As) (e : Ex) (use : List Value) (env : Env) (sp : Value) (s : Int),EvHyp M p um ud F s env sp->Kn w0 M (RunA br um ud F s::Γ) (RdL M e.enc use)->evalF p F g e env s ≠ .bad ->
  CallP P w0 M (RunA br um ud F s::Γ) 74 #[ptrB br,.agg use.toArray,sp] (EvPost M Γ br um ud F (evalF p F g e env s)) (EvPanic M Γ br um ud F (evalF p F g e env s))
def AE.pre (l : List Val) : AE->AE
 | .ok l2 s=>.ok (l++l2) s
 | r=>r
abbrev exV (i : IdT) (k n : Int) (r : IdT) (u : Value) : List Value:=[vint i.shop,vint i.seq,vint i.index,vint k,vint n,vint r.shop,vint r.seq,vint r.index,vint 0,vint 0,vint 0,vint 0,.slice none 0 0,u,.slice none 0 0]
structure Bnd where
 id : IdT
 n : Int
 ty : Ty
 deriving Inhabited
def Bnd.enc (b : Bnd) : List D:=[dint b.id.shop,dint b.id.seq,dint b.id.index,dint b.n,dint b.ty.kind,dint b.ty.df.shop,dint b.ty.df.seq,dint b.ty.df.index,.sl b.ty.kids.length 5 (b.ty.kids.flatMap Ty.enc)]
structure MkS where
 pos : Int
 temp : Int
 left : Int
 name : Int
structure MkC where
 p : ProgT
 l : List Int
 own : Int
 home : IdT
abbrev GX:=Ty->List Bnd->Int->MkS->Ex×MkS
def nodeG (kind n : Int) (kids : List Ex) (s : MkS) : Ex×MkS:=(.mk ⟨0,0,s.temp⟩ kind n id0 ty0 kids [],{ s with temp:=s.temp+1,left:=s.left - 1 })
def Ex.setRef (e : Ex) (r : IdT) : Ex:=.mk e.id e.kind e.n r e.ty e.kids e.names
def Ex.setTy (e : Ex) (t : Ty) : Ex:=.mk e.id e.kind e.n e.ref t e.kids e.names
def defA (c : MkC) (k : Nat) : DefT:=c.p.defs.getD k def0
def modA (c : MkC) : ModT:=c.p.mods.getD 0 default
def visP (c : MkC) (k : Nat) : Prop:=(k : Int) < c.own/\((defA c k).mod = c.home\/(defA c k).mod = (modA c).id)
instance (c : MkC) (k : Nat) : Decidable (visP c k):=by unfold visP;exact inferInstance
def kidsN (g : GX) (t : Ty) (env : List Bnd) (d : Int) : Nat->MkS->List Ex×MkS
 | 0,s=>([],s)
 | k+1,s=>if 0 < s.left then ((g t env d s).1::(kidsN g t env d k (g t env d s).2).1,(kidsN g t env d k (g t env d s).2).2) else ([],s)
def kidsT (g : GX) (env : List Bnd) (d : Int) : List Ty->MkS->List Ex×MkS
 | [],s=>([],s)
 | t::ts,s=>((g t env d s).1::(kidsT g env d ts (g t env d s).2).1,(kidsT g env d ts (g t env d s).2).2)
def litN (x : Int) : Int:=if x.tmod 29 = 3 then 1099511627776 - x.tmod 2 else x.tmod 9 - 2
def caseN (d : DefT) (x depth : Int) : Int:=if depth < 0 then 0 else x.tmod d.slots.length
def litG (c : MkC) (g : GX) (t : Ty) (env : List Bnd) (x depth : Int) (s : MkS) : Ex×MkS :=
 if t.kind = 0 then nodeG 0 (litN x) [] s
 else if t.kind = 1 then nodeG 1 (x.tmod 2) [] s
 else if t.kind = 2 then
   (let r:=kidsN g (t.kids.headD ty0) env (depth - 1) (if 0<=depth then (x.tmod 3).toNat else 0) s
    ((nodeG 11 0 r.1 r.2).1.setTy (t.kids.headD ty0),(nodeG 11 0 r.1 r.2).2))
 else if (theDef c.p t.df).kind = 1 then
   (let k:=caseN (theDef c.p t.df) x depth
    let r:=g ((((theDef c.p t.df).slots.map SlotT.ty).getD k.toNat ty0)) env (depth - 1) s
    ((nodeG 9 k [r.1] r.2).1.setRef (theDef c.p t.df).id,(nodeG 9 k [r.1] r.2).2))
 else
   (let r:=kidsT g env (depth - 1) ((theDef c.p t.df).slots.map SlotT.ty) s
    ((nodeG 7 0 r.1 r.2).1.setRef (theDef c.p t.df).id,(nodeG 7 0 r.1 r.2).2))
def bothG (g : GX) (n : Int) (u : Ty) (env : List Bnd) (d : Int) (s : MkS) : Ex×MkS :=
 nodeG 4 n [(g u env d s).1,(g u env d (g u env d s).2).1] (g u env d (g u env d s).2).2
def oneG (g : GX) (n : Int) (u : Ty) (env : List Bnd) (d : Int) (s : MkS) : Ex×MkS:=nodeG 4 n [(g u env d s).1] (g u env d s).2
def boolOp (x : Int) : Int:=if 4<=x.tmod 6 then 7+(x.tmod 6 - 4) else if x.tmod 6 = 3 then 6 else if x.tmod 6 = 2 then 6 else 5
def envAt (env : List Bnd) (x : Int) : Bnd:=env.getD (x.tmod env.length).toNat default
def boolTy (t : Ty) (env : List Bnd) (x : Int) : Ty:=if 4<=x.tmod 6 then t else if x.tmod 6 = 3 then (envAt env (x.tdiv 6)).ty else ty0
def opG (c : MkC) (g : GX) (t : Ty) (env : List Bnd) (x depth : Int) (s : MkS) : Ex×MkS :=
 if t.kind = 0 then (if x.tmod 6 = 5 then oneG g 11 (listT ty0) env (depth - 1) s else bothG g (x.tmod 5) t env (depth - 1) s)
 else if t.kind = 1 then (if x.tmod 6 = 0 then oneG g 9 t env (depth - 1) s else bothG g (boolOp x) (boolTy t env x) env (depth - 1) s)
 else if t.kind = 2/\x.tmod 2 = 0 then bothG g 10 t env (depth - 1) s
 else litG c g t env (x.tdiv 2) depth s
theorem Y.addS {P : Program} {w0 : World} {L : Lm} {M : Mem} {Γ : List As} {d : Option Nat} {ty : TypeId} {pos : String} {af : Array Edge} {g : Option (Nat×Bool)} {x y : Operand} {a b : ByteArray} {t : TypeId} (hx : evL L x = some (.string a)) (hy : evL L y = some (.string b)) (hs : a.size+b.size<=1000000) :
  Yq P w0 L M Γ ⟨d,.binOp .add t x y t,ty,pos,af,g⟩ (.string (a++b)):=fun n ac w ha _=>by
 simp [execOp,ha.ev hx,ha.ev hy,eqGuard,Go.binOp,Op.stringOp]
 omega
end Xe

namespace Pm
open Go Xe
section
variable {Is : Sig->St'->St'->Prop} {P : Program} {tb : Tb} {n : Nat} {w0 : World} {Γ0 : List As} {fr : Fr} {ρ : Nat->Option Value} {M : Mem} {lst : List (Nat×As)} {a : Act} {w : World} {fs fo : List Nat} {o : Out} {Q : Exit->Act->World->Prop} {d : Nat} {ty : TypeId} {pos : String} {af : Array Edge} {g : Option (Nat×Bool)}
theorem ret_R1 {s : S} (hr : R1 Is fr (retP s) fs fo o) : o = ⟨some s,[],fs,fo⟩:=hr
variable (h1 : a.tmps.size = n) (h2 : a.defers = []) (h : Rel w0 Γ0 fr ρ M lst (tv a) w) (hd : d < n)
theorem op_pass (h1 : a.tmps.size = n) (h2 : a.defers = []) (h : Rel w0 Γ0 fr ρ M lst (tv a) w) (hd : d < n) {o : Oper} {out : Out} {s : S} {x : Operand} {v : Value} (hdst : o.dst = some d) (hv : out.v = some s) (hob : out.ob = []) (hs : SR M ρ s v) (hx : a.eval x = v)
  (hrun : (execOp a.eval o).run P w = .ok (.value (a.eval x)) w) : o.wp P a w (Done n w0 Γ0 ρ M ((fr.puts o.dst out.v).turn out.ob)) Q :=
 op_value h1 h2 hdst hd hv (Sub.refl M) (Ext.refl ρ) (by rw [hob];exact h) hs (by rw [hrun,hx])
theorem ev_eval {x : Operand} {s : S} (hs : s = su\/∃ v,EvOk a x v/\SR M ρ s v) : SR M ρ s (a.eval x):=by
 rcases hs with rfl | ⟨v,hv,hs⟩
 ·exact trivial
 ·rw [hv.eval];exact hs
theorem ok_move (h1 : a.tmps.size = n) (h2 : a.defers = []) (h : Rel w0 Γ0 fr ρ M lst (tv a) w) (hd : d < n) {x : Operand} (hr : R1 Is fr (evP x fun s=>retP (typed P ty s)) fs fo o) : (⟨some d,.move x,ty,pos,af,g⟩ : Oper).wp P a w (Done n w0 Γ0 ρ M ((fr.puts (some d) o.v).turn o.ob)) Q:=by
 obtain ⟨s,fs',hr,hs⟩:=ev_R1 h hr
 obtain rfl:=ret_R1 hr
 exact op_pass h1 h2 h hd (x:=x) rfl rfl rfl (typed_ok (ev_eval hs)) rfl (by simp [execOp])
theorem ok_assign (h1 : a.tmps.size = n) (h2 : a.defers = []) (h : Rel w0 Γ0 fr ρ M lst (tv a) w) (hd : d < n) {x : Operand} (hr : R1 Is fr (evP x fun s=>retP (typed P ty s)) fs fo o) : (⟨some d,.assign x,ty,pos,af,g⟩ : Oper).wp P a w (Done n w0 Γ0 ρ M ((fr.puts (some d) o.v).turn o.ob)) Q:=by
 obtain ⟨s,fs',hr,hs⟩:=ev_R1 h hr
 obtain rfl:=ret_R1 hr
 exact op_pass h1 h2 h hd (x:=x) rfl rfl rfl (typed_ok (ev_eval hs)) rfl (by simp [execOp])
theorem ok_pick (h1 : a.tmps.size = n) (h2 : a.defers = []) (h : Rel w0 Γ0 fr ρ M lst (tv a) w) (hd : d < n) {c x y : Operand} (hr : R1 Is fr (evP c fun s=>booP s fun z=>.if_ z (evP x retP) (evP y retP)) fs fo o) : (⟨some d,.pick c x y,ty,pos,af,g⟩ : Oper).wp P a w (Done n w0 Γ0 ρ M ((fr.puts (some d) o.v).turn o.ob)) Q:=by
 obtain ⟨s,fs',hr,hs⟩:=ev_R1 h hr
 obtain ⟨z,e,hr⟩:=boo_R1 hr
 have hc:=(ev_v hs e).eval
 rcases hr with ⟨rfl,hr⟩ | ⟨rfl,hr⟩
 ·obtain ⟨s',fs'',hr,hs'⟩:=ev_R1 h hr
  obtain rfl:=ret_R1 hr
  exact op_pass h1 h2 h hd (x:=x) rfl rfl rfl (ev_eval hs') rfl (by simp [execOp,hc,asBool])
 ·obtain ⟨s',fs'',hr,hs'⟩:=ev_R1 h hr
  obtain rfl:=ret_R1 hr
  exact op_pass h1 h2 h hd (x:=y) rfl rfl rfl (ev_eval hs') rfl (by simp [execOp,hc,asBool])
theorem op_v (h1 : a.tmps.size = n) (h2 : a.defers = []) (h : Rel w0 Γ0 fr ρ M lst (tv a) w) (hd : d < n) {o : Oper} {v : Value} (hdst : o.dst = some d) {out : Out} (hv : out = ⟨some (.c (.d (.v v))),[],fs,fo⟩) (h1c : v.oneCell' = true) (hy : Yq P w0 (Lf a) M (lst.map Prod.snd++Γ0) o v) : o.wp P a w (Done n w0 Γ0 ρ M ((fr.puts o.dst out.v).turn out.ob)) Q:=by
 subst hv
 exact op_quiet h1 h2 h hdst hd rfl rfl (show Rd M (.v v) v by unfold Rd;exact ⟨rfl,h1c⟩) hy
theorem kR1 {s : S} {kd : IntKind} {k : Int->Prg} (hr : R1 Is fr (kP kd s k) fs fo o) : ∃ z,s = .c (.d (.v (.int kd z)))/\R1 Is fr (k z) fs fo o:=by
 unfold kP at hr
 split at hr
 ·obtain ⟨z,rfl,hr⟩:=hr
  exact ⟨z,rfl,hr⟩
 ·exact hr.elim
theorem kindT_spec {P : Program} {t : TypeId} {k : IntKind} (h : kindT P t = some k) : P.underlying t = some (.int k):=by
 unfold kindT at h
 split at h
 ·rename_i h'
  rw [h']
  simpa using h
 ·cases h
theorem op_k (h1 : a.tmps.size = n) (h2 : a.defers = []) (h : Rel w0 Γ0 fr ρ M lst (tv a) w) (hd : d < n) {op : Op} {kd : IntKind} {z : Int} (hr : R1 Is fr (rK kd z) fs fo o) (hrun : (execOp a.eval ⟨some d,op,ty,pos,af,g⟩).run P w = .ok (.value (.int kd z)) w) : (⟨some d,op,ty,pos,af,g⟩ : Oper).wp P a w (Done n w0 Γ0 ρ M ((fr.puts (some d) o.v).turn o.ob)) Q:=by
 obtain rfl:=ret_R1 hr
 exact op_value h1 h2 rfl hd rfl (Sub.refl M) (Ext.refl ρ) h (show Rd M (.v (.int kd z)) (.int kd z) by unfold Rd;exact ⟨rfl,rfl⟩) hrun
theorem op_b (h1 : a.tmps.size = n) (h2 : a.defers = []) (h : Rel w0 Γ0 fr ρ M lst (tv a) w) (hd : d < n) {op : Op} {z : Bool} (hr : R1 Is fr (rBoo z) fs fo o) (hrun : (execOp a.eval ⟨some d,op,ty,pos,af,g⟩).run P w = .ok (.value (.bool z)) w) : (⟨some d,op,ty,pos,af,g⟩ : Oper).wp P a w (Done n w0 Γ0 ρ M ((fr.puts (some d) o.v).turn o.ob)) Q:=by
 obtain rfl:=ret_R1 hr
 exact op_value h1 h2 rfl hd rfl (Sub.refl M) (Ext.refl ρ) h (show Rd M (.v (.bool z)) (.bool z) by unfold Rd;exact ⟨rfl,rfl⟩) hrun
theorem ok_arithK (h1 : a.tmps.size = n) (h2 : a.defers = []) (h : Rel w0 Γ0 fr ρ M lst (tv a) w) (hd : d < n) {op : BinOp} {x y : Operand} {t : TypeId} {kd : IntKind} {p q : Int} (hx : EvOk a x (.int kd p)) (hy : EvOk a y (.int kd q)) (hr : R1 Is fr (arithK kd op p q) fs fo o) : (⟨some d,.binOp op t x y t,ty,pos,af,g⟩ : Oper).wp P a w (Done n w0 Γ0 ρ M ((fr.puts (some d) o.v).turn o.ob)) Q:=by
 have ex:=hx.eval
 have ey:=hy.eval
 unfold arithK at hr
 split at hr
 ·exact op_k h1 h2 h hd hr (by simp [execOp,ex,ey,eqGuard,Go.binOp,Op.intArith])
 ·exact op_k h1 h2 h hd hr (by simp [execOp,ex,ey,eqGuard,Go.binOp,Op.intArith])
 ·exact op_k h1 h2 h hd hr (by simp [execOp,ex,ey,eqGuard,Go.binOp,Op.intArith])
 ·obtain ⟨h0,hr⟩:=hr
  exact op_k h1 h2 h hd hr (by simp [execOp,ex,ey,eqGuard,Go.binOp,Op.intDiv,h0])
 ·obtain ⟨h0,hr⟩:=hr
  exact op_k h1 h2 h hd hr (by simp [execOp,ex,ey,eqGuard,Go.binOp,Op.intDiv,h0])
 ·exact op_k h1 h2 h hd hr (by simp only [execOp,ex,ey];simp [eqGuard,Go.binOp,intBits_and])
 ·exact op_k h1 h2 h hd hr (by simp only [execOp,ex,ey];simp [eqGuard,Go.binOp,intBits_or])
 ·exact op_k h1 h2 h hd hr (by simp only [execOp,ex,ey];simp [eqGuard,Go.binOp,intBits_xor])
 ·exact op_k h1 h2 h hd hr (by simp only [execOp,ex,ey];simp [eqGuard,Go.binOp,intBits_andNot])
 ·exact op_b h1 h2 h hd hr (by simp [execOp,ex,ey,eqGuard,Go.binOp,Op.intCmp])
 ·exact op_b h1 h2 h hd hr (by simp [execOp,ex,ey,eqGuard,Go.binOp,Op.intCmp])
 ·exact op_b h1 h2 h hd hr (by simp [execOp,ex,ey,eqGuard,Go.binOp,Op.intCmp])
 ·exact op_b h1 h2 h hd hr (by simp [execOp,ex,ey,eqGuard,Go.binOp,Op.intCmp])
 ·exact hr.elim
theorem ok_shift (h1 : a.tmps.size = n) (h2 : a.defers = []) (h : Rel w0 Γ0 fr ρ M lst (tv a) w) (hd : d < n) {op : BinOp} {x y : Operand} {t t' : TypeId} (hr : R1 Is fr (evP x fun a=>evP y fun b=>shiftP P op t t' a b) fs fo o) : (⟨some d,.binOp op t x y t',ty,pos,af,g⟩ : Oper).wp P a w (Done n w0 Γ0 ρ M ((fr.puts (some d) o.v).turn o.ob)) Q:=by
 obtain ⟨s1,fs1,hr,hs1⟩:=ev_R1 h hr
 obtain ⟨s2,fs2,hr,hs2⟩:=ev_R1 h hr
 unfold shiftP at hr
 split at hr
 ·obtain ⟨p,e1,hr⟩:=kR1 hr
  obtain ⟨q,e2,hr⟩:=kR1 hr
  have ex:=(ev_v hs1 e1).eval
  have ey:=(ev_v hs2 e2).eval
  split at hr
  ·obtain ⟨h0,hr⟩:=hr
   exact op_k h1 h2 h hd hr (by simp only [execOp,ex,ey];simp [eqGuard,Go.binOp,shift_shl_any _ _ _ _ h0])
  ·obtain ⟨h0,hr⟩:=hr
   exact op_k h1 h2 h hd hr (by simp only [execOp,ex,ey];simp [eqGuard,Go.binOp,shift_shr_any _ _ _ _ h0])
  ·exact hr.elim
 ·exact hr.elim
theorem ok_arith (h1 : a.tmps.size = n) (h2 : a.defers = []) (h : Rel w0 Γ0 fr ρ M lst (tv a) w) (hd : d < n) {op : BinOp} {x y : Operand} {t : TypeId} {p q : Int} (hx : EvOk a x (.int .i64 p)) (hy : EvOk a y (.int .i64 q)) (hr : R1 Is fr (arithP op p q) fs fo o) : (⟨some d,.binOp op t x y t,ty,pos,af,g⟩ : Oper).wp P a w (Done n w0 Γ0 ρ M ((fr.puts (some d) o.v).turn o.ob)) Q:=by
 unfold arithP at hr
 split at hr
 ·exact op_v (fs:=fs) (fo:=fo) h1 h2 h hd rfl (ret_R1 hr.2) rfl (Y.add hx.evL hy.evL hr.1)
 ·exact op_v (fs:=fs) (fo:=fo) h1 h2 h hd rfl (ret_R1 hr.2) rfl (Y.sub hx.evL hy.evL hr.1)
 ·exact op_v (fs:=fs) (fo:=fo) h1 h2 h hd rfl (ret_R1 hr.2) rfl (Y.mul hx.evL hy.evL hr.1)
 ·exact op_v (fs:=fs) (fo:=fo) h1 h2 h hd rfl (ret_R1 hr.2) rfl (Y.quo hx.evL hy.evL hr.1.1 hr.1.2)
 ·exact op_v (fs:=fs) (fo:=fo) h1 h2 h hd rfl (ret_R1 hr.2) rfl (Y.rem hx.evL hy.evL hr.1)
 ·exact op_v (fs:=fs) (fo:=fo) h1 h2 h hd rfl (ret_R1 hr) rfl (Y.lss hx.evL hy.evL)
 ·exact op_v (fs:=fs) (fo:=fo) h1 h2 h hd rfl (ret_R1 hr) rfl (Y.leq hx.evL hy.evL)
 ·exact op_v (fs:=fs) (fo:=fo) h1 h2 h hd rfl (ret_R1 hr) rfl (Y.gtr hx.evL hy.evL)
 ·exact op_v (fs:=fs) (fo:=fo) h1 h2 h hd rfl (ret_R1 hr) rfl (Y.geq hx.evL hy.evL)
 ·exact ok_arithK h1 h2 h hd (op:=.and) hx hy hr
 ·exact ok_arithK h1 h2 h hd (op:=.or) hx hy hr
 ·exact ok_arithK h1 h2 h hd (op:=.xor) hx hy hr
 ·exact hr.elim
theorem pur_R1 {s : S} {k : List D->Prg} (hr : R1 Is fr (purP s k) fs fo o) (h3 : size3 s = true) {v : Value} (hs : SR M ρ s v) : ∃ x y z,R1 Is fr (k [x,y,z]) fs fo o/\∃ u1 u2 u3,v = .agg [u1,u2,u3].toArray/\Rd M x u1/\Rd M y u2/\Rd M z u3:=by
 unfold purP at hr
 split at hr
 ·rename_i m ds
  obtain ⟨hl,us,rfl,hr2⟩:=hs
  have hm : m = 3:=Nat.eq_of_beq_eq_true h3
  subst hm
  match ds,us,hl,hr2 with
  | [x,y,z],[u1,u2,u3],_,hr2=>exact ⟨x,y,z,hr,u1,u2,u3,rfl,hr2.2 0 _ _ rfl rfl,hr2.2 1 _ _ rfl rfl,hr2.2 2 _ _ rfl rfl⟩
  | [_,_,_],[],_,hr2=>have:=hr2.1;simp at this
  | [_,_,_],[_],_,hr2=>have:=hr2.1;simp at this
  | [_,_,_],[_,_],_,hr2=>have:=hr2.1;simp at this
  | [_,_,_],_::_::_::_::_,_,hr2=>have:=hr2.1;simp at this
 ·rename_i x y z
  obtain ⟨us,rfl,hr2⟩:=hs
  match us,hr2 with
  | [u1,u2,u3],hr2=>exact ⟨x,y,z,hr,u1,u2,u3,rfl,hr2.1,hr2.2.1,hr2.2.2.1⟩
  | [],hr2=>exact hr2.elim
  | [_],hr2=>exact hr2.2.elim
  | [_,_],hr2=>exact hr2.2.2.elim
  | _::_::_::_::_,hr2=>exact hr2.2.2.2.elim
 ·exact hr.elim
theorem ok_bin (h1 : a.tmps.size = n) (h2 : a.defers = []) (h : Rel w0 Γ0 fr ρ M lst (tv a) w) (hd : d < n) (hT : TbOk P tb) {op : BinOp} {x y : Operand} {t t' : TypeId} (hr : R1 Is fr (match Nat.beq t t' with
   | true=>evP x fun a=>evP y fun b=>binP P tb op t a b
   | false=>.no) fs fo o) : (⟨some d,.binOp op t x y t',ty,pos,af,g⟩ : Oper).wp P a w (Done n w0 Γ0 ρ M ((fr.puts (some d) o.v).turn o.ob)) Q:=by
 cases ht : Nat.beq t t' with
 | false=>rw [ht] at hr;exact hr.elim
 | true =>
  rw [ht] at hr
  have e:=Nat.eq_of_beq_eq_true ht
  subst e
  obtain ⟨s1,fs1,hr,hs1⟩:=ev_R1 h hr
  obtain ⟨s2,fs2,hr,hs2⟩:=ev_R1 h hr
  have key : ∀ (k : Bool->Prg) (bo : Bool->Bool) (hk : ∀ b fs fo o,R1 Is fr (k b) fs fo o->o = ⟨some (.c (.d (.v (.bool (bo b))))),[],fs,fo⟩) (opn : BinOp),(∀ p q : Int,evL (Lf a) x = some (.int .i64 p)->evL (Lf a) y = some (.int .i64 q)->Yq P w0 (Lf a) M (lst.map Prod.snd++Γ0) ⟨some d,.binOp opn t x y t,ty,pos,af,g⟩ (.bool (bo (decide (p = q))))) ->
    (∀ (kd : IntKind) (p q : Int),evL (Lf a) x = some (.int kd p)->evL (Lf a) y = some (.int kd q)->Yq P w0 (Lf a) M (lst.map Prod.snd++Γ0) ⟨some d,.binOp opn t x y t,ty,pos,af,g⟩ (.bool (bo (decide (p = q))))) ->
    (∀ (n : Nat) (e : TypeId) (kd : IntKind),tb.eqa.any (Nat.beq t) = true->P.underlying t = some (.array n e)->P.underlying e = some (.int kd)->∀ p q : List Int,p.length = n->q.length = n->evL (Lf a) x = some (.agg (p.map (Value.int kd)).toArray)->evL (Lf a) y = some (.agg (q.map (Value.int kd)).toArray)->Yq P w0 (Lf a) M (lst.map Prod.snd++Γ0) ⟨some d,.binOp opn t x y t,ty,pos,af,g⟩ (.bool (bo (decide (p = q))))) ->
    (∀ p q : ByteArray,evL (Lf a) x = some (.string p)->evL (Lf a) y = some (.string q)->Yq P w0 (Lf a) M (lst.map Prod.snd++Γ0) ⟨some d,.binOp opn t x y t,ty,pos,af,g⟩ (.bool (bo (decide (p = q))))) ->
    (∀ p q : Bool,P.underlying t = some .bool->evL (Lf a) x = some (.bool p)->evL (Lf a) y = some (.bool q)->Yq P w0 (Lf a) M (lst.map Prod.snd++Γ0) ⟨some d,.binOp opn t x y t,ty,pos,af,g⟩ (.bool (bo (p == q)))) ->
    (Eq3 P t->∀ p q r p' q' r' : Int,evL (Lf a) x = some (.agg [.int .i64 p,.int .i64 q,.int .i64 r].toArray)->evL (Lf a) y = some (.agg [.int .i64 p',.int .i64 q',.int .i64 r'].toArray)->Yq P w0 (Lf a) M (lst.map Prod.snd++Γ0) ⟨some d,.binOp opn t x y t,ty,pos,af,g⟩ (.bool (bo (decide (p = p'/\q = q'/\r = r'))))) ->
    R1 Is fr (eqP P tb t s1 s2 k) fs2 fo o->(⟨some d,.binOp opn t x y t,ty,pos,af,g⟩ : Oper).wp P a w (Done n w0 Γ0 ρ M ((fr.puts (some d) o.v).turn o.ob)) Q:=by
   intro k bo hk opn hI hK hA hS hB hE hr
   unfold eqP at hr
   split at hr
   ·obtain ⟨p,e1,hr⟩:=int_R1 hr
    obtain ⟨q,e2,hr⟩:=int_R1 hr
    exact op_v h1 h2 h hd rfl (hk _ _ _ _ hr) rfl (hI p q (ev_v hs1 e1).evL (ev_v hs2 e2).evL)
   ·obtain ⟨p,e1,hr⟩:=str_R1 hr
    obtain ⟨q,e2,hr⟩:=str_R1 hr
    exact op_v h1 h2 h hd rfl (hk _ _ _ _ hr) rfl (hS p q (ev_v hs1 e1).evL (ev_v hs2 e2).evL)
   ·rename_i hu
    obtain ⟨p,e1,hr⟩:=boo_R1 hr
    obtain ⟨q,e2,hr⟩:=boo_R1 hr
    exact op_v h1 h2 h hd rfl (hk _ _ _ _ hr) rfl (hB p q hu (ev_v hs1 e1).evL (ev_v hs2 e2).evL)
   ·split at hr
    ·rename_i hb
     simp only [Bool.and_eq_true] at hb
     have su3 : ∀ {s : S} {x : Operand} {k : List D->Prg} {fs fo : List Nat},R1 Is fr (purP s k) fs fo o->(s = su\/∃ v,EvOk a x v/\SR M ρ s v)->∃ v,EvOk a x v/\SR M ρ s v:=by
      intro s x k fs fo hr hs
      rcases hs with rfl | hs
      ·exact hr.elim
      ·exact hs
     obtain ⟨v1,hv1,hs1⟩:=su3 hr hs1
     obtain ⟨x1,y1,z1,hr,u1,u2,u3,rfl,r1,r2,r3⟩:=pur_R1 hr hb.1.2 hs1
     obtain ⟨v2,hv2,hs2⟩:=su3 hr hs2
     obtain ⟨x2,y2,z2,hr,u4,u5,u6,rfl,r4,r5,r6⟩:=pur_R1 hr hb.2 hs2
     obtain ⟨p,e1,q,e2,r,e3,p',e4,q',e5,r',e6,hr9⟩:=hr
     have f1 : x1 = .v (.int .i64 p):=e1
     have f2 : y1 = .v (.int .i64 q):=e2
     have f3 : z1 = .v (.int .i64 r):=e3
     have f4 : x2 = .v (.int .i64 p'):=e4
     have f5 : y2 = .v (.int .i64 q'):=e5
     have f6 : z2 = .v (.int .i64 r'):=e6
     subst f1 f2 f3 f4 f5 f6
     simp only [Rd] at r1 r2 r3 r4 r5 r6
     obtain rfl:=r1.1
     obtain rfl:=r2.1
     obtain rfl:=r3.1
     obtain rfl:=r4.1
     obtain rfl:=r5.1
     obtain rfl:=r6.1
     exact op_v h1 h2 h hd rfl (hk _ _ _ _ hr9) rfl (hE (hT.eq3 t hb.1.1) p q r p' q' r' hv1.evL hv2.evL)
    ·exact hr.elim
   ·obtain ⟨p,e1,hr⟩:=kR1 hr
    obtain ⟨q,e2,hr⟩:=kR1 hr
    exact op_v h1 h2 h hd rfl (hk _ _ _ _ hr) rfl (hK _ p q (ev_v hs1 e1).evL (ev_v hs2 e2).evL)
   ·rename_i na ea hua
    split at hr
    ·rename_i kd ma dsa mb dsb hqa hkd _ _
     split at hr
     ·rename_i hb
      simp only [Bool.and_eq_true] at hb
      have em1:=Nat.eq_of_beq_eq_true hb.1
      have em2:=Nat.eq_of_beq_eq_true hb.2
      obtain ⟨p,hp,q,hq,hr⟩:=hr
      have kn : ∀ {x : Operand} {m : Nat} {ds : List D} {zs : List Int},((S.a m ds) = su\/∃ v,EvOk a x v/\SR M ρ (S.a m ds) v)->intsOf kd ds = some zs->zs.length = m/\evL (Lf a) x = some (.agg (zs.map (Value.int kd)).toArray):=by
       intro x m ds zs hs hz
       rcases hs with hs | ⟨v,hv,hl,us,rfl,hrd⟩
       ·cases hs
       ·obtain rfl:=intsOf_spec hz
        rw [bytes_rdl hrd] at hv
        exact ⟨by simpa using hl,hv.evL⟩
      obtain ⟨l1,v1⟩:=kn hs1 hp
      obtain ⟨l2,v2⟩:=kn hs2 hq
      exact op_v h1 h2 h hd rfl (hk _ _ _ _ hr) rfl (hA na ea kd hqa hua (kindT_spec hkd) p q Q0 Q0 v1 v2)
     ·exact hr.elim
    ·exact hr.elim
   ·exact hr.elim
  unfold binP at hr
  split at hr
  ·exact key rBoo id (fun b fs fo o h=>h) .eql (fun p q hx hy=>Y.eql hx hy) (fun kd p q hx hy=>Y.eqlK hx hy) (fun n e kd h0 hu he p q hp hq hx hy=>(hT.eqa t n e kd h0 hu he _ _ _ _ _ _ _ _ _ _ _ _ _ hp hq hx hy).1) (fun p q hx hy=>Y.eqlS hx hy) (fun p q hu hx hy=>Y.eqlBB hu hx hy) (fun hE p q r p' q' r' hx hy=>(hE _ _ _ _ _ _ _ _ _ _ _ _ _ _ _ _ _ hx hy).1) hr
  ·refine key (fun b=>rBoo (!b)) not (fun b fs fo o h=>h) .neq (fun p q hx hy=>?_) (fun kd p q hx hy=>?_) (fun n e kd h0 hu he p q hp hq hx hy=>(hT.eqa t n e kd h0 hu he _ _ _ _ _ _ _ _ _ _ _ _ _ hp hq hx hy).2) (fun p q hx hy=>?_) (fun p q hu hx hy=>?_) (fun hE p q r p' q' r' hx hy=>(hE _ _ _ _ _ _ _ _ _ _ _ _ _ _ _ _ _ hx hy).2) hr
   ·have:=Y.neq (P:=P) (w0:=w0) (M:=M) (Γ:=lst.map Prod.snd++Γ0) (d:=some d) (ty:=ty) (pos:=pos) (af:=af) (g:=g) (t:=t) hx hy
    rwa [decide_not] at this
   ·have:=Y.neqK (P:=P) (w0:=w0) (M:=M) (Γ:=lst.map Prod.snd++Γ0) (d:=some d) (ty:=ty) (pos:=pos) (af:=af) (g:=g) (t:=t) hx hy
    rwa [decide_not] at this
   ·have:=Y.neqS (P:=P) (w0:=w0) (M:=M) (Γ:=lst.map Prod.snd++Γ0) (d:=some d) (ty:=ty) (pos:=pos) (af:=af) (g:=g) (u:=t) hx hy
    rwa [decide_not] at this
   ·have:=Y.neqD (P:=P) (w0:=w0) (M:=M) (Γ:=lst.map Prod.snd++Γ0) (d:=some d) (ty:=ty) (pos:=pos) (af:=af) (g:=g) (p:=p = true) (q:=q = true) hu (by simpa using hx) (by simpa using hy)
    cases p <;> cases q <;> simpa using this
  ·split at hr
   ·obtain ⟨p,e1,hr⟩:=int_R1 hr
    obtain ⟨q,e2,hr⟩:=int_R1 hr
    exact ok_arith h1 h2 h hd (ev_v hs1 e1) (ev_v hs2 e2) hr
   ·obtain ⟨p,e1,hr⟩:=str_R1 hr
    obtain ⟨q,e2,hr⟩:=str_R1 hr
    split at hr
    ·exact op_v h1 h2 h hd rfl (ret_R1 hr.2) rfl (Y.addS (ev_v hs1 e1).evL (ev_v hs2 e2).evL hr.1)
    ·exact hr.elim
   ·obtain ⟨p,e1,hr⟩:=kR1 hr
    obtain ⟨q,e2,hr⟩:=kR1 hr
    exact ok_arithK h1 h2 h hd (ev_v hs1 e1) (ev_v hs2 e2) hr
   ·exact hr.elim
end
theorem beq_self (b : Nat) : Nat.beq b b = true:=Nat.beq_refl b
theorem beq_ne {a b : Nat} (h : a ≠ b) : Nat.beq a b = false:=by
 cases hb : Nat.beq a b with
 | false=>rfl
 | true=>exact absurd (Nat.eq_of_beq_eq_true hb) h
theorem set_same {fr : Fr} {b : Nat} {o : O} (h : fr.ob b = some o) : fr.set b o = fr:=by
 have : (fr.set b o).ob = fr.ob:=by
  funext k
  rw [set_at]
  by_cases e : k = b
  ·subst e;rw [if_pos rfl,h]
  ·rw [if_neg e]
 cases fr
 simp only [Fr.set] at this ⊢
 rw [this]
section
variable {w0 : World} {Γ0 : List As} {fr : Fr} {ρ : Nat->Option Value} {M : Mem} {lst : List (Nat×As)} {val : Nat->Option Value} {w : World}
theorem filter_keep {b k : Nat} {x : As} (h : (k,x)∈lst) (hk : k ≠ b) : (k,x)∈lst.filter fun p=>!Nat.beq p.1 b:=List.mem_filter.2 ⟨h,by simp [beq_ne hk]⟩
theorem filter_nd (h : (lst.map Prod.fst).Nodup) (b : Nat) : ((lst.filter fun p=>!Nat.beq p.1 b).map Prod.fst).Nodup:=by
 have:=(List.filter_sublist (l:=lst) (p:=fun p=>!Nat.beq p.1 b)).map Prod.fst
 exact this.nodup h
theorem filter_key {b k : Nat} {x : As} (h : (k,x)∈lst.filter fun p=>!Nat.beq p.1 b) : k ≠ b:=fun e=>by
 have:=(List.mem_filter.1 h).2
 simp [e] at this
theorem Rel.fix (h : Rel w0 Γ0 fr ρ M lst val w) {b e sz n : Nat} {ds : List D} (hb : fr.ob b = some (.w e sz n ds)) :
  ∃ M' lst' v,Sub M M'/\ρ b = some v/\Rd M' (.sl n sz ds) v/\Rel w0 Γ0 (fr.set b (.s sz n ds)) ρ M' lst' val w:=by
 obtain ⟨ad,c,us,h1,h2,h3,h4,h5⟩:=h.ob b _ hb
 obtain ⟨M',hs,hrd,hst⟩:=(h.st.perm (h.mem h2)).sealAcc h3 h5
 refine ⟨M',lst.filter fun p=>!Nat.beq p.1 b,_,hs,h1,hrd,⟨fun t=>?_,fun k o hk=>?_,fun k v hk=>?_,fun p hp=>?_,filter_nd h.nd b,hst.sub (List.sublist_cons_self _ _),h.gr.mono hs⟩⟩
 ·rcases h.sl t with h6 | ⟨v,h6,h7⟩
  ·exact .inl h6
  ·exact .inr ⟨v,h6,SR.mono hs (Ext.refl ρ) h7⟩
 ·rw [set_at] at hk
  by_cases e : k = b
  ·subst e
   rw [if_pos rfl] at hk
   simp only [Option.some.injEq] at hk
   subst hk
   exact ⟨_,h1,hrd⟩
  ·rw [if_neg e] at hk
   exact OR.mono hs (Ext.refl ρ) (fun x hx=>filter_keep hx e) (h.ob k o hk)
 ·rcases h.rho k v hk with h6 | h6
  ·exact .inl h6
  ·right
   rw [set_at]
   by_cases e : k = b
   ·rw [if_pos e];rfl
   ·rw [if_neg e];exact h6
 ·exact h.keys p (List.mem_filter.1 hp).1
theorem Rel.fixV (h : Rel w0 Γ0 fr ρ M lst val w) {b e sz n : Nat} {ws : List C} {ds : List D} (hb : fr.ob b = some (.v e sz n ws)) (hd : ∀ us,CRs M ρ ws us->RdL M ds us) :
  ∃ M' lst' v,Sub M M'/\ρ b = some v/\Rd M' (.sl n sz ds) v/\Rel w0 Γ0 (fr.set b (.s sz n ds)) ρ M' lst' val w:=by
 obtain ⟨ad,c,us,h1,h2,h3,h4,h5⟩:=h.ob b _ hb
 obtain ⟨M',hs,hrd,hst⟩:=(h.st.perm (h.mem h2)).sealAcc (hd us h3) h5
 refine ⟨M',lst.filter fun p=>!Nat.beq p.1 b,_,hs,h1,hrd,⟨fun t=>?_,fun k o hk=>?_,fun k v hk=>?_,fun p hp=>?_,filter_nd h.nd b,hst.sub (List.sublist_cons_self _ _),h.gr.mono hs⟩⟩
 ·rcases h.sl t with h6 | ⟨v,h6,h7⟩
  ·exact .inl h6
  ·exact .inr ⟨v,h6,SR.mono hs (Ext.refl ρ) h7⟩
 ·rw [set_at] at hk
  by_cases e : k = b
  ·subst e
   rw [if_pos rfl] at hk
   simp only [Option.some.injEq] at hk
   subst hk
   exact ⟨_,h1,hrd⟩
  ·rw [if_neg e] at hk
   exact OR.mono hs (Ext.refl ρ) (fun x hx=>filter_keep hx e) (h.ob k o hk)
 ·rcases h.rho k v hk with h6 | h6
  ·exact .inl h6
  ·right
   rw [set_at]
   by_cases e : k = b
   ·rw [if_pos e];rfl
   ·rw [if_neg e];exact h6
 ·exact h.keys p (List.mem_filter.1 hp).1
theorem Rel.fixesV (g : Nat->Option O) : ∀ (os : List (Nat×O)) {fr : Fr} {M : Mem} {lst : List (Nat×As)},Rel w0 Γ0 fr ρ M lst val w ->
  (∀ p∈os,g p.1 = some p.2/\∃ e sz n ws ds,p.2 = .s sz n ds/\(fr.ob p.1 = some (.v e sz n ws)\/fr.ob p.1 = some (.s sz n ds))/\∀ M' us,Sub M M'->CRs M' ρ ws us->RdL M' ds us) ->
  ∃ M' lst',Sub M M'/\(∀ p∈os,∀ sz n ds,p.2 = O.s sz n ds->∃ v,ρ p.1 = some v/\Rd M' (.sl n sz ds) v)/\Rel w0 Γ0 (fr.turn os) ρ M' lst' val w
 | [],fr,M,lst,h,_=>⟨M,lst,Sub.refl M,fun p hp=>by simp at hp,h⟩
 | (b,o)::os,fr,M,lst,h,hf=>by
  obtain ⟨hg,e,sz,n,ws,ds,ho,h0,hd⟩:=hf (b,o) (List.mem_cons_self ..)
  simp only at ho hg h0
  subst ho
  have step : ∃ M1 l1 v,Sub M M1/\ρ b = some v/\Rd M1 (.sl n sz ds) v/\Rel w0 Γ0 (fr.set b (.s sz n ds)) ρ M1 l1 val w:=by
   rcases h0 with h0 | h0
   ·exact h.fixV h0 fun us hu=>hd M us (Sub.refl M) hu
   ·obtain ⟨v,h3,h4⟩:=h.ob _ _ h0
    exact ⟨M,lst,v,Sub.refl M,h3,h4,by rw [set_same h0];exact h⟩
  obtain ⟨M1,l1,v,hs,hv,hrd,h1⟩:=step
  obtain ⟨M2,l2,hs2,hfa,h2⟩:=Rel.fixesV g os h1 fun p hp=>by
   obtain ⟨hg',e',sz',n',ws',ds',ho',h0',hd'⟩:=hf p (List.mem_cons_of_mem _ hp)
   refine ⟨hg',e',sz',n',ws',ds',ho',?_,fun M' us hM hu=>hd' M' us (hs.trans hM) hu⟩
   by_cases e : p.1 = b
   ·right
    rw [e,hg] at hg'
    rw [set_at,if_pos e]
    rw [hg',ho']
   ·rw [set_at,if_neg e]
    exact h0'
  refine ⟨M2,l2,hs.trans hs2,fun p hp sz' n' ds' hp'=>?_,h2⟩
  rcases List.mem_cons.1 hp with rfl | hp
  ·simp only [O.s.injEq] at hp'
   obtain ⟨rfl,rfl,rfl⟩:=hp'
   exact ⟨v,hv,Rd.mono hs2 _ _ hrd⟩
  ·exact hfa p hp sz' n' ds' hp'
def Facts (ρ : Nat->Option Value) (M : Mem) (os : List (Nat×O)) : Prop:=∀ p∈os,match p.2 with
 | .s sz n ds=>∃ v,ρ p.1 = some v/\Rd M (.sl n sz ds) v
 | _=>False
def Fixes (fr : Fr) (os : List (Nat×O)) : Prop:=∀ p∈os,match p.2 with
 | .s sz n ds=>(∃ e,fr.ob p.1 = some (.w e sz n ds))\/fr.ob p.1 = some (.s sz n ds)
 | _=>False
theorem Rel.fixes : ∀ (os : List (Nat×O)) {fr : Fr} {M : Mem} {lst : List (Nat×As)},Rel w0 Γ0 fr ρ M lst val w->Fixes fr os->∃ M' lst',Sub M M'/\Facts ρ M' os/\Rel w0 Γ0 (fr.turn os) ρ M' lst' val w
 | [],fr,M,lst,h,_=>⟨M,lst,Sub.refl M,fun p hp=>by simp at hp,h⟩
 | (b,o)::os,fr,M,lst,h,hf=>by
  have h0:=hf (b,o) (List.mem_cons_self ..)
  cases o with
  | s sz n ds =>
   have hrest : Fixes (fr.set b (.s sz n ds)) os:=fun p hp=>by
    have:=hf p (List.mem_cons_of_mem _ hp)
    split at this
    ·rename_i sz' n' ds' he
     by_cases e : p.1 = b
     ·right
      rw [set_at,if_pos e]
      rw [e] at this
      rcases h0 with ⟨e0,h0⟩ | h0 <;> rcases this with ⟨e1,this⟩ | this
      ·simp only [] at h0
       rw [h0] at this
       simp only [Option.some.injEq,O.w.injEq] at this
       obtain ⟨_,rfl,rfl,rfl⟩:=this
       rfl
      ·simp only [] at h0
       rw [h0] at this
       simp at this
      ·simp only [] at h0
       rw [h0] at this
       simp at this
      ·simp only [] at h0
       rw [h0] at this
       rw [this]
     ·rw [set_at,if_neg e]
      exact this
    ·exact this.elim
   rcases h0 with ⟨e0,h0⟩ | h0
   ·obtain ⟨M1,l1,v,hs,hv,hrd,h1⟩:=h.fix h0
    obtain ⟨M2,l2,hs2,hfa,h2⟩:=Rel.fixes os h1 hrest
    refine ⟨M2,l2,hs.trans hs2,fun p hp=>?_,h2⟩
    rcases List.mem_cons.1 hp with rfl | hp
    ·exact ⟨v,hv,Rd.mono hs2 _ _ hrd⟩
    ·exact hfa p hp
   ·have e1:=set_same h0
    rw [e1] at hrest
    obtain ⟨M2,l2,hs2,hfa,h2⟩:=Rel.fixes os h hrest
    refine ⟨M2,l2,hs2,fun p hp=>?_,by rw [Fr.turn,e1];exact h2⟩
    rcases List.mem_cons.1 hp with rfl | hp
    ·obtain ⟨v,h3,h4⟩:=h.ob _ _ h0
     exact ⟨v,h3,Rd.mono hs2 _ _ h4⟩
    ·exact hfa p hp
  | _=>exact h0.elim
theorem Fixes.app {os os' : List (Nat×O)} (h : Fixes fr os) (k : Fixes fr os') : Fixes fr (os++os'):=fun p hp=>by
 rcases List.mem_append.1 hp with hp | hp
 ·exact h p hp
 ·exact k p hp
theorem Fixes.nil : Fixes fr []:=fun p hp=>by simp at hp
theorem Facts.app1 {os os' : List (Nat×O)} (h : Facts ρ M (os++os')) : Facts ρ M os:=fun p hp=>h p (List.mem_append_left _ hp)
theorem Facts.app2 {os os' : List (Nat×O)} (h : Facts ρ M (os++os')) : Facts ρ M os':=fun p hp=>h p (List.mem_append_right _ hp)
end
section
variable {Is : Sig->St'->St'->Prop} {P : Program} {w0 : World} {Γ0 : List As} {fr : Fr} {ρ : Nat->Option Value} {M : Mem} {lst : List (Nat×As)} {val : Nat->Option Value} {w : World} {fs fo : List Nat} {o : Out}
def DatOk (ρ : Nat->Option Value) (M : Mem) (c : C) (x : D) (os : List (Nat×O)) : Prop:=∀ M' v,Sub M M'->Facts ρ M' os->CR M ρ c v->Rd M' x v
theorem dat_R1 (h : Rel w0 Γ0 fr ρ M lst val w) {c : C} {k : D->List (Nat×O)->Prg} (hr : R1 Is fr (datP c k) fs fo o) : ∃ x os fo',R1 Is fr (k x os) fs fo' o/\Fixes fr os/\DatOk ρ M c x os/\c ≠ .u:=by
 unfold datP at hr
 split at hr
 ·rename_i x
  exact ⟨x,[],fo,hr,Fixes.nil,fun M' v hM _ hc=>Rd.mono hM _ _ hc,Q2⟩
 ·refine ⟨_,[],fo,hr,Fixes.nil,fun M' v hM _ hc=>?_,Q2⟩
  obtain rfl : v = .slice none 0 0:=hc
  exact Rd.nilS
 ·rename_i b
  change R1 Is fr (match fr.ob b with | some (.w _ sz n ds)=>_ | some (.s sz n ds)=>_ | _=>_) _ _ _ at hr
  split at hr
  ·rename_i e sz n ds hob
   refine ⟨.sl n sz ds,[(b,.s sz n ds)],_,hr,fun p hp=>?_,fun M' v hM hf hc=>?_,Q2⟩
   ·simp only [List.mem_singleton] at hp
    subst hp
    exact .inl ⟨e,hob⟩
   ·obtain ⟨v',h1,h2⟩:=hf (b,.s sz n ds) (List.mem_singleton.2 rfl)
    have h3 : ρ b = some v:=hc.1
    rw [h1] at h3
    simp only [Option.some.injEq] at h3
    subst h3
    exact h2
  ·rename_i sz n ds hob
   refine ⟨.sl n sz ds,[],_,hr,Fixes.nil,fun M' v hM hf hc=>?_,Q2⟩
   obtain ⟨v',h1,h2⟩:=h.ob b _ hob
   have h3 : ρ b = some v:=hc.1
   rw [h1] at h3
   simp only [Option.some.injEq] at h3
   subst h3
   exact Rd.mono hM _ _ h2
  ·exact hr.elim
 ·exact hr.elim
def DatsOk (ρ : Nat->Option Value) (M : Mem) (cs : List C) (ds : List D) (os : List (Nat×O)) : Prop:=∀ M' us,Sub M M'->Facts ρ M' os->CRs M ρ cs us->RdL M' ds us
theorem dats_R1 (h : Rel w0 Γ0 fr ρ M lst val w) : ∀ (cs : List C) {k : List D->List (Nat×O)->Prg} {fs fo : List Nat} {o : Out},R1 Is fr (datsP cs k) fs fo o->∃ ds os fo',R1 Is fr (k ds os) fs fo' o/\Fixes fr os/\DatsOk ρ M cs ds os
 | [],k,fs,fo,o,hr=>⟨[],[],fo,hr,Fixes.nil,fun M' us _ _ hc=>by
  cases us with
  | nil=>exact RdL.nil _
  | cons _ _=>exact hc.elim⟩
 | c::cs,k,fs,fo,o,hr=>by
  obtain ⟨x,os,fo1,hr,hf,hd,_⟩:=dat_R1 h hr
  obtain ⟨ds,os',fo2,hr,hf',hd'⟩:=dats_R1 h cs hr
  refine ⟨x::ds,os++os',fo2,hr,hf.app hf',fun M' us hM hfa hc=>?_⟩
  cases us with
  | nil=>exact hc.elim
  | cons u us=>exact RdL.cons (hd M' u hM hfa.app1 hc.1) (hd' M' us hM hfa.app2 hc.2)
theorem cells_one {v : Value} (h : v.oneCell' = true) : v.cells = #[v]:=by cases v <;> first | rfl | simp [Value.oneCell'] at h
def ValOk (ρ : Nat->Option Value) (M : Mem) (s : S) (m : Nat) (ds : List D) (os : List (Nat×O)) : Prop:=∀ M' v,Sub M M'->Facts ρ M' os->SR M ρ s v->∃ us,v.cells = us.toArray/\RdL M' ds us/\us.length = m
theorem val_R1 (h : Rel w0 Γ0 fr ρ M lst val w) {s : S} {k : Nat->List D->List (Nat×O)->Prg} (hr : R1 Is fr (valP s k) fs fo o) : ∃ m ds os fo',R1 Is fr (k m ds os) fs fo' o/\Fixes fr os/\ValOk ρ M s m ds os/\s ≠ su:=by
 unfold valP at hr
 split at hr
 ·rename_i c
  obtain ⟨x,os,fo1,hr,hf,hd,hne⟩:=dat_R1 h hr
  refine ⟨1,[x],os,fo1,hr,hf,fun M' v hM hfa hs=>?_,by unfold su;simpa using hne⟩
  have:=hd M' v hM hfa hs
  exact ⟨[v],cells_one (Rd.one this),RdL.cons this (RdL.nil _),rfl⟩
 ·rename_i n ds
  refine ⟨n,ds,[],fo,hr,Fixes.nil,fun M' v hM _ hs=>?_,by unfold su;simp⟩
  obtain ⟨hl,us,rfl,hr2⟩:=hs
  exact ⟨us,rfl,hr2.mono hM,by rw [hr2.1,hl]⟩
 ·rename_i cs
  obtain ⟨ds,os,fo1,hr,hf,hd⟩:=dats_R1 h cs hr
  refine ⟨cs.length,ds,os,fo1,hr,hf,fun M' v hM hfa hs=>?_,by unfold su;simp⟩
  obtain ⟨us,rfl,hr2⟩:=hs
  exact ⟨us,rfl,hd M' us hM hfa hr2,CRs.len hr2⟩
 ·exact hr.elim
theorem sli_R1 (h : Rel w0 Γ0 fr ρ M lst val w) {sz : Nat} {s : S} {k : Nat->List D->Prg} (hr : R1 Is fr (sliP sz s k) fs fo o) : ∃ n ds fo',R1 Is fr (k n ds) fs fo' o /\
  ((s = .c (.d (.sl n sz ds)))\/(s = .c (.l sz)/\n = 0/\ds = [])\/∃ b,s = .c (.w b)/\((∃ e,fr.ob b = some (.w e sz n ds))\/fr.ob b = some (.s sz n ds))):=by
 unfold sliP at hr
 split at hr
 ·split at hr
  ·rename_i hb
   have e1:=Nat.eq_of_beq_eq_true hb
   subst e1
   exact ⟨0,[],fo,hr,.inr (.inl ⟨rfl,rfl,rfl⟩)⟩
  ·exact hr.elim
 ·obtain ⟨n,cs,rfl,hr⟩:=hr
  exact ⟨n,cs,fo,hr,.inl rfl⟩
 ·rename_i b
  change R1 Is fr (match fr.ob b with | some (.w _ sz' n ds)=>_ | some (.s sz' n ds)=>_ | _=>_) _ _ _ at hr
  split at hr
  ·rename_i e sz' n ds hob
   split at hr
   ·rename_i hb
    have e1:=Nat.eq_of_beq_eq_true hb
    subst e1
    exact ⟨n,ds,_,hr,.inr (.inr ⟨b,rfl,.inl ⟨e,hob⟩⟩)⟩
   ·exact hr.elim
  ·rename_i sz' n ds hob
   split at hr
   ·rename_i hb
    have e1:=Nat.eq_of_beq_eq_true hb
    subst e1
    exact ⟨n,ds,_,hr,.inr (.inr ⟨b,rfl,.inr hob⟩)⟩
   ·exact hr.elim
  ·exact hr.elim
 ·exact hr.elim
theorem acc_at (h : Rel w0 Γ0 fr ρ M lst val w) {b e sz n c : Nat} {ad : Option Addr} {us : List Value} (h2 : (b,As.acc (.slice ad n c) e sz n us)∈lst) : n<=c/\(0 < n->ad.isSome = true):=by
 have hm : As.acc (.slice ad n c) e sz n us∈lst.map Prod.snd++Γ0:=List.mem_append_left _ (List.mem_map_of_mem h2)
 obtain ⟨ad',c',e3,hc⟩:=acc_slice (h.st.all _ hm)
 simp only [Value.slice.injEq] at e3
 obtain ⟨rfl,_,rfl⟩:=e3
 refine ⟨hc,fun hn=>?_⟩
 obtain ⟨⟨_,hh⟩,_⟩:=h.st.all _ hm
 rcases hh with ⟨e4,e5⟩ | ⟨b',cap,cur,e4,_⟩
 ·simp only [Value.slice.injEq] at e4
  omega
 ·simp only [Value.slice.injEq] at e4
  rw [e4.1]
  rfl
theorem sli_val (h : Rel w0 Γ0 fr ρ M lst val w) {sz n : Nat} {s : S} {ds : List D} {v : Value} (hs : SR M ρ s v) (k : (s = .c (.d (.sl n sz ds)))\/(s = .c (.l sz)/\n = 0/\ds = [])\/∃ b,s = .c (.w b)/\((∃ e,fr.ob b = some (.w e sz n ds))\/fr.ob b = some (.s sz n ds))) :
  ∃ ad c us,v = .slice ad n c/\n<=c/\RdL M ds us/\us.length = n * sz/\n<=lim/\(0 < n->ad.isSome = true)/\∀ i u,us[i]? = some u->∀ w',St w0 M (lst.map Prod.snd++Γ0) w'->w'.cell? (adr ad i) = some u:=by
 have ofRd : ∀ v,Rd M (.sl n sz ds) v->∃ ad c us,v = .slice ad n c/\n<=c/\RdL M ds us/\us.length = n * sz/\n<=lim/\(0 < n->ad.isSome = true)/\∀ i u,us[i]? = some u->∀ w',St w0 M (lst.map Prod.snd++Γ0) w'->w'.cell? (adr ad i) = some u:=by
  intro v hv
  simp only [Rd] at hv
  obtain ⟨ad,c,rfl,h2,_,h4,h5,h6,h7⟩:=hv
  obtain ⟨us,h8,h9⟩:=cells_of (M:=M) (a:=ad) (q:=0) (ds:=ds) fun j e hj=>by simpa using RdC.get ds 0 h7 j e hj
  exact ⟨ad,c,us,rfl,h2,h8,by rw [h8.1];exact h5,h4,h6,fun i u hi w' hw'=>hw'.cell (by have:=h9 i u hi;rwa [Nat.zero_add] at this)⟩
 rcases k with rfl | ⟨rfl,rfl,rfl⟩ | ⟨b,rfl,k⟩
 ·exact ofRd v hs
 ·obtain rfl : v = .slice none 0 0:=hs
  exact ofRd _ Rd.nilS
 ·have hb : ρ b = some v:=hs.1
  rcases k with ⟨e,k⟩ | k
  ·obtain ⟨ad,c,us,h1,h2,h3,h4,h5⟩:=h.ob b _ k
   rw [h1] at hb
   simp only [Option.some.injEq] at hb
   subst hb
   have hm : As.acc (.slice ad n c) e sz n us∈lst.map Prod.snd++Γ0:=List.mem_append_left _ (List.mem_map_of_mem h2)
   obtain ⟨ad',c',e3,hc⟩:=acc_slice (h.st.all _ hm)
   simp only [Value.slice.injEq] at e3
   obtain ⟨rfl,_,rfl⟩:=e3
   refine ⟨ad,c,us,rfl,hc,h3,h4,h5,fun hn=>?_,fun i u hi w' hw'=>(hw'.acc_cell hm hi).2⟩
   obtain ⟨⟨_,hh⟩,_⟩:=h.st.all _ hm
   rcases hh with ⟨e4,e5⟩ | ⟨b',cap,cur,e4,_⟩
   ·simp only [Value.slice.injEq] at e4
    omega
   ·simp only [Value.slice.injEq] at e4
    rw [e4.1]
    rfl
  ·obtain ⟨v',h1,h2⟩:=h.ob b _ k
   rw [h1] at hb
   simp only [Option.some.injEq] at hb
   subst hb
   exact ofRd _ h2
end
section
variable {Is : Sig->St'->St'->Prop} {P : Program} {tb : Tb} {n : Nat} {w0 : World} {Γ0 : List As} {fr : Fr} {ρ : Nat->Option Value} {M : Mem} {lst : List (Nat×As)} {a : Act} {w : World} {fs fo : List Nat} {o : Out} {Q : Exit->Act->World->Prop} {d : Nat} {ty : TypeId} {pos : String} {af : Array Edge} {g : Option (Nat×Bool)}
theorem known {x : Operand} {s : S} (hs : s = su\/∃ v,EvOk a x v/\SR M ρ s v) (h : s ≠ su) : ∃ v,EvOk a x v/\SR M ρ s v:=hs.resolve_left h
theorem SBs.get : ∀ {l : List S} {vs : List Value} {i : Nat} {s : S},SBs M ρ l vs->l[i]? = some s->∃ v,vs[i]? = some v/\SB M ρ s v
 | c::cs,u::us,0,_,h,hc=>by
  simp only [List.getElem?_cons_zero,Option.some.injEq] at hc
  subst hc
  exact ⟨u,rfl,h.1⟩
 | _::cs,_::us,i+1,_,h,hc=>by
  obtain ⟨u,h1,h2⟩:=SBs.get (i:=i) h.2 (by simpa using hc)
  exact ⟨u,by simpa using h1,h2⟩
 | [],[],_,_,_,hc=>by simp at hc
 | [],_::_,_,_,h,_=>h.elim
 | _::_,[],_,_,h,_=>h.elim
theorem SB.toSR {s : S} {v : Value} (h : SB M ρ s v) : SR M ρ s v:=by
 cases s with
 | t l=>exact h.elim
 | c _=>exact h
 | a _ _=>exact h
 | g _=>exact h
 | r _ _ _=>exact h
variable (h1 : a.tmps.size = n) (h2 : a.defers = []) (h : Rel w0 Γ0 fr ρ M lst (tv a) w) (hd : d < n)
theorem ok_un (h1 : a.tmps.size = n) (h2 : a.defers = []) (h : Rel w0 Γ0 fr ρ M lst (tv a) w) (hd : d < n) {op : UnOp} {x : Operand} {t : TypeId} (hr : R1 Is fr (evP x fun a=>unP P op t a) fs fo o) : (⟨some d,.unOp op t x,ty,pos,af,g⟩ : Oper).wp P a w (Done n w0 Γ0 ρ M ((fr.puts (some d) o.v).turn o.ob)) Q:=by
 obtain ⟨s,fs',hr,hs⟩:=ev_R1 h hr
 unfold unP at hr
 split at hr
 ·obtain ⟨z,e,hr⟩:=boo_R1 hr
  exact op_v h1 h2 h hd rfl (ret_R1 hr) rfl (Y.not (ev_v hs e).evL)
 ·split at hr
  ·obtain ⟨z,e,hr⟩:=int_R1 hr
   exact op_v h1 h2 h hd rfl (ret_R1 hr.2) rfl (Y.neg (ev_v hs e).evL hr.1)
  ·exact hr.elim
 ·split at hr
  ·rename_i k hk
   obtain ⟨z,e,hr⟩:=kR1 hr
   refine op_k h1 h2 h hd hr ?_
   simp only [execOp,(ev_v hs e).eval]
   cases hsg : k.signed <;> simp [Op.unary,hsg,intBits_xor]
  ·exact hr.elim
 ·exact hr.elim
theorem ok_extract (h1 : a.tmps.size = n) (h2 : a.defers = []) (h : Rel w0 Γ0 fr ρ M lst (tv a) w) (hd : d < n) {x : Operand} {i : Nat} (hr : R1 Is fr (evP x fun s=>(match s with
   | .t l=>(match l[i]? with
    | some v=>retP v
    | none=>.no)
   | _=>.no)) fs fo o) : (⟨some d,.extract x i,ty,pos,af,g⟩ : Oper).wp P a w (Done n w0 Γ0 ρ M ((fr.puts (some d) o.v).turn o.ob)) Q:=by
 obtain ⟨s,fs',hr,hs⟩:=ev_R1 h hr
 split at hr
 ·rename_i l
  obtain ⟨v,hv,vs,rfl,hvs⟩:=known hs (by unfold su;simp)
  split at hr
  ·rename_i s' hi
   obtain rfl:=ret_R1 hr
   obtain ⟨u,h3,h4⟩:=SBs.get hvs hi
   exact op_quiet h1 h2 h rfl hd rfl rfl h4.toSR (Y.extract hv.evL h3)
  ·exact hr.elim
 ·exact hr.elim
theorem ok_field (h1 : a.tmps.size = n) (h2 : a.defers = []) (h : Rel w0 Γ0 fr ρ M lst (tv a) w) (hd : d < n) {x : Operand} {t i : Nat} (hr : R1 Is fr (evP x fun s=>fieldP P t s i) fs fo o) : (⟨some d,.fieldAddr t x i,ty,pos,af,g⟩ : Oper).wp P a w (Done n w0 Γ0 ρ M ((fr.puts (some d) o.v).turn o.ob)) Q:=by
 obtain ⟨s,fs',hr,hs⟩:=ev_R1 h hr
 unfold fieldP at hr
 split at hr
 ·exact hr.elim
 ·rename_i off ft hf
  have hfB:=fieldT_spec hf
  split at hr
  ·rename_i m ds q
   obtain rfl:=ret_R1 hr
   obtain ⟨v,hv,hl,ad,q',rfl,hseen⟩:=known hs (by unfold su;simp)
   exact op_quiet h1 h2 h rfl hd rfl rfl ⟨hl,ad,q',by rw [Nat.add_assoc],hseen⟩ (Y.field hv.evL hfB)
  ·obtain rfl:=ret_R1 hr
   obtain ⟨v,hv,k,hk,rfl⟩:=known hs (by unfold su;simp)
   exact op_quiet h1 h2 h rfl hd rfl rfl ⟨k,hk,rfl⟩ (Y.field hv.evL hfB)
  ·obtain rfl:=ret_R1 hr
   obtain ⟨v,hv,ad,m,c,hk,hkm,rfl⟩:=known hs (by unfold su;simp)
   exact op_quiet h1 h2 h rfl hd rfl rfl ⟨ad,m,c,hk,hkm,by rw [Nat.add_assoc]⟩ (Y.field hv.evL hfB)
  ·obtain rfl:=ret_R1 hr
   obtain ⟨v,hv,k,hk,rfl⟩:=known hs (by unfold su;simp)
   exact op_quiet h1 h2 h rfl hd rfl rfl ⟨k,hk,rfl⟩ (Y.field hv.evL hfB)
  ·exact hr.elim
theorem seen_el {ad : Option Addr} {nn c sz : Nat} {cs : List D} (hv : Rd M (.sl nn sz cs) (.slice ad nn c)) {k : Nat} (hk : k < nn) : (el cs sz k).length = sz/\Seen M ad (k * sz) (el cs sz k)/\ad.isSome = true:=by
 have hv':=hv
 simp only [Rd] at hv
 obtain ⟨ad',c',e,h2,_,h4,h5,h6,h7⟩:=hv
 simp only [Value.slice.injEq] at e
 obtain ⟨rfl,_,rfl⟩:=e
 refine ⟨el_len h5 hk,fun i x hi=>?_,h6 Q0⟩
 have hi' : cs[k * sz+i]? = some x:=by
  unfold el at hi
  rw [List.getElem?_take] at hi
  split at hi
  ·simpa using hi
  ·cases hi
 have:=RdC.get cs 0 h7 _ x hi'
 rwa [Nat.zero_add] at this
theorem pick_R1 : ∀ (m j : Nat) {z : Int} {k : Nat->Prg} {fs fo : List Nat} {o : Out},R1 Is fr (pickP m j z k) fs fo o->∃ i : Nat,z = i/\R1 Is fr (k i) fs fo o
 | 0,_,_,_,_,_,_,h=>h.elim
 | m+1,j,z,k,fs,fo,o,h=>by
  rcases h with ⟨h1,h2⟩ | ⟨_,h2⟩
  ·exact ⟨j,of_decide_eq_true h1,h2⟩
  ·exact pick_R1 m (j+1) h2
theorem arrT_spec {t m e sz : Nat} (h : arrT P t = some (m,e,sz)) : arrB P t m e sz = true/\0 < sz/\m<=1000000:=by
 unfold arrT at h
 unfold arrB
 split at h
 ·rename_i m' e' hu
  split at h
  ·rename_i sz' hs
   split at h
   ·rename_i hb
    simp only [Bool.and_eq_true] at hb
    simp only [Option.some.injEq,Prod.mk.injEq] at h
    obtain ⟨rfl,rfl,rfl⟩:=h
    rw [hu,szT_spec hs,hb.2.1]
    exact ⟨Q2,by simpa [Nat.blt_eq] using hb.1,by simpa [Nat.ble_eq] using hb.2.2⟩
   ·cases h
  ·cases h
 ·cases h
theorem base_R1 {x : Operand} {s : S} {k : Nat->Nat->Prg} (hs : s = su\/∃ v,EvOk a x v/\SR M ρ s v) (hr : R1 Is fr (baseP s k) fs fo o) : ∃ b q,R1 Is fr (k b q) fs fo o/\∃ v,EvOk a x v/\∃ kk,ρ b = some (ptr kk)/\v = .pointer (some (adr (some ⟨kk,0,none⟩) q)):=by
 unfold baseP at hr
 split at hr
 ·rename_i b q
  obtain ⟨v,hv,k,hk,rfl⟩:=known hs (by unfold su;simp)
  exact ⟨b,q,hr,_,hv,k,hk,rfl⟩
 ·rename_i b q
  obtain ⟨v,hv,k,hk,rfl⟩:=known hs (by unfold su;simp)
  exact ⟨b,q,hr,_,hv,k,hk,rfl⟩
 ·exact hr.elim
theorem ok_index (h1 : a.tmps.size = n) (h2 : a.defers = []) (h : Rel w0 Γ0 fr ρ M lst (tv a) w) (hd : d < n) {x i : Operand} {t : Nat} (hr : R1 Is fr (evP x fun s=>evP i fun z=>indexP P t s z) fs fo o) : (⟨some d,.indexAddr t x i,ty,pos,af,g⟩ : Oper).wp P a w (Done n w0 Γ0 ρ M ((fr.puts (some d) o.v).turn o.ob)) Q:=by
 obtain ⟨s,fs1,hr,hs⟩:=ev_R1 h hr
 obtain ⟨si,fs2,hr,hsi⟩:=ev_R1 h hr
 unfold indexP at hr
 split at hr
 ·split at hr
  ·rename_i m e sz hel
   obtain ⟨b,q,hr,v,hv,k,hk,rfl⟩:=base_R1 hs hr
   obtain ⟨z,ez,hr⟩:=int_R1 hr
   have hz:=ev_v hsi ez
   obtain ⟨hck,hr⟩:=hr
   obtain rfl:=ret_R1 hr
   exact op_quiet h1 h2 h rfl hd rfl rfl ⟨k,hk,rfl⟩ (Y.indexArr z.toNat hv.evL hz.evL Q0 Q0 (arrT_spec hel).1)
  ·exact hr.elim
 ·rename_i e sz hel
  have hsl:=elT_spec hel
  split at hr
  ·rename_i y
   obtain ⟨z,ez,hr⟩:=int_R1 hr
   have hz:=ev_v hsi ez
   obtain ⟨m,cs,rfl,hck,hr⟩:=hr
   obtain rfl:=ret_R1 hr
   obtain ⟨v,hv,hrd⟩:=known hs (by unfold su;simp)
   have hrd' : Rd M (.sl m sz cs) v:=hrd
   obtain ⟨ad,c,rfl,_⟩:=hrd'.slice
   obtain ⟨h3,h4,h5⟩:=seen_el hrd' (k:=z.toNat) Q0
   exact op_quiet h1 h2 h rfl hd rfl rfl ⟨h3,ad,z.toNat * sz,by rw [Nat.add_zero],h4⟩ (Y.index z.toNat hv.evL hz.evL Q0 Q0 hsl fun _ _=>h5)
  ·rename_i b _
   obtain ⟨z,ez,hr⟩:=int_R1 hr
   have hz:=ev_v hsi ez
   obtain ⟨v,hv,hb⟩:=known hs (by unfold su;simp)
   have hbv : ρ b = some v:=hb.1
   change R1 Is fr (match fr.ob b with | some (.w _ sz' n _)=>_ | some (.s sz' n ds)=>_ | some (.v _ sz' n _)=>_ | _=>_) _ _ _ at hr
   split at hr
   ·rename_i e' sz' m ds hob
    split at hr
    ·rename_i hbe
     have e2:=Nat.eq_of_beq_eq_true hbe
     subst e2
     obtain ⟨hck,hr⟩:=hr
     obtain rfl:=ret_R1 hr
     obtain ⟨ad,c,us,h3,h4,h5,h6,h7,h8,h9⟩:=sli_val h (sz:=sz') (n:=m) (ds:=ds) (s:=.c (.w b)) hb (.inr (.inr ⟨b,rfl,.inl ⟨e',hob⟩⟩))
     subst h3
     exact op_quiet h1 h2 h rfl hd rfl rfl ⟨ad,m,c,hbv,Q0,by rw [Nat.add_zero]⟩ (Y.index z.toNat hv.evL hz.evL Q0 Q0 hsl fun _ _=>h8 Q0)
    ·exact hr.elim
   ·rename_i sz' m ds hob
    split at hr
    ·rename_i hbe
     have e2:=Nat.eq_of_beq_eq_true hbe
     subst e2
     obtain ⟨hck,hr⟩:=hr
     obtain rfl:=ret_R1 hr
     obtain ⟨v',h3,h4⟩:=h.ob b _ hob
     rw [hbv] at h3
     simp only [Option.some.injEq] at h3
     subst h3
     obtain ⟨ad,c,rfl,_⟩:=h4.slice
     obtain ⟨h5,h6,h7⟩:=seen_el h4 (k:=z.toNat) Q0
     exact op_quiet h1 h2 h rfl hd rfl rfl ⟨h5,ad,z.toNat * sz',by rw [Nat.add_zero],h6⟩ (Y.index z.toNat hv.evL hz.evL Q0 Q0 hsl fun _ _=>h7)
    ·exact hr.elim
   ·rename_i e' sz' m cs hob
    split at hr
    ·rename_i hbe
     have e2:=Nat.eq_of_beq_eq_true hbe
     subst e2
     obtain ⟨hck,hr⟩:=hr
     obtain ⟨i',ei,hr⟩:=pick_R1 m 0 hr
     obtain rfl:=ret_R1 hr
     obtain ⟨ad,c,us,h3,h4,h5,h6,h7⟩:=h.ob b _ hob
     rw [hbv] at h3
     simp only [Option.some.injEq] at h3
     subst h3
     have h8:=(acc_at h h4).2
     exact op_quiet h1 h2 h rfl hd rfl rfl ⟨ad,m,c,hbv,Q0,by rw [Nat.add_zero]⟩ (Y.index i' hv.evL hz.evL Q0 Q0 hsl fun _ _=>h8 Q0)
    ·exact hr.elim
   ·exact hr.elim
  ·rename_i b q sz' l m _
   obtain ⟨z,ez,hr⟩:=int_R1 hr
   have hz:=ev_v hsi ez
   obtain ⟨v,hv,ad,c,rfl,hmc,hb⟩:=known hs (by unfold su;simp)
   split at hr
   ·rename_i hbe
    have e2:=Nat.eq_of_beq_eq_true hbe
    subst e2
    change R1 Is fr (match fr.ob b with | some (.w _ _ _ _)=>_ | some (.a _ _ _)=>_ | some (.b _ _)=>_ | _=>_) _ _ _ at hr
    have blk : ∀ k',ρ b = some (ptr k')->0<=z/\z < (m : Int)->∃ k,ρ b = some (ptr k)/\ad = some (adr (some ⟨k,0,none⟩) (q+l * sz')):=fun k' hk' hck=>by
     rcases hb with ⟨k,hk,hb⟩ | ⟨a',N,C,hk,_⟩
     ·exact ⟨k,hk,hb Q0⟩
     ·rw [hk'] at hk;cases hk
    split at hr
    ·rename_i e' s2 N' ds' hob
     obtain ⟨hck,hr⟩:=hr
     obtain rfl:=ret_R1 hr
     rcases hb with ⟨k,hk,hb⟩ | ⟨a',N,C,hk,hq0,hl,hc,hb⟩
     ·obtain ⟨ad',c',us,h3,_⟩:=h.ob b _ hob
      rw [hk] at h3;cases h3
     ·have hb:=hb Q0
      subst hb
      refine op_quiet h1 h2 h rfl hd rfl rfl ⟨a',N,C,hk,Q0,rfl⟩ ?_
      have:=Y.index (P:=P) (w0:=w0) (L:=Lf a) (M:=M) (Γ:=lst.map Prod.snd++Γ0) (d:=some d) (ty:=ty) (pos:=pos) (af:=af) (g:=g) z.toNat hv.evL hz.evL Q0 Q0 hsl fun _ _=>rfl
      rw [<-adr_adr] at this
      rw [Nat.add_zero,Nat.add_mul]
      exact this
    ·rename_i e' N' ds' hob
     obtain ⟨hck,hr⟩:=hr
     obtain rfl:=ret_R1 hr
     obtain ⟨k',us,h3,_⟩:=h.ob b _ hob
     obtain ⟨k,hk,rfl⟩:=blk k' h3 hck
     refine op_quiet h1 h2 h rfl hd rfl rfl ⟨k,hk,rfl⟩ ?_
     have:=Y.index (P:=P) (w0:=w0) (L:=Lf a) (M:=M) (Γ:=lst.map Prod.snd++Γ0) (d:=some d) (ty:=ty) (pos:=pos) (af:=af) (g:=g) z.toNat hv.evL hz.evL Q0 Q0 hsl fun _ _=>rfl
     rw [<-adr_adr] at this
     rw [Nat.add_mul,<-Nat.add_assoc]
     exact this
    ·rename_i e' cs' hob
     obtain ⟨hck,hr⟩:=hr
     obtain rfl:=ret_R1 hr
     obtain ⟨k',us,h3,_⟩:=h.ob b _ hob
     obtain ⟨k,hk,rfl⟩:=blk k' h3 hck
     refine op_quiet h1 h2 h rfl hd rfl rfl ⟨k,hk,rfl⟩ ?_
     have:=Y.index (P:=P) (w0:=w0) (L:=Lf a) (M:=M) (Γ:=lst.map Prod.snd++Γ0) (d:=some d) (ty:=ty) (pos:=pos) (af:=af) (g:=g) z.toNat hv.evL hz.evL Q0 Q0 hsl fun _ _=>rfl
     rw [<-adr_adr] at this
     rw [Nat.add_mul,<-Nat.add_assoc]
     exact this
    ·exact hr.elim
   ·exact hr.elim
  ·exact hr.elim
theorem ok_nilCheck (h1 : a.tmps.size = n) (h2 : a.defers = []) (h : Rel w0 Γ0 fr ρ M lst (tv a) w) (hd : d < n) {x : Operand} (hr : R1 Is fr (evP x fun s=>(match s with
   | .c (.p b o)=>retP (.c (.p b o))
   | .r n ds o=>retP (.r n ds o)
   | .c (.q b sz k j)=>retP (.c (.q b sz k j))
   | .c (.e b i)=>retP (.c (.e b i))
   | _=>.no)) fs fo o) : (⟨some d,.nilCheck x,ty,pos,af,g⟩ : Oper).wp P a w (Done n w0 Γ0 ρ M ((fr.puts (some d) o.v).turn o.ob)) Q:=by
 obtain ⟨s,fs1,hr,hs⟩:=ev_R1 h hr
 split at hr
 ·obtain rfl:=ret_R1 hr
  obtain ⟨v,hv,k,hk,rfl⟩:=known hs (by unfold su;simp)
  exact op_quiet h1 h2 h rfl hd rfl rfl ⟨k,hk,rfl⟩ (Y.nilCheck hv.evL)
 ·obtain rfl:=ret_R1 hr
  obtain ⟨v,hv,hl,ad,q',rfl,hseen⟩:=known hs (by unfold su;simp)
  exact op_quiet h1 h2 h rfl hd rfl rfl ⟨hl,ad,q',rfl,hseen⟩ (Y.nilCheck hv.evL)
 ·obtain rfl:=ret_R1 hr
  obtain ⟨v,hv,ad,m,c,hk,hkm,rfl⟩:=known hs (by unfold su;simp)
  exact op_quiet h1 h2 h rfl hd rfl rfl ⟨ad,m,c,hk,hkm,rfl⟩ (Y.nilCheck hv.evL)
 ·obtain rfl:=ret_R1 hr
  obtain ⟨v,hv,k,hk,rfl⟩:=known hs (by unfold su;simp)
  exact op_quiet h1 h2 h rfl hd rfl rfl ⟨k,hk,rfl⟩ (Y.nilCheck hv.evL)
 ·exact hr.elim
theorem ok_arrayAt (h1 : a.tmps.size = n) (h2 : a.defers = []) (h : Rel w0 Γ0 fr ρ M lst (tv a) w) (hd : d < n) {t : TypeId} {x : Operand} (hr : R1 Is fr (evP x fun s=>arrayAtP P t s) fs fo o) : (⟨some d,.sliceToArrayPointer t x,ty,pos,af,g⟩ : Oper).wp P a w (Done n w0 Γ0 ρ M ((fr.puts (some d) o.v).turn o.ob)) Q:=by
 obtain ⟨s,fs1,hr,hs⟩:=ev_R1 h hr
 unfold arrayAtP at hr
 split at hr
 ·rename_i N e sz b q sz' l m hel
  obtain ⟨v,hv,ad,c,rfl,hmc,hb⟩:=known hs (by unfold su;simp)
  obtain ⟨ha,hsz,_⟩:=arrT_spec hel
  obtain ⟨hu,_,hN⟩:=arrB_spec ha
  have fin : ∀ k',ρ b = some (ptr k')->R1 Is fr (ckP (N<=m) (retP (.c (.p b (q+l * sz))))) fs1 (b::fo) o->sz' = sz->(⟨some d,.sliceToArrayPointer t x,ty,pos,af,g⟩ : Oper).wp P a w (Done n w0 Γ0 ρ M ((fr.puts (some d) o.v).turn o.ob)) Q:=fun k' hk' hr e2=>by
   obtain ⟨hck,hr⟩:=hr
   obtain rfl:=ret_R1 hr
   rcases hb with ⟨k,hk,hb⟩ | ⟨a',N',C,hk,_⟩
   ·have hb:=hb Q0
    rw [e2] at hb
    subst hb
    refine op_value h1 h2 rfl hd rfl (Sub.refl M) (Ext.refl ρ) h (show SR M ρ (.c (.p b (q+l * sz))) _ from ⟨k,hk,rfl⟩) ?_
    simp [execOp,hv.eval,Instr.arrayAt,run_underlying hu,Nat.not_lt.2 hck]
   ·rw [hk'] at hk;cases hk
  split at hr
  ·rename_i hbe
   have e2:=Nat.eq_of_beq_eq_true hbe
   change R1 Is fr (match fr.ob b with | some (.a _ _ _)=>_ | some (.b _ _)=>_ | _=>_) _ _ _ at hr
   split at hr
   ·rename_i e' N' ds' hob
    obtain ⟨k',us,h3,_⟩:=h.ob b _ hob
    exact fin k' h3 hr e2
   ·rename_i e' cs' hob
    obtain ⟨k',us,h3,_⟩:=h.ob b _ hob
    exact fin k' h3 hr e2
   ·exact hr.elim
  ·exact hr.elim
 ·exact hr.elim
theorem ok_len (h1 : a.tmps.size = n) (h2 : a.defers = []) (h : Rel w0 Γ0 fr ρ M lst (tv a) w) (hd : d < n) {x : Operand} {t : Nat} (hr : R1 Is fr (evP x fun s=>lenP P t s) fs fo o) : (⟨some d,.call ⟨.builtin .len,#[x],#[t]⟩,ty,pos,af,g⟩ : Oper).wp P a w (Done n w0 Γ0 ρ M ((fr.puts (some d) o.v).turn o.ob)) Q:=by
 obtain ⟨s,fs1,hr,hs⟩:=ev_R1 h hr
 unfold lenP at hr
 split at hr
 ·rename_i e hu
  split at hr
  ·rename_i e' sz hel
   have old : ∀ fo,R1 Is fr (sliP sz s fun n _=>rInt (n : Int)) fs1 fo o->(⟨some d,.call ⟨.builtin .len,#[x],#[t]⟩,ty,pos,af,g⟩ : Oper).wp P a w (Done n w0 Γ0 ρ M ((fr.puts (some d) o.v).turn o.ob)) Q:=fun fo hr=>by
    obtain ⟨m,ds,fo',hr,hk⟩:=sli_R1 h hr
    have hne : s ≠ su:=by rcases hk with rfl | ⟨rfl,_⟩ | ⟨b,rfl,_⟩ <;> (unfold su;simp)
    obtain ⟨v,hv,hs⟩:=known hs hne
    obtain ⟨ad,c,us,rfl,_⟩:=sli_val h hs hk
    exact op_v h1 h2 h hd rfl (ret_R1 hr) rfl (Y.len hv.evL hu)
   split at hr
   ·rename_i b
    change R1 Is fr (match fr.ob b with | some (.v _ sz' n _)=>_ | _=>_) _ _ _ at hr
    split at hr
    ·rename_i e2 sz' m cs hob
     split at hr
     ·obtain ⟨v,hv,hb⟩:=known hs (by unfold su;simp)
      obtain ⟨ad,c,us,h3,_⟩:=h.ob b _ hob
      have h4 : ρ b = some v:=hb.1
      rw [h3] at h4
      simp only [Option.some.injEq] at h4
      subst h4
      exact op_v h1 h2 h hd rfl (ret_R1 hr) rfl (Y.len hv.evL hu)
     ·exact hr.elim
    ·exact old _ hr
   ·split at hr
    ·obtain ⟨v,hv,ad,c,rfl,_⟩:=known hs (by unfold su;simp)
     exact op_v h1 h2 h hd rfl (ret_R1 hr) rfl (Y.len hv.evL hu)
    ·exact hr.elim
   ·exact old _ hr
  ·exact hr.elim
 ·rename_i hu
  obtain ⟨z,e,hr⟩:=str_R1 hr
  exact op_v h1 h2 h hd rfl (ret_R1 hr) rfl (fun n ac w ha _=>by simp [execOp,resolve,invoke,Go.builtin,Builtin.len_,ha.ev (ev_v hs e).evL,run_underlying hu,goInt])
 ·exact hr.elim
theorem fold_bytes : ∀ (zs : List Int) (r : ByteArray),zs.foldl (fun r n=>r.push (UInt8.ofNat n.toNat)) r = ⟨r.data++(zs.map fun z=>UInt8.ofNat z.toNat).toArray⟩
 | [],r=>by simp
 | z::zs,r=>by
  rw [List.foldl_cons,fold_bytes zs,List.map_cons]
  congr 1
  rw [<-Array.toList_inj]
  simp [ByteArray.push]
theorem ok_conv (h1 : a.tmps.size = n) (h2 : a.defers = []) (h : Rel w0 Γ0 fr ρ M lst (tv a) w) (hd : d < n) {s t : TypeId} {x : Operand} (hr : R1 Is fr (evP x fun a=>convP P s t a) fs fo o) : (⟨some d,.convert s t x,ty,pos,af,g⟩ : Oper).wp P a w (Done n w0 Γ0 ρ M ((fr.puts (some d) o.v).turn o.ob)) Q:=by
 obtain ⟨sx,fs1,hr,hs⟩:=ev_R1 h hr
 unfold convP at hr
 split at hr
 ·rename_i k k' hk hk'
  obtain ⟨z,e1,hr⟩:=kR1 hr
  exact op_k h1 h2 h hd hr (by simp [execOp,(ev_v hs e1).eval,Go.convert,run_underlying (kindT_spec hk),run_underlying (kindT_spec hk'),Conv.intToInt])
 ·split at hr
  ·rename_i ht
   split at hr
   ·rename_i e hsl
    split at hr
    ·rename_i he
     obtain ⟨m,ds,fo',hr,hk⟩:=sli_R1 h hr
     obtain ⟨zs,hb,hr⟩:=hr
     have hne : sx ≠ su:=by rcases hk with rfl | ⟨rfl,_⟩ | ⟨b,rfl,_⟩ <;> (unfold su;simp)
     obtain ⟨v,hv,hs⟩:=known hs hne
     obtain ⟨ad,c,us,rfl,hc,hrd,hlen,hlim,hpos,hcell⟩:=sli_val h hs hk
     obtain rfl:=intsOf_spec hb
     have hus:=bytes_rdl hrd
     obtain rfl:=ret_R1 hr
     refine op_value h1 h2 rfl hd rfl (Sub.refl M) (Ext.refl ρ) h (v:=.string (strB zs)) (show Rd M (.v _) _ by unfold Rd;exact ⟨rfl,rfl⟩) ?_
     have r1:=run_convert_bytes_string (P:=P) w s t e ad m c hsl (kindT_spec he) ht
     cases ad with
     | none =>
      have hm : m = 0:=by
       rcases Nat.eq_zero_or_pos m with h0 | h0
       ·exact h0
       ·have:=hpos h0;cases this
      have hz : zs = []:=List.eq_nil_of_length_eq_zero (by have:=hlen;rw [hus] at this;simpa [hm] using this)
      subst hz
      simp only [execOp,hv.eval]
      simp only [Sem.run_bind,r1]
      simp [Conv.bytesToString,Result.andThen]
      rfl
     | some ad =>
      have hl : us.length = m:=by rw [hlen,Nat.mul_one]
      have r3:=run_loadCells_list (P:=P) w ad us (fun j v hj=>by
       have:=hcell j v hj w h.st
       rwa [show adr (some ad) j = ad.add j from rfl] at this)
      rw [hl,hus] at r3
      have r2:=run_bytesToString (P:=P) w ad m c zs r3
      simp only [execOp,hv.eval]
      simp only [Sem.run_bind,r1,r2,Result.andThen]
      rw [fold_bytes]
      simp [strB]
    ·exact hr.elim
   ·rename_i hsl
    obtain ⟨z,e1,hr⟩:=str_R1 hr
    obtain rfl:=ret_R1 hr
    exact op_value h1 h2 rfl hd rfl (Sub.refl M) (Ext.refl ρ) h (v:=.string z) (show Rd M (.v _) _ by unfold Rd;exact ⟨rfl,rfl⟩) (by simp [execOp,(ev_v hs e1).eval,Go.convert,run_underlying hsl,run_underlying ht])
   ·exact hr.elim
  ·exact hr.elim
theorem oneB_spec {t : TypeId} (h : oneB P t = true) : szT P t = some 1:=by
 unfold oneB at h
 split at h
 ·rename_i m hm
  rw [hm,Nat.eq_of_beq_eq_true h]
 ·cases h
theorem byteAt_get {s : ByteArray} {i : Nat} (h : i < s.size) : ∃ b : UInt8,s[i]? = some b/\byteAt s i = (b.toNat : Int):=by
 refine ⟨s[i],by simp [h],?_⟩
 unfold byteAt
 have h' : i < s.data.toList.length:=by simpa using h
 rw [List.getD_eq_getElem?_getD,List.getElem?_eq_getElem h']
 rfl
theorem ok_indexV (h1 : a.tmps.size = n) (h2 : a.defers = []) (h : Rel w0 Γ0 fr ρ M lst (tv a) w) (hd : d < n) {t : TypeId} {x i : Operand} (hr : R1 Is fr (evP x fun a=>evP i fun z=>indexVP P t a z) fs fo o) : (⟨some d,.index t x i,ty,pos,af,g⟩ : Oper).wp P a w (Done n w0 Γ0 ρ M ((fr.puts (some d) o.v).turn o.ob)) Q:=by
 obtain ⟨sx,fs1,hr1,hs⟩:=ev_R1 h hr
 clear hr
 obtain ⟨si,fs2,hr,hsi⟩:=ev_R1 h hr1
 clear hr1
 unfold indexVP at hr
 split at hr
 ·rename_i hu
  obtain ⟨b,e1,hr⟩:=str_R1 hr
  obtain ⟨z,e2,hr⟩:=int_R1 hr
  obtain ⟨⟨hz0,hz1⟩,hr⟩:=hr
  obtain ⟨c,hc,hb⟩:=byteAt_get (s:=b) (i:=z.toNat) Q0
  rw [hb] at hr
  exact op_k h1 h2 h hd hr (by simp [execOp,(ev_v hs e1).eval,(ev_v hsi e2).eval,Instr.index,asIntOf,run_underlying hu,hz0,hc])
 ·rename_i m e hu
  split at hr
  ·rename_i m' ds
   split at hr
   ·rename_i hb
    simp only [Bool.and_eq_true] at hb
    have em:=Nat.eq_of_beq_eq_true hb.1.1
    subst em
    obtain ⟨z,e2,hr⟩:=int_R1 hr
    obtain ⟨⟨hz0,hz1⟩,hr⟩:=hr
    obtain ⟨v,hv,hl,us,rfl,hrd⟩:=known hs (by unfold su;simp)
    obtain rfl:=ret_R1 hr
    obtain ⟨u,hu1,hu2⟩:=RdL.get hrd (cell_get (ds:=ds) (i:=z.toNat) Q0)
    refine op_value h1 h2 rfl hd rfl (Sub.refl M) (Ext.refl ρ) h (v:=u) hu2 ?_
    have hp : (part e us.toArray z.toNat).run P w = .ok u w:=by
     unfold part
     simp only [Sem.run_bind,run_flat hb.1.2,Result.andThen]
     simp [hu1]
    simp [execOp,hv.eval,(ev_v hsi e2).eval,Instr.index,asIntOf,run_underlying hu,hz0,hz1,run_sizeB (szT_spec (oneB_spec hb.2)),hp]
   ·exact hr.elim
  ·exact hr.elim
 ·exact hr.elim
theorem ok_min (h1 : a.tmps.size = n) (h2 : a.defers = []) (h : Rel w0 Γ0 fr ρ M lst (tv a) w) (hd : d < n) {x y : Operand} {ts : Array TypeId} (hr : R1 Is fr (evP x fun a=>evP y fun b=>minmaxP false a b) fs fo o) : (⟨some d,.call ⟨.builtin .min,#[x,y],ts⟩,ty,pos,af,g⟩ : Oper).wp P a w (Done n w0 Γ0 ρ M ((fr.puts (some d) o.v).turn o.ob)) Q:=by
 obtain ⟨s,fs1,hr,hs⟩:=ev_R1 h hr
 obtain ⟨s',fs2,hr,hs'⟩:=ev_R1 h hr
 obtain ⟨p,e1,hr⟩:=int_R1 hr
 obtain ⟨q,e2,hr⟩:=int_R1 hr
 exact op_v h1 h2 h hd rfl (ret_R1 hr) rfl (Y.min2 (ev_v hs e1).evL (ev_v hs' e2).evL)
theorem ok_max (h1 : a.tmps.size = n) (h2 : a.defers = []) (h : Rel w0 Γ0 fr ρ M lst (tv a) w) (hd : d < n) {x y : Operand} {ts : Array TypeId} (hr : R1 Is fr (evP x fun a=>evP y fun b=>minmaxP true a b) fs fo o) : (⟨some d,.call ⟨.builtin .max,#[x,y],ts⟩,ty,pos,af,g⟩ : Oper).wp P a w (Done n w0 Γ0 ρ M ((fr.puts (some d) o.v).turn o.ob)) Q:=by
 obtain ⟨s,fs1,hr,hs⟩:=ev_R1 h hr
 obtain ⟨s',fs2,hr,hs'⟩:=ev_R1 h hr
 obtain ⟨p,e1,hr⟩:=int_R1 hr
 obtain ⟨q,e2,hr⟩:=int_R1 hr
 exact op_v h1 h2 h hd rfl (ret_R1 hr) rfl (Y.max2 (ev_v hs e1).evL (ev_v hs' e2).evL)
def EvsOk (a : Act) (M : Mem) (ρ : Nat->Option Value) : List Operand->List S->Prop
 | [],[]=>True
 | x::xs,s::ss=>(s = su\/∃ v,EvOk a x v/\SR M ρ s v)/\EvsOk a M ρ xs ss
 | _,_=>False
theorem evs_R1 (h : Rel w0 Γ0 fr ρ M lst (tv a) w) : ∀ (xs : List Operand) {k : List S->Prg} {fs fo : List Nat} {o : Out},R1 Is fr (evsP xs k) fs fo o->∃ ss fs',R1 Is fr (k ss) fs' fo o/\EvsOk a M ρ xs ss
 | [],k,fs,fo,o,hr=>⟨[],fs,hr,trivial⟩
 | x::xs,k,fs,fo,o,hr=>by
  obtain ⟨s,fs1,hr,hs⟩:=ev_R1 h hr
  obtain ⟨ss,fs2,hr,hss⟩:=evs_R1 h xs hr
  exact ⟨s::ss,fs2,hr,hs,hss⟩
theorem cap_ok : ∀ {xs : List Operand} {ss : List S} {cs : List C},EvsOk a M ρ xs ss->capC ss = some cs->∃ us,evs (Lf a) xs = some us/\CBs M ρ cs us
 | [],[],cs,_,hc=>by
  simp only [capC,Option.some.injEq] at hc
  subst hc
  exact ⟨[],rfl,trivial⟩
 | x::xs,s::ss,cs,he,hc=>by
  have key : ∀ c,s = .c c->(∀ v,SR M ρ s v->CB M ρ c v)->okC c = true->(∃ cs',capC ss = some cs'/\cs = c::cs')->∃ us,evs (Lf a) (x::xs) = some us/\CBs M ρ cs us:=by
   rintro c rfl hcb hok ⟨cs',h3,rfl⟩
   obtain ⟨us,h4,h5⟩:=cap_ok he.2 h3
   obtain ⟨v,hv,hs⟩:=known he.1 (by
    intro e
    unfold su at e
    simp only [S.c.injEq] at e
    subst e
    simp [okC] at hok)
   exact ⟨v::us,by simp [Xe.evs,hv.evL,h4],hcb v hs,h5⟩
  cases s with
  | c c =>
   cases c with
   | f g cs=>simp [capC] at hc
   | _ =>
    simp only [capC] at hc
    split at hc
    ·rename_i cs' hok hcs
     simp only [Option.some.injEq] at hc
     exact key _ rfl (fun v hv=>hv) hok ⟨cs',hcs,hc.symm⟩
    ·cases hc
  | _=>simp [capC] at hc
 | [],_::_,_,he,_=>he.elim
 | _::_,[],_,he,_=>he.elim
theorem ok_fun (h1 : a.tmps.size = n) (h2 : a.defers = []) (h : Rel w0 Γ0 fr ρ M lst (tv a) w) (hd : d < n) {f : FuncId} {cs : Array Operand} {first : Array Operand} (hf : first.toList = []) (hr : R1 Is fr (evsP cs.toList fun xs=>funP f xs) fs fo o) : (⟨some d,.makeFunc (.func f) first cs,ty,pos,af,g⟩ : Oper).wp P a w (Done n w0 Γ0 ρ M ((fr.puts (some d) o.v).turn o.ob)) Q:=by
 obtain ⟨ss,fs1,hr,hss⟩:=evs_R1 h _ hr
 unfold funP at hr
 split at hr
 ·rename_i cs' hc
  obtain rfl:=ret_R1 hr
  obtain ⟨us,h3,h4⟩:=cap_ok hss hc
  have:=Y.makeFunc (P:=P) (w0:=w0) (L:=Lf a) (M:=M) (Γ:=lst.map Prod.snd++Γ0) (d:=some d) (ty:=ty) (pos:=pos) (af:=af) (g:=g) (f:=f) (first:=[]) (cap:=cs.toList) (vs:=[]) (us:=us) rfl h3
  rw [show ([] : List Operand).toArray = first by rw [<-hf,Array.toArray_toList],Array.toArray_toList] at this
  exact op_quiet h1 h2 h rfl hd rfl rfl ⟨us,rfl,h4⟩ this
 ·exact hr.elim
theorem CR.one {c : C} {v : Value} (h : CR M ρ c v) (hc : okC c = true) : v.oneCell' = true:=by
 cases c with
 | d x=>exact Rd.one (show Rd M x v from h)
 | n=>obtain rfl : v = .slice none 0 0:=h;rfl
 | l _=>obtain rfl : v = .slice none 0 0:=h;rfl
 | p b o=>obtain ⟨k,_,rfl⟩:=h;rfl
 | q b sz k j=>obtain ⟨_,_,_,_,_,rfl⟩:=h;rfl
 | w b=>obtain ⟨_,_,_,_,rfl⟩:=h;rfl
 | m b=>obtain ⟨k,_,rfl⟩:=h;rfl
 | f g cs=>obtain ⟨us,rfl,_⟩:=h;rfl
 | z=>simp [okC] at hc
 | u=>simp [okC] at hc
 | e b i=>obtain ⟨k,_,rfl⟩:=h;rfl
 | y b q sz l n=>obtain ⟨_,_,rfl,_⟩:=h;rfl
theorem CRs.one : ∀ {cs : List C} {us : List Value},CRs M ρ cs us->cs.all okC = true->∀ u∈us,u.oneCell' = true
 | [],[],_,_,u,hu=>by simp at hu
 | c::cs,v::us,h,hc,u,hu=>by
  simp only [List.all_cons,Bool.and_eq_true] at hc
  rcases List.mem_cons.1 hu with rfl | hu
  ·exact CR.one h.1 hc.1
  ·exact CRs.one h.2 hc.2 u hu
 | [],_::_,h,_,_,_=>h.elim
 | _::_,[],h,_,_,_=>h.elim
theorem all_data (ds : List D) : (ds.map C.d).all okC = true:=by simp [okC]
theorem cells_val {s : S} {cs : List C} {v : Value} (hc : cellsS s = some cs) (hs : SR M ρ s v) : ∃ us,v.cells = us.toArray/\cellsL v = us/\CRs M ρ cs us/\cs.all okC = true:=by
 unfold cellsS at hc
 split at hc
 ·rename_i c
  split at hc
  ·rename_i hok
   simp only [Option.some.injEq] at hc
   subst hc
   have h1:=CR.one hs hok
   have e:=cells_one h1
   have e2 : cellsL v = [v]:=by
    have:=cellsL_spec v
    rw [e] at this
    exact (congrArg Array.toList this).symm
   exact ⟨[v],e,e2,⟨hs,trivial⟩,by simp [hok]⟩
  ·cases hc
 ·rename_i m ds
  simp only [Option.some.injEq] at hc
  subst hc
  obtain ⟨hl,us,rfl,hr⟩:=hs
  rw [cells_eq hl]
  exact ⟨us,rfl,by simp [cellsL],CRs.data hr,all_data ds⟩
 ·rename_i cs'
  split at hc
  ·rename_i hall
   simp only [Option.some.injEq] at hc
   subst hc
   obtain ⟨us,rfl,hr⟩:=hs
   exact ⟨us,rfl,by simp [cellsL],hr,hall⟩
  ·cases hc
 ·cases hc
theorem setC_ok {cs vs : List C} {us xs : List Value} {o : Nat} (h : CRs M ρ cs us) (k : CRs M ρ vs xs) : CRs M ρ (setC cs o vs) (splice us o xs):=by
 unfold setC splice
 rw [<-CRs.len k]
 exact ((CRs.take o h).app k).app (CRs.drop _ h)
theorem place_R1 (h : Rel w0 Γ0 fr ρ M lst (tv a) w) {t : Nat} {pl : List (Nat×Nat)} : ∀ (ps : List (Nat×Operand)) {cs : List C} {us : List Value} {k : List C->Prg} {fs fo : List Nat} {o : Out},R1 Is fr (placeC P t pl ps cs k) fs fo o->CRs M ρ cs us ->
  ∃ cs' out vs fs',R1 Is fr (k cs') fs' fo o/\pEv (Lf a) ps = some vs/\fillL (pl[·]?) us (vs.map fun p=>(p.1,cellsL p.2)) = some out/\CRs M ρ cs' out
 | [],cs,us,k,fs,fo,o,hr,hc=>⟨cs,us,[],fs,hr,rfl,rfl,hc⟩
 | (i,x)::ps,cs,us,k,fs,fo,o,hr,hc=>by
  unfold placeC at hr
  split at hr
  ·rename_i off m ft hpl hft
   obtain ⟨s,fs1,hr,hs⟩:=ev_R1 h hr
   split at hr
   ·rename_i vs hvs
    split at hr
    ·rename_i hb
     simp only [Bool.and_eq_true] at hb
     have e1:=Nat.eq_of_beq_eq_true hb.1
     have e2 : off+m<=cs.length:=by simpa [Nat.ble_eq] using hb.2
     have hne : s ≠ su:=by rintro rfl;simp [typed,su,cellsS,okC] at hvs
     obtain ⟨v,hv,hs⟩:=known hs hne
     obtain ⟨xs,h3,h4,h5,_⟩:=cells_val hvs (typed_ok hs)
     obtain ⟨cs',out,vs',fs2,hr,h6,h7,h8⟩:=place_R1 h ps hr (setC_ok (o:=off) hc h5)
     refine ⟨cs',out,(i,v)::vs',fs2,hr,by simp [pEv,hv.evL,h6],?_,h8⟩
     simp only [List.map_cons,fillL,hpl]
     rw [h4,if_pos ⟨by rw [CRs.len h5,e1],by rw [CRs.len hc];exact e2⟩]
     exact h7
    ·exact hr.elim
   ·exact hr.elim
  ·exact hr.elim
theorem zC_ok {t : TypeId} {v : Value} {x : C} (hz : zC P t v = some x) : CR M ρ x v:=by
 unfold zC at hz
 split at hz
 ·simp only [Option.some.injEq] at hz
  subst hz
  exact rfl
 ·split at hz
  ·rename_i hone
   simp only [Option.some.injEq] at hz
   subst hz
   show Rd M (.v _) _
   unfold Rd
   exact ⟨rfl,hone⟩
  ·cases hz
theorem zList_ok : ∀ {ts : List TypeId} {vs : List Value} {cs : List C},zList P ts vs = some cs->CRs M ρ cs vs
 | [],[],cs,hz=>by
  simp only [zList,Option.some.injEq] at hz
  subst hz
  exact trivial
 | t::ts,v::vs,cs,hz=>by
  unfold zList at hz
  split at hz
  ·rename_i x ds' h3 h4
   simp only [Option.some.injEq] at hz
   subst hz
   exact ⟨zC_ok h3,zList_ok h4⟩
  ·cases hz
 | [],_::_,_,hz=>by simp [zList] at hz
 | _::_,[],_,hz=>by simp [zList] at hz
theorem zCells_ok {t : TypeId} {cs : List C} (hz : zCells P t = some cs) : ∃ v,zeroB P t = some v/\CRs M ρ cs v.cells.toList:=by
 unfold zCells at hz
 split at hz
 ·rename_i v hv
  exact ⟨v,hv,zList_ok hz⟩
 ·cases hz
theorem zDs_ok : ∀ {cs : List C} {vs : List Value} {ds : List D},CRs M ρ cs vs->zDs cs = some ds->RdL M ds vs
 | [],[],ds,_,hz=>by
  simp only [zDs,Option.some.injEq] at hz
  subst hz
  exact RdL.nil _
 | .d x::cs,v::vs,ds,h,hz=>by
  simp only [zDs] at hz
  split at hz
  ·rename_i ds' h4
   simp only [Option.some.injEq] at hz
   subst hz
   exact RdL.cons h.1 (zDs_ok h.2 h4)
  ·cases hz
 | .l sz::cs,v::vs,ds,h,hz=>by
  simp only [zDs] at hz
  split at hz
  ·rename_i ds' h4
   simp only [Option.some.injEq] at hz
   subst hz
   obtain rfl : v = .slice none 0 0:=h.1
   exact RdL.cons Rd.nilS (zDs_ok h.2 h4)
  ·cases hz
 | [],_::_,_,h,_=>h.elim
 | .d _::_,[],_,h,_=>h.elim
 | .l _::_,[],_,h,_=>h.elim
 | .n::_,_,_,_,hz=>by simp [zDs] at hz
 | .p _ _::_,_,_,_,hz=>by simp [zDs] at hz
 | .q _ _ _ _::_,_,_,_,hz=>by simp [zDs] at hz
 | .w _::_,_,_,_,hz=>by simp [zDs] at hz
 | .m _::_,_,_,_,hz=>by simp [zDs] at hz
 | .f _ _::_,_,_,_,hz=>by simp [zDs] at hz
 | .z::_,_,_,_,hz=>by simp [zDs] at hz
 | .u::_,_,_,_,hz=>by simp [zDs] at hz
 | .e _ _::_,_,_,_,hz=>by simp [zDs] at hz
 | .y _ _ _ _ _::_,_,_,_,hz=>by simp [zDs] at hz
theorem fillL_mono {p q : Nat->Option (Nat×Nat)} (hpq : ∀ i x,p i = some x->q i = some x) : ∀ (vs : List (Nat×List Value)) (zs out : List Value),fillL p zs vs = some out->fillL q zs vs = some out
 | [],_,_,h=>h
 | (i,v)::vs,zs,out,h=>by
  unfold fillL at h ⊢
  cases hp : p i with
  | none=>simp [hp] at h
  | some x =>
   rw [hp] at h
   rw [hpq i x hp]
   revert h
   dsimp only
   split
   ·exact fun h=>fillL_mono hpq vs _ _ h
   ·exact fun h=>h
theorem buildA {t e n sz : Nat} {parts : List (Nat×Operand)} {vs : List (Nat×Value)} {zs : List Value} {L : Lm} {Γ : List As} {d : Option Nat} (out : List Value) (hp : pEv L parts = some vs) (hz : zeroB P t = some (.agg zs.toArray)) (hu : P.underlying t = some (.array n e)) (hs : szT P e = some sz)
  (hf : fillL (fun i=>some (i * sz,sz)) zs (vs.map fun p=>(p.1,cellsL p.2)) = some out) : Yq P w0 L M Γ ⟨d,.build t parts.toArray,ty,pos,af,g⟩ (.agg out.toArray):=fun n a w ha _=>by
 have hsz : (Go.sizeOf e).run P w = .ok sz w:=by
  unfold szT at hs
  cases hi : P.info? e with
  | none=>simp [hi] at hs
  | some i =>
   rw [hi] at hs
   obtain rfl : i.size = sz:=by simpa using hs
   simp [Go.sizeOf,typeInfo,hi]
 have h2:=fill_eq (fun i=>some (i * sz,sz)) vs zs out hf
 have h3 : (parts.toArray.map fun x=>(x.1,a.eval x.2)) = vs.toArray:=by rw [List.map_toArray,ha.pEv hp]
 simp only [execOp,h3]
 simp only [Instr.build,Sem.run_bind,run_zeroB hz,Result.andThen_ok,run_underlying hu,Value.cells,hsz,h2,Sem.run_pure]
theorem ok_build (h1 : a.tmps.size = n) (h2 : a.defers = []) (h : Rel w0 Γ0 fr ρ M lst (tv a) w) (hd : d < n) {t : Nat} {ps : Array (Nat×Operand)} (hr : R1 Is fr (buildP P t ps.toList) fs fo o) : (⟨some d,.build t ps,ty,pos,af,g⟩ : Oper).wp P a w (Done n w0 Γ0 ρ M ((fr.puts (some d) o.v).turn o.ob)) Q:=by
 unfold buildP at hr
 split at hr
 ·rename_i pl zs hpl hz hag
  obtain ⟨v,hv,hrd⟩:=zCells_ok (M:=M) (ρ:=ρ) hz
  rw [hv] at hag
  cases v with
  | agg cs0 =>
   obtain ⟨cs',out,vs,fs',hr,h3,h4,h5⟩:=place_R1 h _ hr hrd
   obtain rfl:=ret_R1 hr
   have : Yq P w0 (Lf a) M (lst.map Prod.snd++Γ0) ⟨some d,.build t ps.toList.toArray,ty,pos,af,g⟩ (.agg out.toArray):=by
    unfold placesA at hpl
    split at hpl
    ·rename_i m e sz hm
     simp only [Option.some.injEq] at hpl
     subst hpl
     unfold arrT at hm
     split at hm
     ·rename_i m' e' hu
      split at hm
      ·rename_i sz' hsz
       split at hm
       ·simp only [Option.some.injEq,Prod.mk.injEq] at hm
        obtain ⟨rfl,rfl,rfl⟩:=hm
        refine buildA (zs:=cs0.toList) out h3 (by simpa using hv) hu hsz (fillL_mono (fun i x hx=>?_) _ _ _ h4)
        rw [List.getElem?_map] at hx
        cases hr : (List.range m')[i]? with
        | none=>rw [hr] at hx;cases hx
        | some j =>
         rw [hr] at hx
         obtain ⟨_,rfl⟩:=List.getElem?_eq_some_iff.1 hr
         simpa using hx
       ·cases hm
      ·cases hm
     ·cases hm
    ·exact Y.build (P:=P) (w0:=w0) (L:=Lf a) (M:=M) (Γ:=lst.map Prod.snd++Γ0) (d:=some d) (ty:=ty) (pos:=pos) (af:=af) (g:=g) (t:=t) (parts:=ps.toList) (vs:=vs) (zs:=cs0.toList) (pl:=pl) out h3 (by simpa using hv) hpl h4
   rw [Array.toArray_toList] at this
   exact op_quiet h1 h2 h rfl hd rfl rfl ⟨out,rfl,h5⟩ this
  | _=>simp [isAggV] at hag
 ·exact hr.elim
end
end Pm
