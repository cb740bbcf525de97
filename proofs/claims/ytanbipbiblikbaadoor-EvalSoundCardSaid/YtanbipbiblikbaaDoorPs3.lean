/- PmN, PmO, PmP, PmQ, PmMa, PmR, PmS, PmT, PmU, PmV, PmW, PmX, PmY, Zpb, put together. -/
import Derived.Test.YtanbipbiblikbaaDoorPs2
import Derived.Deep.LoopGhost
import Derived.Test.YtanbipbiblikbaaDoorProg
import Derived.KernelRfl
namespace Pm
open Go Xe
def dh (mp : List (Nat×Tg)) (ρ : Nat->Option Value) : Nat->Option Value:=fun i=>match aY mp i with
 | some (.ob b)=>ρ b
 | some (.nil _)=>some (.slice none 0 0)
 | none=>none
theorem dA {mp : List (Nat×Tg)} {ρ : Nat->Option Value} {i b : Nat} (h : aY mp i = some (.ob b)) : dh mp ρ i = ρ b:=by unfold dh;rw [h]
theorem pg {mp : List (Nat×Tg)} {ρ : Nat->Option Value} {i sz : Nat} (h : aY mp i = some (.nil sz)) : dh mp ρ i = some (.slice none 0 0):=by unfold dh;rw [h]
def fW (ρ : Nat->Option Value) (M : Mem) (ob : Ob) (fx : List Nat) : Prop:=∀ b sz n cs,tG ob fx b sz n cs->∃ v,ρ b = some v/\Rd M (.sl n sz cs) v
def At (X : List D) (j : Nat) (ds : List D) : Prop:=∀ i d,ds[i]? = some d->X[j+i]? = some d
theorem At.cell {X : List D} {j : Nat} {x : D} (h : At X j [x]) : cell X j = x:=by
 have:=h 0 x rfl
 unfold Pm.cell
 rw [List.getD_eq_getElem?_getD,show X[j]? = some x from this]
 rfl
theorem At.left {X : List D} {j : Nat} {d1 d2 : List D} (h : At X j (d1++d2)) : At X j d1:=fun i d hi=>by
 refine h i d ?_
 rcases Nat.lt_or_ge i d1.length with h1 | h1
 ·rw [List.getElem?_append_left h1];exact hi
 ·rw [List.getElem?_eq_none h1] at hi;cases hi
theorem At.right {X : List D} {j : Nat} {d1 d2 : List D} (h : At X j (d1++d2)) : At X (j+d1.length) d2:=fun i d hi=>by
 rw [Nat.add_assoc]
 exact h (d1.length+i) d (by rw [List.getElem?_append_right (by omega)];simpa using hi)
theorem At.self (ds : List D) : At ds 0 ds:=fun i d hi=>by rw [Nat.zero_add];exact hi
section
variable {ob : Ob} {mp : List (Nat×Tg)} {fx : List Nat} {ρ : Nat->Option Value} {M : Mem}
section
variable (hrows : fW ρ M ob fx)
theorem BC (hrows : fW ρ M ob fx) {s : CSh} {c : C} {ds : List D} {v : Value} {X : List D} {j : Nat} {K : C->Nat->Prop} (hf : mF ob mp fx s c ds) (hv : CB M ρ c v) (hX : At X j ds) (hu : unB aJ X j s K) : ∃ c',K c' (j+ds.length)/\CB M (dh mp ρ) c' v:=by
 unfold mF at hf
 split at hf
 ·subst hf
  exact ⟨_,hu,by rw [hX.cell];exact hv⟩
 ·obtain ⟨sz,n,cs,rfl,h1⟩:=hf
  obtain ⟨v',h2,h3⟩:=hrows _ _ _ _ h1
  have hv':=hv.1
  rw [h2] at hv'
  simp only [Option.some.injEq] at hv'
  subst hv'
  exact ⟨_,hu,by rw [hX.cell];exact h3⟩
 ·subst hf
  obtain rfl : v = .slice none 0 0:=hv
  exact ⟨_,hu,by rw [hX.cell];exact Rd.wu⟩
 ·subst hf
  obtain ⟨z,h1,h2⟩:=lF hu
  rw [hX.cell] at h1
  subst h1
  exact ⟨_,h2,hv⟩
 ·subst hf
  obtain ⟨z,h1,h2⟩:=iN hu
  rw [hX.cell] at h1
  subst h1
  exact ⟨_,h2,hv⟩
 ·obtain ⟨rfl,rfl,h1⟩:=hf
  obtain ⟨k,h2,h3⟩:=hv
  exact ⟨_,hu,k,by rw [dA h1];exact h2,h3⟩
 ·obtain ⟨rfl,h1⟩:=hf
  exact ⟨_,hu,by rw [dA h1];exact hv.1,hv.2⟩
 ·obtain ⟨rfl,h1⟩:=hf
  obtain rfl : v = .slice none 0 0:=hv
  exact ⟨_,hu,pg h1,none,0,0,rfl⟩
 ·obtain ⟨rfl,h1⟩:=hf
  obtain ⟨k,h2,h3⟩:=hv
  exact ⟨_,hu,k,by rw [dA h1];exact h2,h3⟩
 ·exact hf.elim
theorem yC (hrows : fW ρ M ob fx) : ∀ {ss : List CSh} {cs : List C} {ds : List D} {vs : List Value} {X : List D} {j : Nat} {K : List C->Nat->Prop},mT ob mp fx ss cs ds->CBs M ρ cs vs->At X j ds->zf aJ X j ss K->∃ cs',K cs' (j+ds.length)/\CBs M (dh mp ρ) cs' vs
 | [],[],ds,vs,X,j,K,hf,hv,_,hu=>by
  obtain rfl : ds = []:=hf
  cases vs with
  | nil=>exact ⟨[],hu,trivial⟩
  | cons _ _=>exact hv.elim
 | s::ss,c::cs,ds,v::vs,X,j,K,⟨d1,d2,hd,h1,h2⟩,hv,hX,hu=>by
  subst hd
  obtain ⟨c',h3,h4⟩:=BC hrows h1 hv.1 hX.left hu
  obtain ⟨cs',h5,h6⟩:=yC hrows h2 hv.2 hX.right h3
  exact ⟨c'::cs',by rw [List.length_append,<-Nat.add_assoc];exact h5,h4,h6⟩
 | _::_,_::_,_,[],_,_,_,_,hv,_,_=>hv.elim
 | [],_::_,_,_,_,_,_,hf,_,_,_=>hf.elim
 | _::_,[],_,_,_,_,_,hf,_,_,_=>hf.elim
theorem CB.toCR : ∀ {c : C} {v : Value},CB M ρ c v->CR M ρ c v
 | .f _ _,_,h=>h.elim
 | .d _,_,h=>h
 | .n,_,h=>h
 | .l _,_,h=>h
 | .p _ _,_,h=>h
 | .q _ _ _ _,_,h=>h
 | .w _,_,h=>h
 | .m _,_,h=>h
 | .z,_,h=>h
 | .u,_,h=>h
theorem mF.notF {s : CSh} {c : C} {ds : List D} (h : mF ob mp fx s c ds) {v : Value} (hv : CR M ρ c v) : CB M ρ c v:=by
 cases c with
 | f g cs=>cases s <;> exact h.elim
 | d _=>exact hv
 | n=>exact hv
 | l _=>exact hv
 | p _ _=>exact hv
 | q _ _ _ _=>exact hv
 | w _=>exact hv
 | m _=>exact hv
 | z=>exact hv
 | u=>exact hv
theorem BB (hrows : fW ρ M ob fx) {s : CSh} {c : C} {ds : List D} {v : Value} {X : List D} {j : Nat} {K : C->Nat->Prop} (hf : lU ob mp fx s c ds) (hv : CR M ρ c v) (hX : At X j ds) (hu : unC aJ X j s K) : ∃ c',K c' (j+ds.length)/\CR M (dh mp ρ) c' v:=by
 unfold lU at hf
 split at hf
 ·obtain ⟨rfl,hf⟩:=hf
  obtain ⟨us,rfl,hv⟩:=hv
  obtain ⟨cs',h1,h2⟩:=yC hrows hf hv hX hu
  exact ⟨_,h1,us,rfl,h2⟩
 ·rename_i hne
  have hu' : unB aJ X j s K:=by
   unfold unC at hu
   split at hu
   ·rename_i g cs
    cases c <;> first | exact hf.elim | exact (hne _ _ _ _ rfl rfl).elim
   ·exact hu
  obtain ⟨c',h1,h2⟩:=BC hrows hf (hf.notF hv) hX hu'
  exact ⟨c',h1,h2.toCR⟩
theorem lG (hrows : fW ρ M ob fx) : ∀ {ss : List CSh} {cs : List C} {ds : List D} {vs : List Value} {X : List D} {j : Nat} {K : List C->Nat->Prop},eX ob mp fx ss cs ds->CRs M ρ cs vs->At X j ds->vM aJ X j ss K->∃ cs',K cs' (j+ds.length)/\CRs M (dh mp ρ) cs' vs
 | [],[],ds,vs,X,j,K,hf,hv,_,hu=>by
  obtain rfl : ds = []:=hf
  cases vs with
  | nil=>exact ⟨[],hu,trivial⟩
  | cons _ _=>exact hv.elim
 | s::ss,c::cs,ds,v::vs,X,j,K,⟨d1,d2,hd,h1,h2⟩,hv,hX,hu=>by
  subst hd
  obtain ⟨c',h3,h4⟩:=BB hrows h1 hv.1 hX.left hu
  obtain ⟨cs',h5,h6⟩:=lG hrows h2 hv.2 hX.right h3
  exact ⟨c'::cs',by rw [List.length_append,<-Nat.add_assoc];exact h5,h4,h6⟩
 | _::_,_::_,_,[],_,_,_,_,hv,_,_=>hv.elim
 | [],_::_,_,_,_,_,_,hf,_,_,_=>hf.elim
 | _::_,[],_,_,_,_,_,hf,_,_,_=>hf.elim
theorem sI (hrows : fW ρ M ob fx) : ∀ {n : Nat} {cs : List C} {ds : List D} {vs : List Value},eX ob mp fx (dsh n) cs ds->CRs M ρ cs vs->ds.length = n/\RdL M ds vs
 | 0,[],ds,vs,hf,hv=>by
  obtain rfl : ds = []:=hf
  cases vs with
  | nil=>exact ⟨rfl,RdL.nil _⟩
  | cons _ _=>exact hv.elim
 | n+1,c::cs,ds,v::vs,⟨d1,d2,hd,h1,h2⟩,hv=>by
  subst hd
  obtain ⟨h3,h4⟩:=sI hrows h2 hv.2
  have key : ∃ x,d1 = [x]/\Rd M x v:=by
   cases c with
   | d x=>exact ⟨x,h1,hv.1⟩
   | w b =>
    obtain ⟨sz,n,cs,h5,h6⟩:=h1
    obtain ⟨v',h7,h8⟩:=hrows _ _ _ _ h6
    have hv' : ρ b = some v:=hv.1.1
    rw [h7] at hv'
    simp only [Option.some.injEq] at hv'
    subst hv'
    exact ⟨_,h5,h8⟩
   | l sz =>
    obtain rfl : v = .slice none 0 0:=hv.1
    exact ⟨_,h1,Rd.wu⟩
   | n=>exact h1.elim
   | p _ _=>exact h1.elim
   | q _ _ _ _=>exact h1.elim
   | m _=>exact h1.elim
   | f _ _=>exact h1.elim
   | z=>exact h1.elim
   | u=>exact h1.elim
  obtain ⟨x,rfl,hx⟩:=key
  exact ⟨by simp [h3],RdL.cons hx h4⟩
 | _+1,_::_,_,[],_,hv=>hv.elim
 | 0,_::_,_,_,hf,_=>hf.elim
 | _+1,[],_,_,hf,_=>hf.elim
theorem fitS_un (hrows : fW ρ M ob fx) {s : SSh} {c : S} {ds : List D} {v : Value} {K : S->Prop} (hf : nQ ob mp fx s c ds) (hv : SR M ρ c v) (hu : unS aJ ds s K) : ∃ c',K c'/\SR M (dh mp ρ) c' v:=by
 unfold nQ at hf
 split at hf
 ·obtain ⟨c',h1,h2⟩:=BB (K:=fun c _=>K (.c c)) hrows hf hv (At.self ds) hu
  exact ⟨_,h1,h2⟩
 ·obtain ⟨rfl,rfl⟩:=hf
  obtain ⟨h1,us,h2,h3⟩:=hv
  exact ⟨_,hu,h1,us,h2,h3⟩
 ·obtain ⟨us,rfl,hv⟩:=hv
  obtain ⟨h1,h2⟩:=sI hrows hf hv
  exact ⟨_,hu,h1,us,rfl,h2⟩
 ·obtain ⟨us,rfl,hv⟩:=hv
  obtain ⟨c',h1,h2⟩:=lG (K:=fun c _=>K (.g c)) hrows hf hv (At.self ds) hu
  exact ⟨_,h1,us,rfl,h2⟩
 ·obtain ⟨h1,us,rfl,h2⟩:=hv
  rw [oN h1] at hf
  obtain ⟨c',h3,h4⟩:=lG (K:=fun c _=>K (.g c)) hrows hf (CRs.data h2) (At.self ds) hu
  exact ⟨_,h3,us,rfl,h4⟩
 ·exact hf.elim
end
theorem yD {s : CSh} {c : C} {ds : List D} (hf : mF ob mp fx s c ds) (h : isD s = false) : ds = []:=by
 unfold mF at hf
 split at hf <;> first | exact hf.1 | exact hf.2.1 | exact hf.elim | cases h
theorem u7 : ∀ {ss : List CSh} {cs : List C} {ds : List D},mT ob mp fx ss cs ds->ss.any isD = false->ds = []
 | [],[],_,hf,_=>hf
 | s::ss,c::cs,ds,⟨d1,d2,hd,h1,h2⟩,h=>by
  simp only [List.any_cons,Bool.or_eq_false_iff] at h
  rw [hd,yD h1 h.1,u7 h2 h.2]
  rfl
 | [],_::_,_,hf,_=>hf.elim
 | _::_,[],_,hf,_=>hf.elim
theorem yB {s : CSh} {c : C} {ds : List D} (hf : lU ob mp fx s c ds) (h : hasB s = false) : ds = []:=by
 unfold lU at hf
 split at hf
 ·exact u7 hf.2 h
 ·rename_i hne
  refine yD hf ?_
  cases s with
  | d=>cases h
  | i=>cases h
  | bo=>cases h
  | _=>rfl
theorem jy : ∀ {ss : List CSh} {cs : List C} {ds : List D},eX ob mp fx ss cs ds->ss.any hasB = false->ds = []
 | [],[],_,hf,_=>hf
 | s::ss,c::cs,ds,⟨d1,d2,hd,h1,h2⟩,h=>by
  simp only [List.any_cons,Bool.or_eq_false_iff] at h
  rw [hd,yB h1 h.1,jy h2 h.2]
  rfl
 | [],_::_,_,hf,_=>hf.elim
 | _::_,[],_,hf,_=>hf.elim
theorem Ft {s : SSh} {c : S} {ds : List D} (hf : nQ ob mp fx s c ds) (h : pz s = false) : ds = []:=by
 unfold nQ at hf
 split at hf
 ·exact yB hf h
 ·cases h
 ·cases h
 ·exact jy hf h
 ·exact jy hf h
 ·exact hf.elim
theorem BD {r : St'} {pre : St'} {e : List D} {post : St'} (h : r = pre++e::post) : ent r pre.length = e:=by
 unfold ent
 rw [List.getD_eq_getElem?_getD,h,List.getElem?_append_right (Nat.le_refl _)]
 simp
theorem sJ (hrows : fW ρ M ob fx) {sl : Nat->S} {val : Nat->Option Value} (hsl : ∀ t,sl t = su\/∃ v,val t = some v/\SR M ρ (sl t) v) :
  ∀ {l : List (Nat×SSh)} {rl : St'} {r pre post : St'} {f : Nat->S} {K : (Nat->S)->Nat->Prop},mS ob mp fx sl l rl->r = pre++(rl++post)->(∀ t,f t = su\/∃ v,val t = some v/\SR M (dh mp ρ) (f t) v)->oZ aJ r pre.length l f K ->
   ∃ sl',K sl' (pre++rl).length/\∀ t,sl' t = su\/∃ v,val t = some v/\SR M (dh mp ρ) (sl' t) v
 | [],rl,r,pre,post,f,K,hf,_,hff,hu=>by
  obtain rfl : rl = []:=hf
  exact ⟨f,by rw [List.append_nil];exact hu,hff⟩
 | (t,s)::l,rl,r,pre,post,f,K,⟨ds,r',h1,h2,h3⟩,hr,hff,hu=>by
  have hsu : sl t ≠ su\/ds = []/\False:=by
   left
   intro e
   rw [e] at h1
   cases s with
   | c c=>unfold nQ lU at h1;cases c <;> exact h1.elim
   | a n=>exact h1.elim
   | g cs=>exact h1.elim
   | t l=>exact h1.elim
  have hk : ∃ v,val t = some v/\SR M ρ (sl t) v:=by
   rcases hsu with h | h
   ·exact (hsl t).resolve_left h
   ·exact h.2.elim
  obtain ⟨v,hv,hs⟩:=hk
  have key : ∀ {pre' : St'} {K' : S->Prop},unS aJ ds s K'->∃ c',K' c'/\SR M (dh mp ρ) c' v:=fun hu=>fitS_un hrows h1 hs hu
  have step : ∀ (c' : S),SR M (dh mp ρ) c' v->∀ q,(match Nat.beq q t with
   | true=>c'
   | false=>f q) = su\/∃ v,val q = some v/\SR M (dh mp ρ) (match Nat.beq q t with
   | true=>c'
   | false=>f q) v:=fun c' hc' q=>by
   by_cases e : q = t
   ·subst e;rw [bB];exact .inr ⟨v,hv,hc'⟩
   ·rw [fy e];exact hff q
  cases hb : pz s with
  | true =>
   rw [hb] at h3
   subst h3
   unfold oZ at hu
   rw [hb] at hu
   have he : ent r pre.length = ds:=BD (by rw [hr];rfl)
   rw [show (eJ true r pre.length).1 = ds from he] at hu
   obtain ⟨c',h4,h5⟩:=key (pre':=pre) hu
   have e2 : (eJ true r pre.length).2 = (pre++[ds]).length:=by simp [eJ]
   rw [e2] at h4
   obtain ⟨sl',h6,h7⟩:=sJ hrows hsl h2 (pre:=pre++[ds]) (post:=post) (by rw [hr];simp) (step c' h5) h4
   exact ⟨sl',by rw [List.append_cons];exact h6,h7⟩
  | false =>
   rw [hb] at h3
   subst h3
   unfold oZ at hu
   rw [hb] at hu
   have hd : ds = []:=Ft h1 hb
   rw [show (eJ false r pre.length).1 = ds from hd.symm] at hu
   obtain ⟨c',h4,h5⟩:=key (pre':=pre) hu
   obtain ⟨sl',h6,h7⟩:=sJ hrows hsl h2 (pre:=pre) (post:=post) hr (step c' h5) h4
   exact ⟨sl',h6,h7⟩
end
theorem Cr {lst : List (Nat×As)} (hnd : (lst.map Prod.fst).Nodup) {b : Nat} {x : As} (hm : (b,x)∈lst) : List.Perm (lst.map Prod.snd) (x::(lst.filter fun p=>!Nat.beq p.1 b).map Prod.snd):=by
 obtain ⟨l1,l2,rfl⟩:=List.append_of_mem hm
 rw [List.map_append,List.map_cons] at hnd
 have hn1 : ∀ p∈l1,Nat.beq p.1 b = false:=fun p hp=>fy ((List.nodup_append.1 hnd).2.2 p.1 (List.mem_map_of_mem hp) b (List.mem_cons_self ..))
 have hn2 : ∀ p∈l2,Nat.beq p.1 b = false:=fun p hp=>fy fun e=>by
  have:=(List.nodup_cons.1 (List.nodup_append.1 hnd).2.1).1
  exact absurd (show b∈l2.map Prod.fst by rw [<-e];exact List.mem_map_of_mem hp) this
 have f1 : l1.filter (fun p=>!Nat.beq p.1 b) = l1:=List.filter_eq_self.2 fun p hp=>by rw [hn1 p hp];rfl
 have f2 : l2.filter (fun p=>!Nat.beq p.1 b) = l2:=List.filter_eq_self.2 fun p hp=>by rw [hn2 p hp];rfl
 rw [List.filter_append,List.filter_cons,f1,f2,bB]
 simp only [Bool.not_true,Bool.false_eq_true,if_false,List.map_append,List.map_cons]
 exact List.perm_middle
theorem o9 : ∀ {l : List (Nat×OSh)},jZ l = true->(l.map Prod.fst).Nodup
 | [],_=>List.nodup_nil
 | (i,o)::l,h=>by
  unfold jZ at h
  split at h
  ·cases h
  ·rename_i hn
   rw [List.map_cons]
   refine List.nodup_cons.2 ⟨fun hm=>?_,o9 h⟩
   obtain ⟨p,hp,e⟩:=List.mem_map.1 hm
   have:=List.any_eq_false.1 hn p hp
   rw [show p.1 = i from e,bB] at this
   exact this rfl
theorem ee {obs : List (Nat×OSh)} : ∀ {mp : List (Nat×Tg)} {i : Nat} {x : Tg},linked obs mp = true->aY mp i = some x->i∈obs.map Prod.fst
 | [],_,_,_,h=>by simp [aY] at h
 | (j,y)::mp,i,x,hl,h=>by
  unfold linked at hl
  split at hl
  ·rename_i ha
   rw [cW] at h
   by_cases e : i = j
   ·subst e
    obtain ⟨p,hp,e⟩:=List.any_eq_true.1 ha
    have:=Nat.eq_of_beq_eq_true e
    rw [<-this]
    exact List.mem_map_of_mem hp
   ·rw [if_neg e] at h
    exact ee hl h
  ·cases hl
theorem w9 : ∀ {obs : List (Nat×OSh)} {i : Nat},i∈obs.map Prod.fst->i < nO obs
 | [],_,h=>by simp at h
 | (j,_)::l,i,h=>by
  rw [List.map_cons] at h
  unfold nO
  rcases List.mem_cons.1 h with e | h
  ·have : i = j:=e
   exact Nat.lt_of_lt_of_le (by omega) (Nat.le_max_left _ _)
  ·exact Nat.lt_of_lt_of_le (w9 h) (Nat.le_max_right _ _)
theorem oT (b : Nat) (o : O) (f : Ob) (k : Nat) : Dj b o f k = if k = b then some o else f k:=by
 unfold Dj
 by_cases e : k = b
 ·subst e;rw [bB];simp
 ·rw [fy e,if_neg e]
section
variable {ob : Ob} {mp : List (Nat×Tg)} {fx : List Nat} {ρ : Nat->Option Value} {M : Mem} {lst : List (Nat×As)} {w0 : World} {Γ : List As}
def Src (mp : List (Nat×Tg)) (lst : List (Nat×As)) (i : Nat) (x : As) : Prop:=(∃ b,aY mp i = some (.ob b)/\(b,x)∈lst)\/∃ e sz s,aY mp i = some (.nil s)/\x = .acc (.slice none 0 0) e sz 0 []
theorem fitO_un (hrows : fW ρ M ob fx) (hobs : ∀ i b x,aY mp i = some (.ob b)->ob b = some x->OR M ρ lst b x) {i : Nat} {o : OSh} {ds : List D} {K : O->Prop} (hf : tJ ob mp fx i o ds) (hu : unO aJ ds o K) :
  ∃ o' x,K o'/\Src mp lst i x/\∀ lst',(i,x)∈lst'->OR M (dh mp ρ) lst' i o':=by
 rcases hf with ⟨b,x,h1,h2,h3⟩ | ⟨e,sz,h1,rfl,rfl⟩
 ·have ho:=hobs i b x h1 h2
  cases o with
  | b e cs =>
   obtain ⟨cs',h4,h5⟩:=h3
   obtain ⟨k,us,h6,h7,h8⟩:=vm h4 ho
   obtain ⟨cs'',h9,h10⟩:=lG (K:=fun cs _=>K (.b e cs)) hrows h5 h8 (At.self ds) hu
   exact ⟨_,_,h9,.inl ⟨b,h1,h7⟩,fun lst' hm=>⟨k,us,by rw [dA h1];exact h6,hm,h10⟩⟩
  | a e n =>
   rcases h3 with rfl | ⟨cs',rfl,h5⟩
   ·obtain ⟨k,us,h6,h7,h8,h9⟩:=ho
    exact ⟨_,_,hu,.inl ⟨b,h1,h7⟩,fun lst' hm=>⟨k,us,by rw [dA h1];exact h6,hm,h8,h9⟩⟩
   ·obtain ⟨k,us,h6,h7,h8⟩:=ho
    obtain ⟨h9,h10⟩:=sI hrows h5 h8
    exact ⟨_,_,hu,.inl ⟨b,h1,h7⟩,fun lst' hm=>⟨k,us,by rw [dA h1];exact h6,hm,h10,h9⟩⟩
  | w e sz =>
   obtain ⟨n,cs,rfl,rfl⟩:=h3
   obtain ⟨a,c,us,h6,h7,h8,h9,h10⟩:=ho
   obtain ⟨n',cs',h11,h12⟩:=jt (sz:=sz) (x:=Pm.cell [D.sl n sz cs] 0) (k:=fun n cs=>K (.w e sz n cs)) hu
   have h11' : D.sl n sz cs = .sl n' sz cs':=h11
   simp only [D.sl.injEq] at h11'
   obtain ⟨rfl,_,rfl⟩:=h11'
   exact ⟨_,_,h12,.inl ⟨b,h1,h7⟩,fun lst' hm=>⟨a,c,us,by rw [dA h1];exact h6,hm,h8,h9,h10⟩⟩
  | v e sz n cs =>
   obtain ⟨cs',rfl,h5⟩:=h3
   obtain ⟨a,c,us,h6,h7,h8,h8',h8''⟩:=ho
   obtain ⟨cs'',h9,h10⟩:=lG (K:=fun cs _=>K (.v e sz n cs)) hrows h5 h8 (At.self ds) hu
   exact ⟨_,_,h9,.inl ⟨b,h1,h7⟩,fun lst' hm=>⟨a,c,us,by rw [dA h1];exact h6,hm,h10,h8',h8''⟩⟩
  | m t ag vs =>
   obtain ⟨n,cs,rfl,rfl⟩:=h3
   obtain ⟨k,l,h6,h7,h8,h9⟩:=ho
   obtain ⟨n',cs',h11,h12⟩:=jt (sz:=3+vs) (x:=Pm.cell [D.sl n (3+vs) cs] 0) (k:=fun n cs=>K (.m t ag vs n cs)) hu
   have h11' : D.sl n (3+vs) cs = .sl n' (3+vs) cs':=h11
   simp only [D.sl.injEq] at h11'
   obtain ⟨rfl,_,rfl⟩:=h11'
   exact ⟨_,_,h12,.inl ⟨b,h1,h7⟩,fun lst' hm=>⟨k,l,by rw [dA h1];exact h6,hm,h8,h9⟩⟩
 ·obtain ⟨n',cs',h11,h12⟩:=jt (sz:=sz) (x:=Pm.cell [D.sl 0 sz []] 0) (k:=fun n cs=>K (.w e sz n cs)) hu
  have h11' : D.sl 0 sz [] = .sl n' sz cs':=h11
  simp only [D.sl.injEq] at h11'
  obtain ⟨rfl,_,rfl⟩:=h11'
  exact ⟨_,_,h12,.inr ⟨e,sz,sz,h1,rfl⟩,fun lst' hm=>⟨none,0,[],pg h1,hm,RdL.nil _,by simp,Nat.zero_le _⟩⟩
theorem Fv {i : Nat} {o : OSh} {ds : List D} (hf : tJ ob mp fx i o ds) (h : wJ o = false) : ds = []:=by
 rcases hf with ⟨b,x,h1,h2,h3⟩ | ⟨e,sz,h1,rfl,rfl⟩
 ·cases o with
  | b e cs =>
   obtain ⟨cs',h4,h5⟩:=h3
   exact jy h5 h
  | a e n=>cases h
  | w e sz=>cases h
  | v e sz n cs =>
   obtain ⟨cs',h4,h5⟩:=h3
   exact jy h5 h
  | m t ag vs=>cases h
 ·cases h
def AJ (mp : List (Nat×Tg)) (ρ : Nat->Option Value) (M : Mem) (w0 : World) (Γ : List As) (is : List Nat) (f : Ob) (lst0 rem : List (Nat×As)) (K : Ob->Prop) : Prop :=
 ∃ (ob' : Ob) (lst1 rem' : List (Nat×As)),K ob'/\(∀ k o,ob' k = some o->OR M (dh mp ρ) lst1 k o)/\(∀ k,(f k).isSome = true\/k∈is->(ob' k).isSome = true)/\(lst1.map Prod.fst).Nodup/\(∀ p∈lst1,p∈lst0\/p.1∈is/\(dh mp ρ p.1).isSome = true) /\
  (rem'.map Prod.fst).Nodup/\(∀ p∈rem',p∈rem/\∀ i∈is,aY mp i ≠ some (.ob p.1))/\(∀ p∈rem,(∀ i∈is,aY mp i ≠ some (.ob p.1))->p∈rem') /\
  ∀ w,St w0 M (lst0.map Prod.snd++(rem.map Prod.snd++Γ)) w->St w0 M (lst1.map Prod.snd++(rem'.map Prod.snd++Γ)) w
theorem yz (hrows : fW ρ M ob fx) (hobs : ∀ i b x,aY mp i = some (.ob b)->ob b = some x->OR M ρ lst b x) (hinj : tU mp) (hlst : (lst.map Prod.fst).Nodup) (hkeys : ∀ p∈lst,(ρ p.1).isSome = true) :
  ∀ {l : List (Nat×OSh)} {rl r pre : St'} {f : Ob} {K : Ob->Prop} {lst0 rem : List (Nat×As)},y7 ob mp fx l rl->r = pre++rl->tL aJ r pre.length l f K ->
   (l.map Prod.fst).Nodup->(lst0.map Prod.fst).Nodup->(∀ p∈lst0,p.1 ∉ l.map Prod.fst)->(rem.map Prod.fst).Nodup->(∀ i∈l.map Prod.fst,∀ b x,aY mp i = some (.ob b)->(b,x)∈lst->(b,x)∈rem)->(∀ k o,f k = some o->OR M (dh mp ρ) lst0 k o) ->
   AJ mp ρ M w0 Γ (l.map Prod.fst) f lst0 rem K
 | [],rl,r,pre,f,K,lst0,rem,hf,_,hu,_,hn0,_,hnr,_,hff=>⟨f,lst0,rem,hu,hff,fun k hk=>hk.resolve_right (by simp),hn0,fun p hp=>.inl hp,hnr,fun p hp=>⟨hp,fun i hi=>by simp at hi⟩,fun p hp _=>hp,fun w hw=>hw⟩
 | (i,o)::l,rl,r,pre,f,K,lst0,rem,⟨ds,r',h1,h2,h3⟩,hr,hu,hnl,hn0,hdis,hnr,hav,hff=>by
  have hnl':=List.nodup_cons.1 (show (i::l.map Prod.fst).Nodup from hnl)
  -- the thing itself
  have key : ∀ {q : Nat} {pre' : St'} (_ : q = pre'.length) (_ : r = pre'++r') (_ : unO aJ ds o fun x=>tL aJ r q l (Dj i x f) K),AJ mp ρ M w0 Γ (i::l.map Prod.fst) f lst0 rem K:=by
   intro q pre' hq hr' hu'
   subst hq
   obtain ⟨o',x,h4,hsrc,h5⟩:=fitO_un hrows hobs h1 hu'
   have hn1 : (((i,x)::lst0).map Prod.fst).Nodup:=by
    rw [List.map_cons]
    refine List.nodup_cons.2 ⟨fun hm=>?_,hn0⟩
    obtain ⟨p,hp,e⟩:=List.mem_map.1 hm
    exact hdis p hp (by rw [show p.1 = i from e];exact List.mem_cons_self ..)
   have hdis1 : ∀ p∈(i,x)::lst0,p.1 ∉ l.map Prod.fst:=fun p hp=>by
    rcases List.mem_cons.1 hp with rfl | hp
    ·exact hnl'.1
    ·exact fun hm=>hdis p hp (List.mem_cons_of_mem _ hm)
   have hff1 : ∀ k o,Dj i o' f k = some o->OR M (dh mp ρ) ((i,x)::lst0) k o:=fun k o ho=>by
    rw [oT] at ho
    by_cases e : k = i
    ·subst e
     rw [if_pos rfl] at ho
     simp only [Option.some.injEq] at ho
     subst ho
     exact h5 _ (List.mem_cons_self ..)
    ·rw [if_neg e] at ho
     exact OR.mono (Sub.refl M) (Ext.refl _) (fun y hy=>List.mem_cons_of_mem _ hy) (hff k o ho)
   have fin : ∀ rem1 : List (Nat×As),(rem1.map Prod.fst).Nodup->(∀ j∈l.map Prod.fst,∀ b y,aY mp j = some (.ob b)->(b,y)∈lst->(b,y)∈rem1)->(∀ p∈rem1,p∈rem/\aY mp i ≠ some (.ob p.1))->(∀ p∈rem,aY mp i ≠ some (.ob p.1)->p∈rem1) ->
     (∀ w,St w0 M (lst0.map Prod.snd++(rem.map Prod.snd++Γ)) w->St w0 M (((i,x)::lst0).map Prod.snd++(rem1.map Prod.snd++Γ)) w)->AJ mp ρ M w0 Γ (i::l.map Prod.fst) f lst0 rem K:=by
    intro rem1 hnr1 hav1 hsub hsup hw1
    obtain ⟨ob',lst1,rem',k1,k2,k3,k4,k5,k6,k7,k8,k9⟩:=yz hrows hobs hinj hlst hkeys h2 hr' h4 hnl'.2 hn1 hdis1 hnr1 hav1 hff1
    refine ⟨ob',lst1,rem',k1,k2,fun k hk=>k3 k ?_,k4,fun p hp=>?_,k6,fun p hp=>⟨(hsub p (k7 p hp).1).1,fun j hj=>?_⟩,fun p hp hj=>k8 p (hsup p hp (hj i (List.mem_cons_self ..))) fun j hjl=>hj j (List.mem_cons_of_mem _ hjl),fun w hw=>k9 w (hw1 w hw)⟩
    ·rcases hk with hk | hk
     ·left
      rw [oT]
      split
      ·rfl
      ·exact hk
     ·rcases List.mem_cons.1 hk with rfl | hk
      ·left;rw [oT,if_pos rfl];rfl
      ·exact .inr hk
    ·rcases k5 p hp with h6 | h6
     ·rcases List.mem_cons.1 h6 with rfl | h6
      ·refine .inr ⟨List.mem_cons_self ..,?_⟩
       rcases hsrc with ⟨b,hb,hm⟩ | ⟨e,sz,s,hb,_⟩
       ·rw [dA hb];exact hkeys _ hm
       ·rw [pg hb];rfl
      ·exact .inl h6
     ·exact .inr ⟨List.mem_cons_of_mem _ h6.1,h6.2⟩
    ·rcases List.mem_cons.1 hj with rfl | hj
     ·exact (hsub p (k7 p hp).1).2
     ·exact (k7 p hp).2 j hj
   rcases hsrc with ⟨b,hb,hm⟩ | ⟨e,sz,s,hb,rfl⟩
   ·have hmr:=hav i (List.mem_cons_self ..) b x hb hm
    refine fin (rem.filter fun p=>!Nat.beq p.1 b) (jz hnr b) (fun j hj b' y hb' hy=>gF (hav j (List.mem_cons_of_mem _ hj) b' y hb' hy) fun e=>?_) (fun p hp=>⟨(List.mem_filter.1 hp).1,fun e=>?_⟩) (fun p hp hne=>List.mem_filter.2 ⟨hp,?_⟩) fun w hw=>?_
    ·subst e
     exact hnl'.1 (by rw [hinj i j b' hb hb'];exact hj)
    ·rw [hb] at e
     simp only [Option.some.injEq,Tg.ob.injEq] at e
     exact sL (k:=p.1) (x:=p.2) hp e.symm
    ·rw [fy fun e=>hne (by rw [hb,e])];rfl
    ·refine hw.perm ?_
     have h6:=Cr hnr hmr
     rw [List.map_cons]
     refine ((h6.append_right Γ).append_left (lst0.map Prod.snd)).trans ?_
     rw [List.cons_append]
     exact List.perm_middle
   ·refine fin rem hnr (fun j hj=>hav j (List.mem_cons_of_mem _ hj)) (fun p hp=>⟨hp,by rw [hb];simp⟩) (fun p hp _=>hp) fun w hw=>?_
    exact hw.q6 e sz
  cases hb : wJ o with
  | true =>
   rw [hb] at h3
   subst h3
   unfold tL at hu
   rw [hb] at hu
   have he : ent r pre.length = ds:=BD hr
   rw [show (eJ true r pre.length).1 = ds from he] at hu
   exact key (q:=(eJ true r pre.length).2) (pre':=pre++[ds]) (by simp [eJ]) (by rw [hr];simp) hu
  | false =>
   rw [hb] at h3
   subst h3
   unfold tL at hu
   rw [hb] at hu
   have hd : ds = []:=Fv h1 hb
   rw [show (eJ false r pre.length).1 = ds from hd.symm] at hu
   exact key (q:=(eJ false r pre.length).2) (pre':=pre) rfl hr hu
theorem oY {Γ0 : List As} {val : Nat->Option Value} {w : World} (hobs : ∀ i b x,aY mp i = some (.ob b)->ob b = some x->OR M ρ lst b x) (hlst : (lst.map Prod.fst).Nodup) (hkeys : ∀ p∈lst,(ρ p.1).isSome = true) (hst : St w0 M (lst.map Prod.snd++Γ0) w) (hgr : y6 M) (hrows : fW ρ M ob fx)
  {sl : Nat->S} (hsl : ∀ t,sl t = su\/∃ v,val t = some v/\SR M ρ (sl t) v) {sh : Sh} {r r' : St'} (h1 : mS ob mp fx sl sh.sl r) (h2 : y7 ob mp fx sh.ob r') (hl : linked sh.ob mp = true) (hn : jZ sh.ob = true) (hinj : tU mp)
  {K : Fr->Prop} (hu : unpack aJ sh (r++r') K) :
  ∃ (fr' : Fr) (lst' rem : List (Nat×As)),K fr'/\fr'.base = nO sh.ob/\Rel w0 (rem.map Prod.snd++Γ0) fr' (dh mp ρ) M lst' val w/\(∀ p∈lst',p.1∈sh.ob.map Prod.fst)/\(rem.map Prod.fst).Nodup/\(∀ p∈rem,p∈lst/\∀ i∈sh.ob.map Prod.fst,aY mp i ≠ some (.ob p.1)) /\
   (∀ p∈lst,(∀ i∈sh.ob.map Prod.fst,aY mp i ≠ some (.ob p.1))->p∈rem):=by
 unfold unpack at hu
 obtain ⟨sl',h3,h4⟩:=sJ hrows hsl h1 (pre:=[]) (post:=r') rfl (fun t=>.inl rfl) hu
 rw [List.nil_append] at h3
 obtain ⟨ob',lst1,rem',k1,k2,k3,k4,k5,k6,k7,k8,k9⟩:=yz (w0:=w0) (Γ:=Γ0) (lst0:=[]) (rem:=lst) hrows hobs hinj hlst hkeys h2 rfl h3 (o9 hn) List.nodup_nil (fun p hp=>by simp at hp) hlst (fun i hi b x hb hx=>hx) (fun k o ho=>by cases ho)
 refine ⟨_,lst1,rem',k1,rfl,⟨h4,k2,fun i v hv=>.inl ?_,fun p hp=>((k5 p hp).resolve_left (by simp)).2,k4,k9 w hst,hgr⟩,fun p hp=>((k5 p hp).resolve_left (by simp)).1,k6,k7,k8⟩
 ·unfold dh at hv
  split at hv
  ·rename_i hg;exact w9 (ee hl hg)
  ·rename_i hg;exact w9 (ee hl hg)
  ·cases hv
end
theorem tU.nil : tU []:=fun i j b h=>by simp [aY] at h
theorem tD {mp : List (Nat×Tg)} : ∀ {l : List Nat} {b i : Nat},nP mp l = true->b∈l->aY mp i ≠ some (.ob b)
 | c::l,b,i,h,hb=>by
  unfold nP at h
  split at h
  ·cases h
  ·rename_i hc
   rcases List.mem_cons.1 hb with rfl | hb
   ·intro e;rw [qW e] at hc;cases hc
   ·exact tD h hb
theorem pI {fr : Fr} {ob : Ob} (hob : ∀ b x,ob b = some x->fr.ob b = some x) : ∀ (l : List Nat),dZ fr (fixed ob l)
 | []=>dZ.nil
 | b::l=>by
  unfold fixed
  split
  ·rename_i e sz n ds hb
   intro p hp
   rcases List.mem_cons.1 hp with rfl | hp
   ·exact .inl ⟨e,hob b _ hb⟩
   ·exact pI hob l p hp
  ·exact pI hob l
theorem pH {ob : Ob} : ∀ {l : List Nat} {b e sz n : Nat} {ds : List D},b∈l->ob b = some (.w e sz n ds)->(b,O.s sz n ds)∈fixed ob l
 | c::l,b,e,sz,n,ds,hb,hob=>by
  unfold fixed
  rcases List.mem_cons.1 hb with rfl | hb
  ·split
   ·rename_i e' sz' n' ds' h
    rw [hob] at h
    simp only [Option.some.injEq,O.w.injEq] at h
    obtain ⟨_,rfl,rfl,rfl⟩:=h
    exact List.mem_cons_self ..
   ·rename_i h
    exact (h _ _ _ _ hob).elim
  ·split
   ·exact List.mem_cons_of_mem _ (pH hb hob)
   ·exact pH hb hob
theorem mh {ob : Ob} : ∀ {l : List Nat} {p : Nat×O},p∈fixed ob l->p.1∈l
 | c::l,p,h=>by
  unfold fixed at h
  split at h
  ·rcases List.mem_cons.1 h with rfl | h
   ·exact List.mem_cons_self ..
   ·exact List.mem_cons_of_mem _ (mh h)
  ·exact List.mem_cons_of_mem _ (mh h)
section
variable {w0 : World} {Γ0 : List As} {fr : Fr} {ρ : Nat->Option Value} {M : Mem} {lst : List (Nat×As)} {val : Nat->Option Value} {w : World}
theorem Rel.less {R : List As} (h : Rel w0 (R++Γ0) fr ρ M lst val w) : Rel w0 Γ0 fr ρ M lst val w :=
 ⟨h.sl,h.ob,h.rho,h.keys,h.nd,h.st.sub (List.Sublist.append (List.Sublist.refl _) (List.sublist_append_right _ _)),h.gr⟩
theorem nX {ob : Ob} {fx : List Nat} (hrow : ∀ b sz n ds,((∃ e,ob b = some (.w e sz n ds))/\b∈fx\/ob b = some (.s sz n ds))->∃ v,ρ b = some v/\Rd M (.sl n sz ds) v) : ∀ {ws : List C} {cs : List D} {bs : List Nat} {us : List Value},nY ob ws = some (cs,bs)->(∀ x∈bs,x∈fx)->CRs M ρ ws us->RdL M cs us
 | [],cs,bs,us,h,_,hu=>by
  simp only [nY,Option.some.injEq,Prod.mk.injEq] at h
  obtain ⟨rfl,rfl⟩:=h
  cases us with
  | nil=>exact RdL.nil _
  | cons _ _=>exact hu.elim
 | c::ws,cs,bs,[],_,_,hu=>hu.elim
 | c::ws,cs,bs,u::us,h,hb,hu=>by
  unfold nY at h
  split at h
  ·rename_i he
   cases he
  ·rename_i x l he
   simp only [List.cons.injEq] at he
   obtain ⟨rfl,rfl⟩:=he
   split at h
   ·rename_i ds bs' hr
    simp only [Option.some.injEq,Prod.mk.injEq] at h
    obtain ⟨rfl,rfl⟩:=h
    exact RdL.cons hu.1 (nX hrow hr hb hu.2)
   ·cases h
  ·rename_i sz l he
   simp only [List.cons.injEq] at he
   obtain ⟨rfl,rfl⟩:=he
   split at h
   ·rename_i ds bs' hr
    simp only [Option.some.injEq,Prod.mk.injEq] at h
    obtain ⟨rfl,rfl⟩:=h
    obtain rfl : u = .slice none 0 0:=hu.1
    exact RdL.cons Rd.wu (nX hrow hr hb hu.2)
   ·cases h
  ·rename_i b l he
   simp only [List.cons.injEq] at he
   obtain ⟨rfl,rfl⟩:=he
   have hub : ρ b = some u:=hu.1.1
   split at h
   ·rename_i e sz n xs hob
    split at h
    ·rename_i ds bs' hr
     simp only [Option.some.injEq,Prod.mk.injEq] at h
     obtain ⟨rfl,rfl⟩:=h
     obtain ⟨v,h1,h2⟩:=hrow b sz n xs (.inl ⟨⟨e,hob⟩,hb _ (List.mem_cons_self ..)⟩)
     rw [hub] at h1
     simp only [Option.some.injEq] at h1
     subst h1
     exact RdL.cons h2 (nX hrow hr (fun x hx=>hb _ (List.mem_cons_of_mem _ hx)) hu.2)
    ·cases h
   ·rename_i sz n xs hob
    split at h
    ·rename_i ds bs' hr
     simp only [Option.some.injEq,Prod.mk.injEq] at h
     obtain ⟨rfl,rfl⟩:=h
     obtain ⟨v,h1,h2⟩:=hrow b sz n xs (.inr hob)
     rw [hub] at h1
     simp only [Option.some.injEq] at h1
     subst h1
     exact RdL.cons h2 (nX hrow hr hb hu.2)
    ·cases h
   ·cases h
  ·cases h
theorem wK {ob : Ob} : ∀ {l : List Nat} {p : Nat×O},p∈fixed ob l->∃ e sz n ds,ob p.1 = some (.w e sz n ds)
 | c::l,p,h=>by
  unfold fixed at h
  split at h
  ·rename_i e sz n ds hob
   rcases List.mem_cons.1 h with rfl | h
   ·exact ⟨e,sz,n,ds,hob⟩
   ·exact wK h
  ·exact wK h
def goalV (ob : Ob) (b : Nat) : Option O:=match ob b with
 | some (.v _ sz n ws)=>(match nY ob ws with
  | some (ds,_)=>some (.s sz n ds)
  | none=>none)
 | _=>none
theorem rD (h : Rel w0 Γ0 fr ρ M lst val w) {ob : Ob} (hob : ∀ b x,ob b = some x->fr.ob b = some x) (fx : List Nat) : ∃ M1 lst1,Sub M M1/\Rel w0 Γ0 (fr.aF (fixed ob fx++fq ob fx fx)) ρ M1 lst1 val w/\fW ρ M1 ob fx:=by
 obtain ⟨M1,lst1,hM,hfa,hR⟩:=Rel.Bz (fixed ob fx) h (pI hob fx)
 have plain : ∀ b sz n cs,((∃ e,ob b = some (.w e sz n cs))/\b∈fx\/ob b = some (.s sz n cs))->∃ v,ρ b = some v/\Rd M1 (.sl n sz cs) v:=fun b sz n cs hb=>by
  rcases hb with ⟨⟨e,hb⟩,hm⟩ | hb
  ·exact hfa _ (pH hm hb)
  ·obtain ⟨v,h1,h2⟩:=h.ob b _ (hob b _ hb)
   exact ⟨v,h1,Rd.mono hM _ _ h2⟩
 obtain ⟨M2,lst2,hM2,hfa2,hR2⟩:=Rel.Fm (goalV ob) (fq ob fx fx) hR fun p hp=>by
  obtain ⟨e,sz,n,ws,ds,bs,h1,h2,h3,h4,_⟩:=nG hp
  refine ⟨by unfold goalV;rw [h2];simp only [h3,h1],e,sz,n,ws,ds,h1,.inl ?_,fun M' us hM' hu=>nX (M:=M') (fx:=fx) (fun b sz n ds hb=>?_) h3 h4 hu⟩
  ·rw [gR _ fun q hq e=>?_]
   ·exact hob _ _ h2
   ·obtain ⟨_,_,_,_,h5⟩:=wK hq
    rw [e,h2] at h5
    cases h5
  ·obtain ⟨v,h5,h6⟩:=plain b sz n ds hb
   exact ⟨v,h5,Rd.mono hM' _ _ h6⟩
 refine ⟨M2,lst2,hM.trans hM2,by rw [ru];exact hR2,fun b sz n cs hb=>?_⟩
 rcases hb with hb | ⟨e,ws,bs,h1,h2,h3,h4⟩
 ·obtain ⟨v,h5,h6⟩:=plain b sz n cs hb
  exact ⟨v,h5,Rd.mono hM2 _ _ h6⟩
 ·exact hfa2 _ (nH h1 h2 h4 h3) sz n cs rfl
theorem Ce (h : Rel w0 Γ0 fr ρ M lst val w) {ob : Ob} (hob : ∀ b x,ob b = some x->fr.ob b = some x) (fx : List Nat) (hv : fq ob fx fx = []) : ∃ M1 lst1,Sub M M1/\Rel w0 Γ0 (fr.aF (fixed ob fx)) ρ M1 lst1 val w/\fW ρ M1 ob fx:=by
 obtain ⟨M1,lst1,h1,h2,h3⟩:=rD h hob fx
 rw [hv,List.append_nil] at h2
 exact ⟨M1,lst1,h1,h2,h3⟩
theorem zu {ob : Ob} {l : List Nat} {p : Nat×O} (h : p∈fixed ob l++fq ob l l) : p.1∈l:=by
 rcases List.mem_append.1 h with h | h
 ·exact mh h
 ·obtain ⟨_,_,_,_,_,_,_,_,_,_,h5⟩:=nG h
  exact h5
end
def tT (s : SSh) (v : Value) (vs : List Value) : Prop:=match s with
 | .t l=>v = .tuple vs.toArray/\vs.length = l.length
 | _=>vs = [v]
def gC (s : Sig) : Sh:=⟨oL 0 (outs s.out),s.oob⟩
def vals (vs : List Value) : Nat->Option Value:=fun t=>vs[t]?
def Left (w0 : World) (Γ0 : List As) (ρ : Nat->Option Value) (M : Mem) (s : Sig) (r : St') (e : Ending) (w' : World) : Prop :=
 ∃ v vs ρ' M' lst' fr',e = .returned v/\tT s.out v vs/\Sub M M'/\(∀ i u,ρ i = some u->i∈s.oob.map Prod.fst->ρ' i = some u)/\(∀ i,(ρ' i).isSome = true->i∈s.oob.map Prod.fst)/\(∀ p∈lst',p.1∈s.oob.map Prod.fst) /\
  unpack aJ (gC s) r (fun x=>x = fr')/\Rel w0 Γ0 fr' ρ' M' lst' (vals vs) w'
def lW (P : Program) (s : Sig) (fr : Fr) (r : St') : Prop:=∀ (w0 : World) (Γ0 : List As) (ρ : Nat->Option Value) (M : Mem) (lst : List (Nat×As)) (vs : List Value) (w : World),vs.length = s.ins.sl.length->(∀ i,(ρ i).isSome = true->i∈s.ins.ob.map Prod.fst)->Rel w0 Γ0 fr ρ M lst (vals vs) w ->
 Calls P s.f vs.toArray w (Left w0 Γ0 ρ M s r)
def Is (P : Program) (s : Sig) (a r : St') : Prop:=unpack aJ s.ins a fun fr=>lW P s fr r
section
variable {J : Sig->St'->St'->Prop} {fr : Fr}
theorem jN {ds : List D} {j : Nat} {s : CSh} {k : C->Nat->Prg} {fs fo : List Nat} {o : Out} (hr : R1 J fr (unB mG ds j s k) fs fo o) : ∃ c q,(∀ K : C->Nat->Prop,unB aJ ds j s K↔K c q)/\R1 J fr (k c q) fs fo o:=by
 cases s with
 | i =>
  obtain ⟨z,h1,h2⟩:=hr
  refine ⟨_,_,fun K=>?_,h2⟩
  show aa (cell ds j) _↔_
  rw [h1]
  exact Iff.rfl
 | bo =>
  obtain ⟨z,h1,h2⟩:=hr
  refine ⟨_,_,fun K=>?_,h2⟩
  show bU (cell ds j) _↔_
  rw [h1]
  exact Iff.rfl
 | d=>exact ⟨_,_,fun K=>Iff.rfl,hr⟩
 | p b o=>exact ⟨_,_,fun K=>Iff.rfl,hr⟩
 | w b=>exact ⟨_,_,fun K=>Iff.rfl,hr⟩
 | m b=>exact ⟨_,_,fun K=>Iff.rfl,hr⟩
 | f g cs=>exact ⟨_,_,fun K=>Iff.rfl,hr⟩
theorem xy : ∀ {ss : List CSh} {ds : List D} {j : Nat} {k : List C->Nat->Prg} {fs fo : List Nat} {o : Out},R1 J fr (zf mG ds j ss k) fs fo o->∃ c q,(∀ K : List C->Nat->Prop,zf aJ ds j ss K↔K c q)/\R1 J fr (k c q) fs fo o
 | [],ds,j,k,fs,fo,o,hr=>⟨[],j,fun K=>Iff.rfl,hr⟩
 | s::ss,ds,j,k,fs,fo,o,hr=>by
  obtain ⟨c,q,h1,hr⟩:=jN hr
  obtain ⟨cs,q',h2,hr⟩:=xy (ss:=ss) hr
  exact ⟨c::cs,q',fun K=>(h1 _).trans (h2 _),hr⟩
theorem AS {ds : List D} {j : Nat} {s : CSh} {k : C->Nat->Prg} {fs fo : List Nat} {o : Out} (hr : R1 J fr (unC mG ds j s k) fs fo o) : ∃ c q,(∀ K : C->Nat->Prop,unC aJ ds j s K↔K c q)/\R1 J fr (k c q) fs fo o:=by
 cases s with
 | f g cs =>
  obtain ⟨c,q,h1,hr⟩:=xy (ss:=cs) (ds:=ds) (j:=j) (k:=fun cs j=>k (.f g cs) j) hr
  exact ⟨.f g c,q,fun K=>h1 (fun cs j=>K (.f g cs) j),hr⟩
 | i=>exact jN (s:=.i) (ds:=ds) (j:=j) (k:=k) hr
 | bo=>exact jN (s:=.bo) (ds:=ds) (j:=j) (k:=k) hr
 | d=>exact jN (s:=.d) (ds:=ds) (j:=j) (k:=k) hr
 | p b o=>exact jN (s:=.p b o) (ds:=ds) (j:=j) (k:=k) hr
 | w b=>exact jN (s:=.w b) (ds:=ds) (j:=j) (k:=k) hr
 | m b=>exact jN (s:=.m b) (ds:=ds) (j:=j) (k:=k) hr
theorem nT : ∀ {ss : List CSh} {ds : List D} {j : Nat} {k : List C->Nat->Prg} {fs fo : List Nat} {o : Out},R1 J fr (vM mG ds j ss k) fs fo o->∃ c q,(∀ K : List C->Nat->Prop,vM aJ ds j ss K↔K c q)/\R1 J fr (k c q) fs fo o
 | [],ds,j,k,fs,fo,o,hr=>⟨[],j,fun K=>Iff.rfl,hr⟩
 | s::ss,ds,j,k,fs,fo,o,hr=>by
  obtain ⟨c,q,h1,hr⟩:=AS hr
  obtain ⟨cs,q',h2,hr⟩:=nT (ss:=ss) hr
  exact ⟨c::cs,q',fun K=>(h1 _).trans (h2 _),hr⟩
theorem AN {ds : List D} {s : SSh} {k : S->Prg} {fs fo : List Nat} {o : Out} (hr : R1 J fr (unS mG ds s k) fs fo o) : ∃ x,(∀ K : S->Prop,unS aJ ds s K↔K x)/\(∀ l,x ≠ .t l)/\R1 J fr (k x) fs fo o:=by
 cases s with
 | c s =>
  obtain ⟨c,q,h1,hr⟩:=AS (s:=s) (ds:=ds) (j:=0) (k:=fun c _=>k (.c c)) hr
  exact ⟨.c c,fun K=>h1 (fun c _=>K (.c c)),by simp,hr⟩
 | a n=>exact ⟨_,fun K=>Iff.rfl,by simp,hr⟩
 | g cs =>
  obtain ⟨c,q,h1,hr⟩:=nT (ss:=cs) (ds:=ds) (j:=0) (k:=fun c _=>k (.g c)) hr
  exact ⟨.g c,fun K=>h1 (fun c _=>K (.g c)),by simp,hr⟩
 | t l=>exact ⟨su,fun K=>Iff.rfl,by simp [su],hr⟩
theorem unO_det {ds : List D} {s : OSh} {k : O->Prg} {fs fo : List Nat} {o : Out} (hr : R1 J fr (unO mG ds s k) fs fo o) : ∃ x,(∀ K : O->Prop,unO aJ ds s K↔K x)/\R1 J fr (k x) fs fo o:=by
 cases s with
 | b e cs =>
  obtain ⟨c,q,h1,hr⟩:=nT (ss:=cs) (ds:=ds) (j:=0) (k:=fun c _=>k (.b e c)) hr
  exact ⟨.b e c,fun K=>h1 (fun c _=>K (.b e c)),hr⟩
 | a e n=>exact ⟨_,fun K=>Iff.rfl,hr⟩
 | v e sz n cs =>
  obtain ⟨c,q,h1,hr⟩:=nT (ss:=cs) (ds:=ds) (j:=0) (k:=fun c _=>k (.v e sz n c)) hr
  exact ⟨.v e sz n c,fun K=>h1 (fun c _=>K (.v e sz n c)),hr⟩
 | m t ag vs =>
  obtain ⟨n,cs,h1,hr⟩:=hr
  refine ⟨.m t ag vs n cs,fun K=>?_,hr⟩
  show ah (3+vs) (cell ds 0) _↔_
  rw [h1]
  show (match Nat.beq (3+vs) (3+vs) with
   | true=>K (.m t ag vs n cs)
   | false=>False)↔_
  rw [bB]
 | w e sz =>
  obtain ⟨n,cs,h1,hr⟩:=hr
  refine ⟨.w e sz n cs,fun K=>?_,hr⟩
  show ah sz (cell ds 0) _↔_
  rw [h1]
  show (match Nat.beq sz sz with
   | true=>K (.w e sz n cs)
   | false=>False)↔_
  rw [bB]
def gf : Nat->List S->(Nat->S)->(Nat->S)
 | _,[],f=>f
 | j,x::l,f=>gf (j+1) l (fun i=>match Nat.beq i j with
  | true=>x
  | false=>f i)
theorem xw {r : St'} : ∀ {ss : List SSh} {j : Nat} {k : List S->Nat->Prg} {fs fo : List Nat} {o : Out},R1 J fr (unRs r j ss k) fs fo o->∃ xs q,xs.length = ss.length/\(∀ x∈xs,∀ l,x ≠ S.t l)/\(∀ (n : Nat) (f : Nat->S) (K : (Nat->S)->Nat->Prop),oZ aJ r j (oL n ss) f K↔K (gf n xs f) q)/\R1 J fr (k xs q) fs fo o
 | [],j,k,fs,fo,o,hr=>⟨[],j,rfl,by simp,fun n f K=>Iff.rfl,hr⟩
 | s::ss,j,k,fs,fo,o,hr=>by
  obtain ⟨x,h1,hx,hr⟩:=AN hr
  obtain ⟨xs,q,hl,hxs,h2,hr⟩:=xw (ss:=ss) hr
  refine ⟨x::xs,q,by simp [hl],fun y hy=>?_,fun n f K=>(h1 _).trans (h2 _ _ _),hr⟩
  rcases List.mem_cons.1 hy with rfl | hy
  ·exact hx
  ·exact hxs y hy
def DR : SSh->List S->S
 | .t _,xs=>.t xs
 | _,xs=>xs.getD 0 su
theorem AP {r : St'} {s : SSh} {k : S->Nat->Prg} {fs fo : List Nat} {o : Out} (hr : R1 J fr (unR r s k) fs fo o) :
  ∃ xs q,xs.length = (outs s).length/\(∀ x∈xs,∀ l,x ≠ S.t l)/\(∀ (f : Nat->S) (K : (Nat->S)->Nat->Prop),oZ aJ r 0 (oL 0 (outs s)) f K↔K (gf 0 xs f) q)/\R1 J fr (k (DR s xs) q) fs fo o:=by
 have one : ∀ (s : SSh) (_ : outs s = [s]),R1 J fr (unS mG (eJ (pz s) r 0).1 s fun x=>k x (eJ (pz s) r 0).2) fs fo o ->
   ∃ xs q,xs.length = (outs s).length/\(∀ x∈xs,∀ l,x ≠ S.t l)/\(∀ (f : Nat->S) (K : (Nat->S)->Nat->Prop),oZ aJ r 0 (oL 0 (outs s)) f K↔K (gf 0 xs f) q)/\R1 J fr (k (xs.getD 0 su) q) fs fo o:=by
  intro s hs hr
  obtain ⟨x,h1,hx,hr⟩:=AN hr
  refine ⟨[x],_,by rw [hs];rfl,fun y hy=>by rw [List.mem_singleton.1 hy];exact hx,fun f K=>?_,hr⟩
  rw [hs]
  exact h1 _
 cases s with
 | t l =>
  obtain ⟨xs,q,hl,hxs,h2,hr⟩:=xw (ss:=l) hr
  exact ⟨xs,q,hl,hxs,fun f K=>h2 0 f K,hr⟩
 | c _=>exact one _ rfl hr
 | a _=>exact one _ rfl hr
 | g _=>exact one _ rfl hr
theorem o4 : ∀ (xs : List S) (n : Nat) (f : Nat->S) (t : Nat),gf n xs f t = if n<=t/\t < n+xs.length then xs.getD (t - n) su else f t
 | [],n,f,t=>by
  rw [if_neg (by simp)]
  rfl
 | x::xs,n,f,t=>by
  rw [gf,o4 xs (n+1)]
  by_cases e : t = n
  ·subst e
   rw [if_neg (by omega),bB,if_pos (by simp)]
   simp
  ·rw [fy e]
   by_cases h : n+1<=t/\t < n+1+xs.length
   ·rw [if_pos h,if_pos (by simp;omega),show t - n = t - (n+1)+1 by omega]
    rfl
   ·rw [if_neg h,if_neg (by simp;omega)]
def obF : List (Nat×O)->Ob->Ob
 | [],f=>f
 | (b,x)::l,f=>obF l (Dj b x f)
def Gh (J : Sig->St'->St'->Prop) (fr : Fr) (mp : List (Nat×Tg)) (d : Nat) (r : St') (os : List (Nat×OSh)) (j : Nat) (l : List (Nat×O)) (k : List (Nat×O)->Prg) (fs : List Nat) (o : Out) : Prop :=
 ∃ (xs : List (Nat×O)) (fo' : List Nat),xs.map Prod.fst = os.map Prod.fst/\(∀ (f : Ob) (K : Ob->Prop),tL aJ r j os f K↔K (obF xs f))/\R1 J fr (k (l++xs.map fun p=>(aO mp d p.1,vr mp d p.2))) fs fo' o/\∀ i∈os.map Prod.fst,(∃ b,aY mp i = some (.ob b))\/fr.ob (d+10000 * (i+1)) = none
theorem tY {mp : List (Nat×Tg)} {d : Nat} {r : St'} : ∀ {os : List (Nat×OSh)} {j : Nat} {l : List (Nat×O)} {k : List (Nat×O)->Prg} {fs fo : List Nat} {o : Out},R1 J fr (AR mp d r j os l k) fs fo o->Gh J fr mp d r os j l k fs o
 | [],j,l,k,fs,fo,o,hr=>⟨[],fo,rfl,fun f K=>Iff.rfl,by rw [List.map_nil,List.append_nil];exact hr,fun i hi=>by simp at hi⟩
 | (b,s)::os,j,l,k,fs,fo,o,hr=>by
  obtain ⟨x,h1,hr⟩:=unO_det (fo:=fo) hr
  have key : ∀ fo1,R1 J fr (AR mp d r (eJ (wJ s) r j).2 os (l++[(aO mp d b,vr mp d x)]) k) fs fo1 o->((∃ c,aY mp b = some (.ob c))\/fr.ob (d+10000 * (b+1)) = none)->Gh J fr mp d r ((b,s)::os) j l k fs o:=fun fo1 hr hb=>by
   obtain ⟨xs,fo',hl,h2,hr,h3⟩:=tY (os:=os) hr
   refine ⟨(b,x)::xs,fo',by simp [hl],fun f K=>(h1 _).trans (h2 _ _),by rw [List.append_assoc] at hr;exact hr,fun i hi=>?_⟩
   rcases List.mem_cons.1 (show i∈b::os.map Prod.fst from hi) with rfl | hi
   ·exact hb
   ·exact h3 i hi
  unfold freeP at hr
  split at hr
  ·rename_i c hc
   exact key _ hr (.inl ⟨c,hc⟩)
  ·change R1 J fr (match fr.ob (d+10000 * (b+1)) with | none=>_ | some _=>_) _ _ _ at hr
   split at hr
   ·rename_i hn
    exact key _ hr (.inr hn)
   ·exact hr.elim
theorem rL : ∀ (n : Nat) {l seen : List Nat} {k : Ob->Prg} {f : Ob} {fs fo : List Nat} {o : Out},(∀ b x,f b = some x->fr.ob b = some x)->R1 J fr (rM n l seen k f) fs fo o->∃ ob fo',(∀ b x,ob b = some x->fr.ob b = some x)/\R1 J fr (k ob) fs fo' o
 | 0,_,_,_,f,_,fo,_,hf,hr=>⟨f,fo,hf,hr⟩
 | _+1,[],_,_,f,_,fo,_,hf,hr=>⟨f,fo,hf,hr⟩
 | n+1,b::l,seen,k,f,fs,fo,o,hf,hr=>by
  unfold rM at hr
  split at hr
  ·exact rL n hf hr
  ·refine rL n (fun c x hc=>?_) hr
   by_cases e : c = b
   ·subst e
    simp only [bB] at hc
    exact hc
   ·simp only [fy e] at hc
    exact hf c x hc
end
def dQ (M : Mem) (ρ : Nat->Option Value) : List S->List Value->Prop
 | [],[]=>True
 | s::ss,v::vs=>SR M ρ s v/\dQ M ρ ss vs
 | _,_=>False
theorem dQ.len {M : Mem} {ρ : Nat->Option Value} : ∀ {xs : List S} {vs : List Value},dQ M ρ xs vs->vs.length = xs.length
 | [],[],_=>rfl
 | _::_,_::_,h=>by simp [dQ.len h.2]
 | [],_::_,h=>h.elim
 | _::_,[],h=>h.elim
theorem dQ.mono {M M' : Mem} {ρ : Nat->Option Value} (hM : Sub M M') : ∀ {xs : List S} {vs : List Value},dQ M ρ xs vs->dQ M' ρ xs vs
 | [],[],_=>trivial
 | _::_,_::_,h=>⟨SR.mono hM (Ext.refl ρ) h.1,dQ.mono hM h.2⟩
 | [],_::_,h=>h.elim
 | _::_,[],h=>h.elim
theorem tZ {P : Program} {M : Mem} {ρ : Nat->Option Value} : ∀ {ts : List TypeId} {xs : List S} {vs : List Value},dQ M ρ xs vs->dQ M ρ (m4 P ts xs) vs
 | [],_,_,h=>by unfold m4;exact h
 | _::_,[],_,h=>by unfold m4;exact h
 | _::_,_::_,_::_,h=>⟨dR h.1,tZ h.2⟩
 | _::_,_::_,[],h=>h.elim
theorem qh {M : Mem} {ρ : Nat->Option Value} : ∀ {xs : List S} {vs : List Value} (j : Nat) (t : Nat),dQ M ρ xs vs->cv j xs t = su\/∃ v,j<=t/\vs[t - j]? = some v/\SR M ρ (cv j xs t) v
 | [],[],j,t,_=>.inl rfl
 | x::xs,v::vs,j,t,h=>by
  show (match Nat.beq t j with
   | true=>x
   | false=>cv (j+1) xs t) = su\/_
  by_cases e : t = j
  ·subst e
   right
   refine ⟨v,Nat.le_refl _,by simp,?_⟩
   show SR M ρ (match Nat.beq t t with
    | true=>x
    | false=>cv (t+1) xs t) v
   rw [bB]
   exact h.1
  ·rw [fy e]
   rcases qh (j+1) t h.2 with h1 | ⟨u,h1,h2,h3⟩
   ·exact .inl h1
   ·right
    refine ⟨u,by omega,by rw [show t - j = t - (j+1)+1 by omega];exact h2,?_⟩
    show SR M ρ (match Nat.beq t j with
     | true=>x
     | false=>cv (j+1) xs t) u
    rw [fy e]
    exact h3
 | [],_::_,_,_,h=>h.elim
 | _::_,[],_,_,h=>h.elim
theorem uY : ∀ {l : List (Nat×SSh)} {xs : List S},aH l xs = true->l.length = xs.length
 | [],[],_=>rfl
 | (_,_)::l,_::xs,h=>by
  simp only [aH,Bool.and_eq_true] at h
  simp [uY h.2]
 | [],_::_,h=>by simp [aH] at h
 | _::_,[],h=>by simp [aH] at h
theorem Ai {tb : Tb} {f : Nat} {xs : List S} {s : Sig} (h : wM tb f xs = some s) : s.f = f/\s.ins.sl.length = xs.length:=by
 unfold wM at h
 have:=List.find?_some h
 simp only [Bool.and_eq_true] at this
 exact ⟨Nat.eq_of_beq_eq_true this.1,uY this.2⟩
section
variable {M : Mem} {ρ ρ' : Nat->Option Value} {mp : List (Nat×Tg)} {d : Nat} (hb : ∀ i u,ρ i = some u->ρ' (aO mp d i) = some u)
theorem gH (hb : ∀ i u,ρ i = some u->ρ' (aO mp d i) = some u) {c : C} {v : Value} (h : CB M ρ c v) : CB M ρ' (BR mp d c) v:=by
 cases c with
 | p b o=>obtain ⟨k,h1,h2⟩:=h;exact ⟨k,hb _ _ h1,h2⟩
 | w b=>exact ⟨hb _ _ h.1,h.2⟩
 | m b=>obtain ⟨k,h1,h2⟩:=h;exact ⟨k,hb _ _ h1,h2⟩
 | q b sz k j=>exact trivial
 | d x=>exact h
 | n=>exact h
 | l _=>exact h
 | f _ _=>exact h.elim
 | z=>exact h
 | u=>exact trivial
theorem vu (hb : ∀ i u,ρ i = some u->ρ' (aO mp d i) = some u) : ∀ {cs : List C} {vs : List Value},CBs M ρ cs vs->CBs M ρ' (cs.map (BR mp d)) vs
 | [],[],_=>trivial
 | _::_,_::_,h=>⟨gH hb h.1,vu hb h.2⟩
 | [],_::_,h=>h.elim
 | _::_,[],h=>h.elim
theorem yX (hb : ∀ i u,ρ i = some u->ρ' (aO mp d i) = some u) : ∀ {c : C} {v : Value},CR M ρ c v->CR M ρ' (vt mp d c) v
 | .f _ _,_,⟨us,h1,h2⟩=>⟨us,h1,vu hb h2⟩
 | .d x,_,h=>(gH (M:=M) hb (c:=.d x) h)
 | .n,_,h=>(gH (M:=M) hb (c:=.n) h)
 | .l s,_,h=>(gH (M:=M) hb (c:=.l s) h)
 | .p b o,_,h=>(gH (M:=M) hb (c:=.p b o) h)
 | .q _ _ _ _,_,_=>trivial
 | .w b,_,h=>(gH (M:=M) hb (c:=.w b) h)
 | .m b,_,h=>(gH (M:=M) hb (c:=.m b) h)
 | .z,_,h=>(gH (M:=M) hb (c:=.z) h)
 | .u,_,_=>trivial
theorem mA (hb : ∀ i u,ρ i = some u->ρ' (aO mp d i) = some u) : ∀ {cs : List C} {vs : List Value},CRs M ρ cs vs->CRs M ρ' (cs.map (vt mp d)) vs
 | [],[],_=>trivial
 | _::_,_::_,h=>⟨yX hb h.1,mA hb h.2⟩
 | [],_::_,h=>h.elim
 | _::_,[],h=>h.elim
theorem yV (hb : ∀ i u,ρ i = some u->ρ' (aO mp d i) = some u) {s : S} {v : Value} (h : SB M ρ s v) : SB M ρ' (yW mp d s) v:=by
 cases s with
 | c c=>exact yX hb (c:=c) h
 | a n ds=>exact h
 | g cs=>obtain ⟨us,h1,h2⟩:=h;exact ⟨us,h1,mA hb h2⟩
 | r n ds o=>exact h
 | t l=>exact h.elim
theorem F3 (hb : ∀ i u,ρ i = some u->ρ' (aO mp d i) = some u) {lst lst' : List (Nat×As)} {i : Nat} {o : O} (hl : ∀ x,(i,x)∈lst->(aO mp d i,x)∈lst') (h : OR M ρ lst i o) : OR M ρ' lst' (aO mp d i) (vr mp d o):=by
 cases o with
 | b e cs=>obtain ⟨k,us,h1,h2,h3⟩:=h;exact ⟨k,us,hb _ _ h1,hl _ h2,mA hb h3⟩
 | a e n ds=>obtain ⟨k,us,h1,h2,h3⟩:=h;exact ⟨k,us,hb _ _ h1,hl _ h2,h3⟩
 | w e sz n ds=>obtain ⟨a,c,us,h1,h2,h3⟩:=h;exact ⟨a,c,us,hb _ _ h1,hl _ h2,h3⟩
 | v e sz n cs=>obtain ⟨a,c,us,h1,h2,h3,h4⟩:=h;exact ⟨a,c,us,hb _ _ h1,hl _ h2,mA hb h3,h4⟩
 | s sz n ds=>obtain ⟨v,h1,h2⟩:=h;exact ⟨v,hb _ _ h1,h2⟩
 | m t ag vs n ds=>obtain ⟨k,l,h1,h2,h3⟩:=h;exact ⟨k,l,hb _ _ h1,hl _ h2,h3⟩
 | gone=>trivial
end
theorem SR.toSB {M : Mem} {ρ : Nat->Option Value} {s : S} {v : Value} (h : SR M ρ s v) (hs : ∀ l,s ≠ .t l) : SB M ρ s v:=by
 cases s with
 | t l=>exact (hs l rfl).elim
 | c _=>exact h
 | a _ _=>exact h
 | g _=>exact h
 | r _ _ _=>exact h
def mP (ρ ρ' : Nat->Option Value) (d : Nat) (news : List Nat) : Nat->Option Value:=fun b=>match ρ b with
 | some v=>some v
 | none=>if b = d+10000 * ((b - d) / 10000 - 1+1)/\(b - d) / 10000 - 1∈news then ρ' ((b - d) / 10000 - 1) else none
theorem CL {ρ ρ' : Nat->Option Value} {d : Nat} {news : List Nat} : Ext ρ (mP ρ ρ' d news):=fun b v h=>by unfold mP;rw [h]
theorem CM {ρ ρ' : Nat->Option Value} {d : Nat} {news : List Nat} {i : Nat} (hi : i∈news) (hn : ρ (d+10000 * (i+1)) = none) : mP ρ ρ' d news (d+10000 * (i+1)) = ρ' i:=by
 unfold mP
 rw [hn]
 have : (d+10000 * (i+1) - d) / 10000 - 1 = i:=by omega
 simp only [this]
 rw [if_pos ⟨trivial,hi⟩]
theorem yj {ρ ρ' : Nat->Option Value} {d : Nat} {news : List Nat} {b : Nat} {v : Value} (h : mP ρ ρ' d news b = some v) : ρ b = some v\/∃ i∈news,b = d+10000 * (i+1)/\ρ' i = some v:=by
 unfold mP at h
 split at h
 ·rename_i u hu
  left
  rw [hu]
  exact h
 ·split at h
  ·rename_i hc
   exact .inr ⟨_,hc.2,hc.1,h⟩
  ·cases h
theorem Et : ∀ (l : List (Nat×O)) (f : Ob) (k : Nat),(l.map Prod.fst).Nodup->obF l f k = match l.find? fun p=>Nat.beq p.1 k with
  | some p=>some p.2
  | none=>f k
 | [],_,_,_=>rfl
 | (b,x)::l,f,k,hn=>by
  have hn':=List.nodup_cons.1 (show (b::l.map Prod.fst).Nodup from hn)
  rw [obF,Et l _ k hn'.2,List.find?_cons]
  by_cases e : b = k
  ·subst e
   simp only [bB]
   have : l.find? (fun p=>Nat.beq p.1 b) = none:=List.find?_eq_none.2 fun p hp hb=>hn'.1 (by rw [<-Nat.eq_of_beq_eq_true hb];exact List.mem_map_of_mem hp)
   rw [this,oT,if_pos rfl]
  ·simp only [fy e]
   cases hf : l.find? (fun p=>Nat.beq p.1 k) with
   | some p=>rfl
   | none=>simp only [];rw [oT,if_neg (Ne.symm e)]
theorem obF_mem {l : List (Nat×O)} {f : Ob} {k : Nat} {x : O} (hn : (l.map Prod.fst).Nodup) (hm : (k,x)∈l) : obF l f k = some x:=by
 rw [Et l f k hn]
 cases hf : l.find? (fun p=>Nat.beq p.1 k) with
 | none =>
  have:=List.find?_eq_none.1 hf _ hm
  simp at this
 | some p =>
  have h1:=List.mem_of_find?_eq_some hf
  have h2:=Nat.eq_of_beq_eq_true (List.find?_some (p:=fun p : Nat×O=>Nat.beq p.1 k) hf)
  have : p.2 = x:=by
   clear hf
   induction l with
   | nil=>cases hm
   | cons z l ih =>
    have hn':=List.nodup_cons.1 (show (z.1::l.map Prod.fst).Nodup from hn)
    rcases List.mem_cons.1 hm with e1 | hm <;> rcases List.mem_cons.1 h1 with e2 | h1
    ·rw [e2,<-e1]
    ·exact (hn'.1 (by rw [<-e1,show (k,x).1 = p.1 from h2.symm];exact List.mem_map_of_mem h1)).elim
    ·exact (hn'.1 (by rw [<-e2,h2];exact List.mem_map_of_mem (f:=Prod.fst) hm)).elim
    ·exact ih hn'.2 hm h1
  show some p.2 = some x
  rw [this]
theorem xz : ∀ (os : List (Nat×O)) {fr : Fr} {k : Nat} {o : O},(fr.aF os).ob k = some o->(k,o)∈os\/fr.ob k = some o/\∀ p∈os,p.1 ≠ k
 | [],_,_,_,h=>.inr ⟨h,fun p hp=>by simp at hp⟩
 | (b,x)::os,fr,k,o,h=>by
  rw [Fr.aF] at h
  rcases xz os h with h1 | ⟨h1,h2⟩
  ·exact .inl (List.mem_cons_of_mem _ h1)
  ·rw [de] at h1
   by_cases e : k = b
   ·subst e
    rw [if_pos rfl] at h1
    simp only [Option.some.injEq] at h1
    subst h1
    exact .inl (List.mem_cons_self ..)
   ·rw [if_neg e] at h1
    refine .inr ⟨h1,fun p hp=>?_⟩
    rcases List.mem_cons.1 hp with rfl | hp
    ·exact Ne.symm e
    ·exact h2 p hp
theorem o3 : ∀ (os : List (Nat×O)) {fr : Fr} {k : Nat},(fr.ob k).isSome = true\/k∈os.map Prod.fst->((fr.aF os).ob k).isSome = true
 | [],_,_,h=>h.resolve_right (by simp)
 | (b,x)::os,fr,k,h=>by
  rw [Fr.aF]
  refine o3 os ?_
  rw [de]
  by_cases e : k = b
  ·left;rw [if_pos e];rfl
  ·rw [if_neg e]
   rcases h with h | h
   ·exact .inl h
   ·rcases List.mem_cons.1 (show k∈b::os.map Prod.fst from h) with h | h
    ·exact (e h).elim
    ·exact .inr h
theorem oC {oob : List (Nat×OSh)} : ∀ {mp : List (Nat×Tg)} {p : Nat×O},p∈gone oob mp->p.2 = .gone
 | (i,.ob b)::mp,p,h=>by
  unfold gone at h
  split at h
  ·exact oC h
  ·rcases List.mem_cons.1 h with rfl | h
   ·rfl
   ·exact oC h
 | (i,.nil _)::mp,p,h=>oC (mp:=mp) h
theorem yq {oob : List (Nat×OSh)} : ∀ {mp : List (Nat×Tg)} {i b : Nat},aY mp i = some (.ob b)->i ∉ oob.map Prod.fst->b∈(gone oob mp).map Prod.fst
 | (j,x)::mp,i,b,h,hn=>by
  rw [cW] at h
  by_cases e : i = j
  ·subst e
   rw [if_pos rfl] at h
   simp only [Option.some.injEq] at h
   subst h
   unfold gone
   split
   ·rename_i ha
    obtain ⟨p,hp,he⟩:=List.any_eq_true.1 ha
    exact (hn (by rw [<-Nat.eq_of_beq_eq_true he];exact List.mem_map_of_mem hp)).elim
   ·exact List.mem_cons_self ..
  ·rw [if_neg e] at h
   have:=yq h hn
   cases x with
   | ob c =>
    unfold gone
    split
    ·exact this
    ·exact List.mem_cons_of_mem _ this
   | nil sz=>exact this
 | [],_,_,h,_=>by simp [aY] at h
theorem oe {α β : Type} {f : α->β} : ∀ {l : List α},(∀ x∈l,∀ y∈l,f x = f y->x = y)->l.Nodup->(l.map f).Nodup
 | [],_,_=>List.nodup_nil
 | x::l,h,hn=>by
  have hn':=List.nodup_cons.1 hn
  rw [List.map_cons]
  refine List.nodup_cons.2 ⟨fun hm=>?_,oe (fun y hy z hz=>h y (List.mem_cons_of_mem _ hy) z (List.mem_cons_of_mem _ hz)) hn'.2⟩
  obtain ⟨y,hy,e⟩:=List.mem_map.1 hm
  have:=h y (List.mem_cons_of_mem _ hy) x (List.mem_cons_self ..) e
  subst this
  exact hn'.1 hy
theorem uW {ob : Ob} : ∀ {l : List Nat} {p : Nat×O},p∈fixed ob l->∃ e sz n ds,p.2 = .s sz n ds/\ob p.1 = some (.w e sz n ds)/\p.1∈l
 | c::l,p,h=>by
  have rest : p∈fixed ob l->∃ e sz n ds,p.2 = .s sz n ds/\ob p.1 = some (.w e sz n ds)/\p.1∈c::l:=fun h=>by
   obtain ⟨e,sz,n,ds,h1,h2,h3⟩:=uW h
   exact ⟨e,sz,n,ds,h1,h2,List.mem_cons_of_mem _ h3⟩
  unfold fixed at h
  split at h
  ·rename_i e sz n ds hob
   rcases List.mem_cons.1 h with rfl | h
   ·exact ⟨e,sz,n,ds,rfl,hob,List.mem_cons_self ..⟩
   ·exact rest h
  ·exact rest h
theorem uZ {ob : Ob} {mp : List (Nat×Tg)} {fx : List Nat} : ∀ {l : List (Nat×OSh)} {r : St'} {i : Nat},y7 ob mp fx l r->i∈l.map Prod.fst->∃ o ds,tJ ob mp fx i o ds
 | (j,o)::l,r,i,⟨ds,r',h1,h2,_⟩,hi=>by
  rcases List.mem_cons.1 (show i∈j::l.map Prod.fst from hi) with rfl | hi
  ·exact ⟨o,ds,h1⟩
  ·exact uZ h2 hi
theorem CY {ob : Ob} {mp : List (Nat×Tg)} {fx : List Nat} {i b : Nat} {o : OSh} {ds : List D} (hf : tJ ob mp fx i o ds) (hg : aY mp i = some (.ob b)) : ∃ x,ob b = some x/\x ≠ .gone:=by
 rcases hf with ⟨b',x,h1,h2,h3⟩ | ⟨e,sz,h1,_⟩
 ·rw [hg] at h1
  simp only [Option.some.injEq,Tg.ob.injEq] at h1
  subst h1
  refine ⟨x,h2,?_⟩
  rintro rfl
  cases o with
  | b e cs=>obtain ⟨cs',h4,_⟩:=h3;simp [tf] at h4
  | a e n=>rcases h3 with h3 | ⟨_,h3,_⟩ <;> cases h3
  | w e sz=>obtain ⟨n,cs,h4,_⟩:=h3;cases h4
  | v e sz n cs=>obtain ⟨cs',h4,_⟩:=h3;cases h4
  | m t ag vs=>obtain ⟨n,cs,h4,_⟩:=h3;cases h4
 ·rw [hg] at h1;cases h1
theorem OR_some {M : Mem} {ρ : Nat->Option Value} {lst : List (Nat×As)} {b : Nat} {x : O} (h : OR M ρ lst b x) (hx : x ≠ .gone) : ∃ v,ρ b = some v:=by
 cases x with
 | b e cs=>obtain ⟨k,us,h1,_⟩:=h;exact ⟨_,h1⟩
 | a e n ds=>obtain ⟨k,us,h1,_⟩:=h;exact ⟨_,h1⟩
 | w e sz n ds=>obtain ⟨a,c,us,h1,_⟩:=h;exact ⟨_,h1⟩
 | v e sz n cs=>obtain ⟨a,c,us,h1,_⟩:=h;exact ⟨_,h1⟩
 | s sz n ds=>obtain ⟨v,h1,_⟩:=h;exact ⟨_,h1⟩
 | m t ag vs n ds=>obtain ⟨k,l,h1,_⟩:=h;exact ⟨_,h1⟩
 | gone=>exact (hx rfl).elim
def fI (mp : List (Nat×Tg)) (i : Nat) : Bool:=match aY mp i with
 | some (.ob _)=>false
 | _=>true
def D1 : As->Bool
 | .own ..=>true
 | .acc ..=>true
 | _=>false
theorem D0 {x : As} (h : D1 x = true) : x.owns:=by cases x <;> first | trivial | cases h
def Flat (x : S) : Prop:=∃ u,x = .c (.d (.v u))
theorem Fk {M M' : Mem} {ρ ρ' : Nat->Option Value} {x : S} {v : Value} (hx : Flat x) (h : SB M ρ x v) : SB M' ρ' x v:=by
 obtain ⟨u,rfl⟩:=hx
 exact h
theorem uV {M M' : Mem} {ρ ρ' : Nat->Option Value} : ∀ {xs : List S} {vs : List Value},(∀ x∈xs,Flat x)->SBs M ρ xs vs->SBs M' ρ' xs vs
 | [],[],_,_=>trivial
 | _::_,_::_,hx,h=>⟨Fk (hx _ (List.mem_cons_self ..)) h.1,uV (fun x hm=>hx x (List.mem_cons_of_mem _ hm)) h.2⟩
 | [],_::_,_,h=>h.elim
 | _::_,[],_,h=>h.elim
theorem DP {M : Mem} {ρ : Nat->Option Value} {s : SSh} {xs : List S} {v : Value} {vs : List Value} (hl : xs.length = (outs s).length) (hv : tT s v vs) (hx : ∀ x∈xs,∀ l,x ≠ S.t l) (h : SBs M ρ xs vs) : SR M ρ (DR s xs) v:=by
 have one : xs.length = 1->vs = [v]->SR M ρ (xs.getD 0 su) v:=fun h1 h2=>by
  subst h2
  match xs,h1,h,hx with
  | [x],_,h,hx=>exact h.1.toSR
 unfold tT at hv
 cases s with
 | t l=>exact ⟨vs,hv.1,h⟩
 | c _=>exact one hl hv
 | a _=>exact one hl hv
 | g _=>exact one hl hv
theorem tX {r : St'} : ∀ {ss : List SSh} {n j : Nat} {f : Nat->S} {K : (Nat->S)->Nat->Prop},ss.all uw = true->oZ aJ r j (oL n ss) f K->∃ sl q,K sl q/\(∀ t,n<=t->t < n+ss.length->Flat (sl t))/\∀ t,t < n->sl t = f t
 | [],n,j,f,K,_,h=>⟨f,j,h,fun t h1 h2=>by simp at h2;omega,fun _ _=>rfl⟩
 | s::ss,n,j,f,K,hs,h=>by
  simp only [List.all_cons,Bool.and_eq_true] at hs
  have key : ∀ (x : S),Flat x->oZ aJ r (eJ (pz s) r j).2 (oL (n+1) ss) (fun i=>match Nat.beq i n with
   | true=>x
   | false=>f i) K->∃ sl q,K sl q/\(∀ t,n<=t->t < n+(s::ss).length->Flat (sl t))/\∀ t,t < n->sl t = f t:=by
   intro x hx h
   obtain ⟨sl,q,h1,h2,h3⟩:=tX hs.2 h
   refine ⟨sl,q,h1,fun t h4 h5=>?_,fun t h4=>?_⟩
   ·by_cases e : t = n
    ·subst e
     rw [h3 t (by omega)]
     simp only [bB]
     exact hx
    ·exact h2 t (by omega) (by simp at h5;omega)
   ·rw [h3 t (by omega)]
    simp only [fy (show t ≠ n by omega)]
  cases s with
  | c x =>
   cases x with
   | i=>obtain ⟨z,_,h⟩:=lF h;exact key _ ⟨_,rfl⟩ h
   | bo=>obtain ⟨z,_,h⟩:=iN h;exact key _ ⟨_,rfl⟩ h
   | _=>simp [uw] at hs
  | _=>simp [uw] at hs
def After (w0 : World) (Γ0 : List As) (ρ : Nat->Option Value) (M : Mem) (fr : Fr) (val : Nat->Option Value) (o : Out) (e : Ending) (w' : World) : Prop :=
 ∃ v s ρ' M' lst',e = .returned v/\o.v = some s/\Sub M M'/\Ext ρ ρ'/\SR M' ρ' s v/\Rel w0 Γ0 (fr.aF o.ob) ρ' M' lst' val w'
section
variable {P : Program} {tb : Tb} {w0 : World} {Γ0 : List As} {fr : Fr} {ρ : Nat->Option Value} {M : Mem} {lst : List (Nat×As)} {val : Nat->Option Value} {w : World} {fs fo : List Nat} {o : Out}
theorem A7 {M : Mem} {ρ : Nat->Option Value} {s : SSh} {xs : List S} {v : Value} {vs : List Value} (hl : xs.length = (outs s).length) (hv : tT s v vs) (hx : ∀ x∈xs,∀ l,x ≠ S.t l) (h : ∀ t,gf 0 xs (fun _=>su) t = su\/∃ u,vals vs t = some u/\SR M ρ (gf 0 xs (fun _=>su) t) u) : SBs M ρ xs vs:=by
 have key : ∀ (xs : List S) (vs : List Value),vs.length = xs.length->(∀ (i : Nat) (s : S),xs[i]? = some s->s = su\/∃ u,vs[i]? = some u/\SB M ρ s u)->SBs M ρ xs vs:=by
  intro xs
  induction xs with
  | nil=>intro vs hl _;cases vs with
   | nil=>exact trivial
   | cons _ _=>simp at hl
  | cons x xs ih =>
   intro vs hl hs
   cases vs with
   | nil=>simp at hl
   | cons u us =>
    refine ⟨?_,ih us (by simpa using hl) fun i s hi=>by simpa using hs (i+1) s (by simpa using hi)⟩
    rcases hs 0 x rfl with rfl | ⟨u',h1,h2⟩
    ·exact trivial
    ·simp only [List.getElem?_cons_zero,Option.some.injEq] at h1
     subst h1
     exact h2
 have hvs : vs.length = xs.length:=by
  rw [hl]
  unfold tT at hv
  cases s with
  | t l=>exact hv.2
  | c _=>rw [hv];rfl
  | a _=>rw [hv];rfl
  | g _=>rw [hv];rfl
 refine key xs vs hvs fun i s' hi=>?_
 have hlt : i < xs.length:=by
  rcases Nat.lt_or_ge i xs.length with h1 | h1
  ·exact h1
  ·rw [List.getElem?_eq_none h1] at hi;cases hi
 have e : gf 0 xs (fun _=>su) i = s':=by
  rw [o4,if_pos (by omega),Nat.sub_zero,List.getD_eq_getElem?_getD,hi]
  rfl
 have hmem : s'∈xs:=List.mem_of_getElem? hi
 rcases h i with h1 | ⟨u,h1,h2⟩
 ·rw [e] at h1;exact .inl h1
 ·rw [e] at h2
  exact .inr ⟨u,h1,h2.toSB (hx s' hmem)⟩
theorem DQ {M : Mem} {ρ ρ' : Nat->Option Value} {mp : List (Nat×Tg)} {d : Nat} (hb : ∀ i u,ρ i = some u->ρ' (aO mp d i) = some u) {s : SSh} {xs : List S} {v : Value} {vs : List Value} (hl : xs.length = (outs s).length) (hv : tT s v vs) (hx : ∀ x∈xs,∀ l,x ≠ S.t l) (h : SBs M ρ xs vs) : SR M ρ' (vq mp d (DR s xs)) v:=by
 have one : xs.length = 1->vs = [v]->SR M ρ' (vq mp d (xs.getD 0 su)) v:=fun h1 h2=>by
  subst h2
  match xs,h1,h,hx with
  | [x],_,h,hx =>
   have : vq mp d ([x].getD 0 su) = yW mp d x:=by
    show vq mp d x = _
    cases x with
    | t l=>exact (hx _ (List.mem_singleton.2 rfl) l rfl).elim
    | c _=>rfl
    | a _ _=>rfl
    | g _=>rfl
    | r _ _ _=>rfl
   rw [this]
   exact (yV hb h.1).toSR
 have many : ∀ {xs : List S} {vs : List Value},SBs M ρ xs vs->SBs M ρ' (xs.map (yW mp d)) vs:=by
  intro xs
  induction xs with
  | nil=>intro vs h;cases vs with
   | nil=>exact trivial
   | cons _ _=>exact h.elim
  | cons x xs ih=>intro vs h;cases vs with
   | nil=>exact h.elim
   | cons u us=>exact ⟨yV hb h.1,ih h.2⟩
 unfold tT at hv
 cases s with
 | t l=>exact ⟨vs,hv.1,many h⟩
 | c _=>exact one hl hv
 | a _=>exact one hl hv
 | g _=>exact one hl hv
theorem Cx {s : Sig} {r : St'} {xs : List S} {q : Nat} {ys : List (Nat×O)} {fr' : Fr} (h1 : ∀ (f : Nat->S) (K : (Nat->S)->Nat->Prop),oZ aJ r 0 (oL 0 (outs s.out)) f K↔K (gf 0 xs f) q) (h2 : ∀ (f : Ob) (K : Ob->Prop),tL aJ r q s.oob f K↔K (obF ys f))
  (h : unpack aJ (gC s) r (fun x=>x = fr')) : fr'.sl = gf 0 xs (fun _=>su)/\fr'.ob = obF ys (fun _=>none):=by
 unfold unpack gC at h
 rw [h1,h2] at h
 rw [<-h]
 exact ⟨rfl,rfl⟩
theorem oO (h : Rel w0 Γ0 fr ρ M lst val w) {id f : Nat} (hid : fr.base<=id) {xs : List S} {vs : List Value} (hxs : dQ M ρ xs vs) (hr : R1 (Is P) fr (BN P tb id f xs) fs fo o) :
  bC P f = true/\Calls P f vs.toArray w (After w0 Γ0 ρ M fr val o):=by
 unfold BN at hr
 split at hr
 ·exact hr.elim
 ·exact hr.elim
 ·rename_i fn hfn hfB
  refine ⟨hfB,?_⟩
  split at hr
  ·exact hr.elim
  ·rename_i s hs
   obtain ⟨hsf,hslen⟩:=Ai hs
   have hty:=tZ (P:=P) (ts:=fn.params.toList) hxs
   generalize m4 P fn.params.toList xs = xt at hr hs hslen hty
   obtain ⟨ob,fo1,hob,hr⟩:=rL 12 (fr:=fr) (fun b x hb=>by cases hb) hr
   split at hr
   ·exact hr.elim
   ·rename_i a k hpk
    have hvl : vs.length = s.ins.sl.length:=by rw [hslen,hty.len]
    unfold pack at hpk
    split at hpk
    ·rename_i r1 k1 p1
     split at hpk
     ·rename_i r2 k2 p2
      split at hpk
      ·rename_i hb
       simp only [Bool.and_eq_true] at hb
       simp only [Option.some.injEq,Prod.mk.injEq] at hpk
       obtain ⟨rfl,rfl⟩:=hpk
       obtain ⟨a1,a2⟩:=nu p1
       obtain ⟨a3,a4⟩:=nv p2
       have hinj:=a3.inj (a1.inj tU.nil)
       have hfit:=mS.mono a3.mp a3.fix a2
       have hnum : ∀ M1,Sub M M1->∀ t,cv 0 xt t = su\/∃ v,vals vs t = some v/\SR M1 ρ (cv 0 xt t) v:=fun M1 hM t=>by
        rcases qh 0 t (hty.mono hM) with h1 | ⟨v,_,h1,h2⟩
        ·exact .inl h1
        ·exact .inr ⟨v,h1,h2⟩
       have hlinkdom : ∀ i,(dh k2.mp ρ i).isSome = true->i∈s.ins.ob.map Prod.fst:=fun i hi=>by
        unfold dh at hi
        split at hi
        ·rename_i hg;exact ee hb.1.1 hg
        ·rename_i hg;exact ee hb.1.1 hg
        ·cases hi
       split at hr
       ·exact hr.elim
       rename_i hvx
       split at hr
       ·-- lent
        rename_i hlend
        split at hr
        ·rename_i hlb
         obtain ⟨r,hIs,hr⟩:=hr
         obtain ⟨ys,q,hyl,hyt,hy,hr⟩:=AP hr
         unfold lendB at hlb
         simp only [Bool.and_eq_true,List.isEmpty_iff] at hlb
         obtain ⟨⟨hio,hoo⟩,hsc⟩:=hlb
         have hr : o = ⟨some (DR s.out ys),[],_,_⟩:=hr
         subst hr
         have hflat : ∀ y∈ys,Flat y:=by
          have hall : (outs s.out).all uw = true:=by
           cases hso : s.out with
           | t l=>rw [hso] at hsc;exact hsc
           | c _=>rw [hso] at hsc;simp [outs];exact hsc
           | a _=>rw [hso] at hsc;simp [outs];exact hsc
           | g _=>rw [hso] at hsc;simp [outs];exact hsc
          obtain ⟨sl,q',e,hfl,_⟩:=tX hall ((hy (fun _=>su) (fun sl _=>sl = gf 0 ys (fun _=>su))).2 rfl)
          intro y hym
          obtain ⟨i,hi,rfl⟩:=List.getElem_of_mem hym
          have:=hfl i (Nat.zero_le _) (by rw [<-hyl];omega)
          rw [e,o4,if_pos (by omega),Nat.sub_zero,List.getD_eq_getElem?_getD,List.getElem?_eq_getElem hi] at this
          exact this
         -- the rows that are lent
         let pr : Nat×As->Bool:=fun p=>decide (p.1∈k2.fix) && D1 p.2
         have hperm : List.Perm (lst.filter pr++lst.filter (fun p=>!pr p)) lst:=List.filter_append_perm _ _
         have hst : St w0 M ((lst.filter pr).map Prod.snd++((lst.filter (fun p=>!pr p)).map Prod.snd++Γ0)) w:=h.st.perm (by
          rw [<-List.append_assoc,<-List.map_append]
          exact ((hperm.map Prod.snd).append_right Γ0).symm)
         have ho : ∀ x∈(lst.filter pr).map Prod.snd,x.owns:=fun x hx=>by
          obtain ⟨p,hp,rfl⟩:=List.mem_map.1 hx
          have:=(List.mem_filter.1 hp).2
          simp only [pr,Bool.and_eq_true] at this
          exact D0 this.2
         obtain ⟨M1,hl,hst1⟩:=St.lend _ ho hst
         have hrows : fW ρ M1 ob k2.fix:=fun b sz n cs hb=>by
          rcases hb.plain hvx with ⟨⟨e,hb⟩,hm⟩ | hb
          ·obtain ⟨ad,c,us,h1,h2,h3,h4,h5⟩:=h.ob b _ (hob b _ hb)
           exact ⟨_,h1,hl.acc (List.mem_map.2 ⟨_,List.mem_filter.2 ⟨h2,by simp [pr,hm,D1]⟩,rfl⟩) (h3.mono hl.sub) h5⟩
          ·obtain ⟨v,h1,h2⟩:=h.ob b _ (hob b _ hb)
           exact ⟨v,h1,Rd.mono hl.sub _ _ h2⟩
         have hnol : ∀ i x,aY k2.mp i ≠ some x:=fun i x hg=>by
          have:=ee hb.1.1 hg
          rw [hio] at this
          simp at this
         obtain ⟨fr',lst',rem,hcall,hbase,hR',hl',hrn,hrem,hrem2⟩:=oY (w0:=w0) (lst:=[]) (Γ0:=(lst.filter (fun p=>!pr p)).map Prod.snd++Γ0) (fun i b x hi hx=>(hnol i _ hi).elim) List.nodup_nil (fun p hp=>by simp at hp) hst1 (h.gr.mono hl.sub) hrows (hnum M1 hl.sub) hfit a4 hb.1.1 hb.2 hinj hIs
         have hrem0 : rem = []:=List.eq_nil_iff_forall_not_mem.2 fun p hp=>by
          have:=(hrem p hp).1
          simp at this
         subst hrem0
         have hc:=hcall w0 _ (dh k2.mp ρ) M1 lst' vs w hvl hlinkdom hR'
         rw [hsf] at hc
         refine hc.mono ?_
         rintro e w' ⟨v,vs',ρ',M',lst2,fr2,rfl,hres,hM2,hext,hdom,hl2,hun,hR2⟩
         have hl20 : lst2 = []:=List.eq_nil_iff_forall_not_mem.2 fun p hp=>by
          have:=hl2 p hp
          rw [hoo] at this
          simp at this
         subst hl20
         have hsl2 : fr2.sl = gf 0 ys (fun _=>su):=by
          have h9:=hun
          unfold unpack gC at h9
          rw [hy,hoo] at h9
          rw [<-show _ = fr2 from h9]
         have hsb : SBs M' ρ' ys vs':=A7 hyl hres hyt (by rw [<-hsl2];exact hR2.sl)
         obtain ⟨b1,b2,b3⟩:=hl.back ho hM2 (by simpa using hR2.st)
         refine ⟨v,_,ρ,_,lst,rfl,rfl,b1,Ext.refl ρ,DP hyl hres hyt (uV hflat hsb),⟨fun t=>?_,fun k o hk=>OR.mono b1 (Ext.refl ρ) (fun x hx=>hx) (h.ob k o hk),h.rho,h.keys,h.nd,b3.perm ?_,h.gr.mono b1⟩⟩
         ·rcases h.sl t with h1 | ⟨u,h1,h2⟩
          ·exact .inl h1
          ·exact .inr ⟨u,h1,SR.mono b1 (Ext.refl ρ) h2⟩
         ·rw [<-List.append_assoc,<-List.map_append]
          exact (hperm.map Prod.snd).append_right Γ0
        ·exact hr.elim
       ·-- for good
        split at hr
        rotate_left
        ·exact hr.elim
        rename_i hnd
        obtain ⟨r,hIs,hr⟩:=hr
        obtain ⟨ys,q,hyl,hyt,hy,hr⟩:=AP hr
        obtain ⟨zs,fo2,hzl,hz,hr,hfree⟩:=tY hr
        have hr : o = ⟨some (vq k2.mp id (DR s.out ys)),fixed ob k2.fix++gone s.oob k2.mp++zs.map fun p=>(aO k2.mp id p.1,vr k2.mp id p.2),_,_⟩:=hr
        subst hr
        obtain ⟨M1,lst1,hM1,hR1,hrows⟩:=Ce h hob k2.fix hvx
        have hkeep : ∀ i b,aY k2.mp i = some (.ob b)->∀ x,ob b = some x->(fr.aF (fixed ob k2.fix)).ob b = some x:=fun i b hi x hx=>by
         rw [gR _ fun p hp e=>?_]
         ·exact hob b x hx
         ·have:=mh hp
          rw [e] at this
          exact tD hb.1.2 this hi
        obtain ⟨fr',lst',rem,hcall,hbase,hR',hl',hrn,hrem,hrem2⟩:=oY (w0:=w0) (Γ0:=Γ0) (fun i b x hi hx=>hR1.ob b x (hkeep i b hi x hx)) hR1.nd hR1.keys hR1.st hR1.gr hrows (hnum M1 hM1) hfit a4 hb.1.1 hb.2 hinj hIs
        have hc:=hcall w0 (rem.map Prod.snd++Γ0) (dh k2.mp ρ) M1 lst' vs w hvl hlinkdom hR'
        rw [hsf] at hc
        refine hc.mono ?_
        rintro e w' ⟨v,vs',ρ',M',lst2,fr2,rfl,hres,hM2,hext,hdom,hl2,hun,hR2⟩
        obtain ⟨hsl2,hob2⟩:=Cx hy hz hun
        have hsb : SBs M' ρ' ys vs':=A7 hyl hres hyt (by rw [<-hsl2];exact hR2.sl)
        have hnone : ∀ i∈s.oob.map Prod.fst,fI k2.mp i = true->ρ (id+10000 * (i+1)) = none:=fun i hi hnew=>by
         rcases hfree i hi with ⟨b,hg⟩ | hfr
         ·unfold fI at hnew;rw [hg] at hnew;cases hnew
         ·exact h.fresh hfr (by omega)
        have hsomeb : ∀ i b,aY k2.mp i = some (.ob b)->∃ v,ρ b = some v:=fun i b hg=>by
         obtain ⟨o',ds',hf'⟩:=uZ a4 (ee hb.1.1 hg)
         obtain ⟨x,hx,hne⟩:=CY hf' hg
         exact OR_some (h.ob b x (hob b x hx)) hne
        have hEn : Ext ρ (mP ρ ρ' id ((s.oob.map Prod.fst).filter (fI k2.mp))):=CL
        have hbN : ∀ i u,ρ' i = some u->mP ρ ρ' id ((s.oob.map Prod.fst).filter (fI k2.mp)) (aO k2.mp id i) = some u:=fun i u hu=>by
         have hio:=hdom i (by rw [hu];rfl)
         unfold aO
         split
         ·rename_i b hg
          obtain ⟨v0,hv0⟩:=hsomeb i b hg
          have h7:=hext i v0 (by rw [dA hg];exact hv0) hio
          rw [hu] at h7
          rw [hEn _ _ hv0,h7]
         ·rename_i hg
          have hnew : fI k2.mp i = true:=by
           unfold fI
           split
           ·rename_i b hb';exact (hg b hb').elim
           ·rfl
          rw [CM (List.mem_filter.2 ⟨hio,hnew⟩) (hnone i hio hnew),hu]
        have hMM : Sub M M':=hM1.trans hM2
        have hkeyz : ∀ i∈s.oob.map Prod.fst,aO k2.mp id i∈(fixed ob k2.fix++gone s.oob k2.mp++zs.map fun p=>(aO k2.mp id p.1,vr k2.mp id p.2)).map Prod.fst:=fun i hi=>by
         rw [<-hzl] at hi
         obtain ⟨p,hp,rfl⟩:=List.mem_map.1 hi
         rw [List.map_append]
         exact List.mem_append_right _ (List.mem_map.2 ⟨_,List.mem_map.2 ⟨p,hp,rfl⟩,rfl⟩)
        have hznd : (zs.map Prod.fst).Nodup:=by rw [hzl];exact o9 hnd
        refine ⟨v,_,mP ρ ρ' id ((s.oob.map Prod.fst).filter (fI k2.mp)),M',lst2.map (fun p=>(aO k2.mp id p.1,p.2))++rem,rfl,rfl,hMM,hEn,DQ hbN hyl hres hyt hsb,⟨fun t=>?_,fun k o hk=>?_,fun k u hk=>?_,fun p hp=>?_,?_,?_,h.gr.mono hMM⟩⟩
        ·rw [qK]
         rcases h.sl t with h1 | ⟨u,h1,h2⟩
         ·exact .inl h1
         ·exact .inr ⟨u,h1,SR.mono hMM hEn h2⟩
        ·rcases xz _ hk with hk | ⟨hk,hne⟩
         ·rcases List.mem_append.1 hk with hk | hk
          ·rcases List.mem_append.1 hk with hk | hk
           ·obtain ⟨e,sz,n,ds,e1,e2,e3⟩:=uW hk
            have e1 : o = .s sz n ds:=e1
            subst e1
            obtain ⟨u,e4,e5⟩:=hrows k sz n ds (.inl (.inl ⟨⟨e,e2⟩,e3⟩))
            exact ⟨u,hEn _ _ e4,Rd.mono hM2 _ _ e5⟩
           ·have e1 : o = .gone:=oC hk
            subst e1
            exact trivial
          ·obtain ⟨p,hp,e⟩:=List.mem_map.1 hk
           simp only [Prod.mk.injEq] at e
           obtain ⟨rfl,rfl⟩:=e
           have:=hR2.ob p.1 p.2 (by rw [hob2];exact obF_mem hznd hp)
           exact F3 hbN (fun x hx=>List.mem_append_left _ (List.mem_map.2 ⟨_,hx,rfl⟩)) this
         ·have h9:=hR1.ob k o (by rw [gR _ fun p hp=>hne p (List.mem_append_left _ (List.mem_append_left _ hp))];exact hk)
          refine OR.mono hM2 hEn (fun x hx=>List.mem_append_right _ (hrem2 _ hx fun i hi hg=>?_)) h9
          by_cases hio : i∈s.oob.map Prod.fst
          ·have:=hkeyz i hio
           obtain ⟨p,hp,e⟩:=List.mem_map.1 this
           have e2 : aO k2.mp id i = k:=by unfold aO;rw [hg]
           exact hne p hp (by rw [e,e2])
          ·obtain ⟨p,hp,e⟩:=List.mem_map.1 (yq hg hio)
           exact hne p (List.mem_append_left _ (List.mem_append_right _ hp)) e
        ·rw [jo]
         rcases yj hk with hk | ⟨i,hi,rfl,_⟩
         ·rcases h.rho k u hk with h1 | h1
          ·exact .inl h1
          ·exact .inr (o3 _ (.inl h1))
         ·right
          obtain ⟨hi1,hi2⟩:=List.mem_filter.1 hi
          have:=hkeyz i hi1
          have e2 : aO k2.mp id i = id+10000 * (i+1):=by
           unfold fI at hi2
           unfold aO
           split
           ·rename_i b hg;rw [hg] at hi2;cases hi2
           ·rfl
          rw [e2] at this
          exact o3 _ (.inr this)
        ·rcases List.mem_append.1 hp with hp | hp
         ·obtain ⟨p',hp',rfl⟩:=List.mem_map.1 hp
          obtain ⟨u,hu⟩:=Option.isSome_iff_exists.1 (hR2.keys p' hp')
          show (mP ρ ρ' id _ (aO k2.mp id p'.1)).isSome = true
          rw [hbN _ _ hu];rfl
         ·obtain ⟨u,hu⟩:=Option.isSome_iff_exists.1 (hR1.keys p (hrem p hp).1)
          rw [hEn _ _ hu];rfl
        ·rw [List.map_append,List.map_map]
         have hinjN : ∀ x∈lst2.map Prod.fst,∀ y∈lst2.map Prod.fst,aO k2.mp id x = aO k2.mp id y->x = y:=fun x hx y hy' e=>by
          obtain ⟨px,hpx,rfl⟩:=List.mem_map.1 hx
          obtain ⟨py,hpy,rfl⟩:=List.mem_map.1 hy'
          have ox:=hl2 px hpx
          have oy:=hl2 py hpy
          cases hgx : aY k2.mp px.1 with
          | none =>
           have ex : aO k2.mp id px.1 = id+10000 * (px.1+1):=by unfold aO;rw [hgx]
           have nx : fI k2.mp px.1 = true:=by unfold fI;rw [hgx]
           cases hgy : aY k2.mp py.1 with
           | none =>
            have ey : aO k2.mp id py.1 = id+10000 * (py.1+1):=by unfold aO;rw [hgy]
            omega
           | some t=>cases t with
            | nil sz =>
             have ey : aO k2.mp id py.1 = id+10000 * (py.1+1):=by unfold aO;rw [hgy]
             omega
            | ob b =>
             have ey : aO k2.mp id py.1 = b:=by unfold aO;rw [hgy]
             obtain ⟨v0,hv0⟩:=hsomeb _ _ hgy
             rw [<-ey,<-e,ex,hnone _ ox nx] at hv0
             cases hv0
          | some t=>cases t with
           | nil sz =>
            have ex : aO k2.mp id px.1 = id+10000 * (px.1+1):=by unfold aO;rw [hgx]
            have nx : fI k2.mp px.1 = true:=by unfold fI;rw [hgx]
            cases hgy : aY k2.mp py.1 with
            | none =>
             have ey : aO k2.mp id py.1 = id+10000 * (py.1+1):=by unfold aO;rw [hgy]
             omega
            | some t=>cases t with
             | nil sz =>
              have ey : aO k2.mp id py.1 = id+10000 * (py.1+1):=by unfold aO;rw [hgy]
              omega
             | ob b =>
              have ey : aO k2.mp id py.1 = b:=by unfold aO;rw [hgy]
              obtain ⟨v0,hv0⟩:=hsomeb _ _ hgy
              rw [<-ey,<-e,ex,hnone _ ox nx] at hv0
              cases hv0
           | ob b =>
            have ex : aO k2.mp id px.1 = b:=by unfold aO;rw [hgx]
            obtain ⟨v0,hv0⟩:=hsomeb _ _ hgx
            cases hgy : aY k2.mp py.1 with
            | none =>
             have ey : aO k2.mp id py.1 = id+10000 * (py.1+1):=by unfold aO;rw [hgy]
             have ny : fI k2.mp py.1 = true:=by unfold fI;rw [hgy]
             rw [<-ex,e,ey,hnone _ oy ny] at hv0
             cases hv0
            | some t=>cases t with
             | nil sz =>
              have ey : aO k2.mp id py.1 = id+10000 * (py.1+1):=by unfold aO;rw [hgy]
              have ny : fI k2.mp py.1 = true:=by unfold fI;rw [hgy]
              rw [<-ex,e,ey,hnone _ oy ny] at hv0
              cases hv0
             | ob b' =>
              have ey : aO k2.mp id py.1 = b':=by unfold aO;rw [hgy]
              have : b = b':=by omega
              subst this
              exact hinj _ _ _ hgx hgy
         have h8 : (lst2.map (Prod.fst ∘ fun p=>(aO k2.mp id p.1,p.2))) = (lst2.map Prod.fst).map (aO k2.mp id):=by rw [List.map_map];rfl
         rw [h8]
         refine List.nodup_append.2 ⟨oe hinjN hR2.nd,hrn,fun x hx y hy' e=>?_⟩
         subst e
         obtain ⟨i,hi,rfl⟩:=List.mem_map.1 hx
         obtain ⟨pi,hpi,rfl⟩:=List.mem_map.1 hi
         obtain ⟨q,hq,e⟩:=List.mem_map.1 hy'
         have oi:=hl2 pi hpi
         cases hgx : aY k2.mp pi.1 with
         | none =>
          have ex : aO k2.mp id pi.1 = id+10000 * (pi.1+1):=by unfold aO;rw [hgx]
          have nx : fI k2.mp pi.1 = true:=by unfold fI;rw [hgx]
          have:=hR1.keys q (hrem q hq).1
          rw [e,ex,hnone _ oi nx] at this
          cases this
         | some t=>cases t with
          | nil sz =>
           have ex : aO k2.mp id pi.1 = id+10000 * (pi.1+1):=by unfold aO;rw [hgx]
           have nx : fI k2.mp pi.1 = true:=by unfold fI;rw [hgx]
           have:=hR1.keys q (hrem q hq).1
           rw [e,ex,hnone _ oi nx] at this
           cases this
          | ob b =>
           have ex : aO k2.mp id pi.1 = b:=by unfold aO;rw [hgx]
           exact (hrem q hq).2 pi.1 (ee hb.1.1 hgx) (by rw [hgx,e,ex])
        ·rw [List.map_append,List.map_map,List.append_assoc]
         exact hR2.st
      ·cases hpk
     ·cases hpk
    ·cases hpk
end
def mD (k : IdT) (v : Value) : List (IdT×Value)->List (IdT×Value)
 | []=>[(k,v)]
 | p::l=>if k = p.1 then (p.1,v)::l else p::mD k v l
section
variable {P : Program} {kt : TypeId} (hK : KeyOk P kt idV)
theorem vv (hK : KeyOk P kt idV) (k : IdT) (v : Value) : ∀ (l : List (IdT×Value)) (es : List MapEntry) (i : Nat) (w : World),es.map (fun e=>(e.key,e.val)) = kvs idV l ->
  (eo k l = none/\(Instr.findAsking kt (idV k) es i).run P w = .ok none w/\kvs idV (mD k v l) = kvs idV l++[(idV k,v)]) \/
  ∃ j u e,(Instr.findAsking kt (idV k) es i).run P w = .ok (some (i+j,u)) w/\eo k l = some u/\es[j]? = some e/\e.key = idV k/\(es.modify j fun e=>{ e with key:=idV k,val:=v }).map (fun e=>(e.key,e.val)) = kvs idV (mD k v l)
 | [],[],i,w,_=>.inl ⟨rfl,by simp [Instr.findAsking],rfl⟩
 | p::l,e::es,i,w,h=>by
  simp only [kvs,List.map_cons,List.cons.injEq,Prod.mk.injEq] at h
  obtain ⟨⟨h0,h00⟩,ht⟩:=h
  have h1:=hK.eq k p.1 w
  by_cases he : k = p.1
  ·refine .inr ⟨0,e.val,e,?_,by simp [eo,he,h00],rfl,by rw [h0,he],?_⟩
   ·rw [decide_eq_true he] at h1
    simp only [Instr.findAsking,h0]
    simp [h1]
   ·simp only [mD]
    rw [if_pos he]
    simp only [kvs,List.modify_zero_cons,List.map_cons,he]
    rw [ht]
  ·rw [decide_eq_false he] at h1
   rcases vv hK k v l es (i+1) w ht with ⟨g1,g2,g3⟩ | ⟨j,u,e',g1,g2,g3,g4,g5⟩
   ·refine .inl ⟨by simp only [eo];rw [if_neg he];exact g1,?_,?_⟩
    ·simp only [Instr.findAsking,h0]
     simp [h1,g2]
    ·simp only [mD]
     rw [if_neg he]
     simp only [kvs,List.map_cons,List.cons_append] at g3 ⊢
     rw [g3]
   ·refine .inr ⟨j+1,u,e',?_,by simp only [eo];rw [if_neg he];exact g2,by simpa using g3,g4,?_⟩
    ·simp only [Instr.findAsking,h0]
     simp [h1,g1]
     omega
    ·simp only [mD]
     rw [if_neg he]
     simp only [kvs,List.modify_succ_cons,List.map_cons] at g5 ⊢
     rw [g5,h0,h00]
 | [],_::_,_,_,h=>by simp [kvs] at h
 | _::_,[],_,_,h=>by simp [kvs] at h
theorem key_at (hK : KeyOk P kt idV) (k : IdT) (v : Value) (l : List (IdT×Value)) (es : List MapEntry) (w : World) (h : es.map (fun e=>(e.key,e.val)) = kvs idV l) :
  (eo k l = none/\(Instr.findKey kt (idV k) es).run P w = .ok none w/\kvs idV (mD k v l) = kvs idV l++[(idV k,v)]) \/
  ∃ j u e,(Instr.findKey kt (idV k) es).run P w = .ok (some (j,u)) w/\eo k l = some u/\es[j]? = some e/\e.key = idV k/\(es.modify j fun e=>{ e with key:=idV k,val:=v }).map (fun e=>(e.key,e.val)) = kvs idV (mD k v l):=by
 obtain ⟨fs,hfs⟩:=hK.kind
 cases es with
 | nil =>
  cases l with
  | nil=>exact .inl ⟨rfl,by simp [Instr.findKey,run_underlying hfs,Instr.findNow],rfl⟩
  | cons p l=>simp [kvs] at h
 | cons e es =>
  have e1 : (Instr.findKey kt (idV k) (e::es)).run P w = (Instr.findAsking kt (idV k) (e::es)).run P w:=by simp [Instr.findKey,run_underlying hfs,Instr.findNow,Instr.sameNow]
  rcases vv hK k v l (e::es) 0 w h with ⟨g1,g2,g3⟩ | ⟨j,u,e',g1,g2,g3⟩
  ·exact .inl ⟨g1,by rw [e1];exact g2,g3⟩
  ·rw [Nat.zero_add] at g1
   exact .inr ⟨j,u,e',by rw [e1];exact g1,g2,g3⟩
theorem stays (k : IdT) (w : World) : (Instr.keyThatStays (idV k) (idV k)).run P w = .ok (idV k) w:=by
 have : Instr.sameBits 10000 (idV k) (idV k) = true:=by
  show Instr.sameBits (9998+1+1) (.agg #[av k.shop,av k.seq,av k.index]) (.agg #[av k.shop,av k.seq,av k.index]) = true
  simp [Instr.sameBits]
 simp [Instr.keyThatStays,this]
theorem tO (hK : KeyOk P kt idV) {w0 : World} {M : Mem} {R : List As} {t e b : Nat} {l : List (IdT×Value)} {k : IdT} {v : Value} {w : World} (ht : wE P t kt e = true) (hw : St w0 M (.mp b (kvs idV l)::R) w) :
  ∃ w',(Instr.mapUpdate t (.map (some b)) (idV k) v).run P w = .ok () w'/\St w0 M (.mp b (kvs idV (mD k v l))::R) w':=by
 obtain ⟨hM,es,clock,hb,hes⟩:=hw.all _ (List.mem_cons_self ..)
 have h3:=fun b=>hK.check k b w
 have h4 : (getObj b).run P w = .ok (.map es clock) w:=MapKept.run_getObj_map hb
 have hlt : b < w.heap.size:=(Array.getElem?_eq_some_iff.1 hb).1
 have put : ∀ (es' : Array MapEntry) (clock' : Nat),es'.toList.map (fun e=>(e.key,e.val)) = kvs idV (mD k v l)->St w0 M (.mp b (kvs idV (mD k v l))::R) { w with heap:=w.heap.setIfInBounds b (.map es' clock') }:=fun es' clock' he=>by
  have hne : ∀ c,c ≠ b->(w.heap.setIfInBounds b (.map es' clock'))[c]? = w.heap[c]?:=fun c hc=>Array.getElem?_setIfInBounds_ne (by omega)
  have hnd:=hw.nodup
  simp only [List.filterMap_cons,As.blk] at hnd
  refine ⟨hw.os,hw.tape,hw.output,by simp;exact hw.size,fun c o hc=>?_,fun x hx=>?_,by simpa [List.filterMap_cons,As.blk] using hw.nodup⟩
  ·rw [hne c (fun e=>by subst e;rw [hM] at hc;cases hc)];exact hw.mem c o hc
  ·rcases List.mem_cons.1 hx with rfl | hm
   ·exact ⟨hM,es',clock',by simp [hlt],he⟩
   ·have hx':=hw.all x (List.mem_cons_of_mem _ hm)
    refine As.gX hx' (Sub.refl M) fun c hc=>⟨hne c fun e=>?_,(As.bu hx' hc).2⟩
    subst e
    exact (List.nodup_cons.1 hnd).1 (j5 hm hc)
 rcases key_at hK k v l es.toList w hes with ⟨g1,g2,g3⟩ | ⟨j,u,e',g1,g2,g3,g4,g5⟩
 ·refine ⟨{ w with heap:=w.heap.setIfInBounds b (.map (es.push { key:=idV k,val:=v,born:=clock }) (clock+1)) },?_,put _ _ (by rw [g3];simp [hes])⟩
  simp [Instr.mapUpdate,run_underlying (me ht),h4,h3,g2,MapKept.run_setObj_map _ hb]
 ·refine ⟨{ w with heap:=w.heap.setIfInBounds b (.map (es.modify j fun e=>{ e with key:=idV k,val:=v }) clock) },?_,put _ _ (by rw [<-g5,Array.toList_modify])⟩
  have g3' : es[j]? = some e':=by rw [<-Array.getElem?_toList];exact g3
  have hk : ((es[j]?).map (·.key)).getD (idV k) = idV k:=by rw [g3'];exact g4
  simp only [Instr.mapUpdate,Sem.run_bind,run_underlying (me ht),Result.andThen_ok,h4,h3,g1,hk,stays k w,MapKept.run_setObj_map _ hb]
end
theorem lE {i : IdT} {a b c : Int} {ds : List D} : Bs a b c (.v (.int .i64 i.shop)::.v (.int .i64 i.seq)::.v (.int .i64 i.index)::ds) = decide ((⟨a,b,c⟩ : IdT) = i):=by
 unfold Bs
 show decide (i.shop = a/\i.seq = b/\i.index = c) = _
 refine decide_eq_decide.2 ⟨fun h=>?_,fun h=>?_⟩
 ·obtain ⟨rfl,rfl,rfl⟩:=h;rfl
 ·subst h;exact ⟨rfl,rfl,rfl⟩
section
variable {M : Mem} {ag : Bool} {vs : Nat} {k : IdT}
theorem yd : ∀ {l : List (IdT×Value)} {ds : List D},MR M ag vs l ds->(eo k l = none/\dw (3+vs) k.shop k.seq k.index l.length ds = none)\/∃ v xs,eo k l = some v/\dw (3+vs) k.shop k.seq k.index l.length ds = some xs/\xs.length = vs/\VR M ag xs v
 | [],ds,_=>.inl ⟨rfl,rfl⟩
 | (i,v)::l,ds,⟨xs,rest,h1,h2,h3,h4⟩=>by
  subst h1
  have hd : (D.v (.int .i64 i.shop)::.v (.int .i64 i.seq)::.v (.int .i64 i.index)::(xs++rest)).drop (3+vs) = rest:=by
   rw [show 3+vs = vs+1+1+1 by omega]
   simp only [List.drop_succ_cons]
   rw [<-h2,List.drop_left]
  have htk : ((D.v (.int .i64 i.shop)::.v (.int .i64 i.seq)::.v (.int .i64 i.index)::(xs++rest)).take (3+vs)).drop 3 = xs:=by
   rw [show 3+vs = vs+1+1+1 by omega]
   simp only [List.take_succ_cons,List.drop_succ_cons,List.drop_zero]
   rw [<-h2,List.take_left]
  by_cases e : k = i
  ·subst e
   refine .inr ⟨v,xs,by simp [eo],?_,h2,h3⟩
   rw [List.length_cons,dw,lE,decide_eq_true (show (⟨k.shop,k.seq,k.index⟩ : IdT) = k from rfl)]
   simp only [htk]
  ·have hm : dw (3+vs) k.shop k.seq k.index ((i,v)::l).length (.v (.int .i64 i.shop)::.v (.int .i64 i.seq)::.v (.int .i64 i.index)::(xs++rest)) = dw (3+vs) k.shop k.seq k.index l.length rest:=by
    rw [List.length_cons,dw,lE,decide_eq_false (show ¬ (⟨k.shop,k.seq,k.index⟩ : IdT) = i from e)]
    simp only [hd]
   rw [hm,eo,if_neg e]
   exact yd h4
theorem map_set {v : Value} {xs : List D} (hv : VR M ag xs v) (hx : xs.length = vs) : ∀ {l : List (IdT×Value)} {ds : List D},MR M ag vs l ds->MR M ag vs (mD k v l) (eR (3+vs) k.shop k.seq k.index xs l.length ds)/\(mD k v l).length = gJ (3+vs) k.shop k.seq k.index l.length ds
 | [],ds,h=>by
  obtain rfl : ds = []:=h
  exact ⟨⟨xs,[],rfl,hx,hv,rfl⟩,rfl⟩
 | (i,u)::l,ds,⟨ys,rest,h1,h2,h3,h4⟩=>by
  subst h1
  have hd : (D.v (.int .i64 i.shop)::.v (.int .i64 i.seq)::.v (.int .i64 i.index)::(ys++rest)).drop (3+vs) = rest:=by
   rw [show 3+vs = vs+1+1+1 by omega]
   simp only [List.drop_succ_cons]
   rw [<-h2,List.drop_left]
  have htk : (D.v (.int .i64 i.shop)::.v (.int .i64 i.seq)::.v (.int .i64 i.index)::(ys++rest)).take (3+vs) = .v (.int .i64 i.shop)::.v (.int .i64 i.seq)::.v (.int .i64 i.index)::ys:=by
   rw [show 3+vs = vs+1+1+1 by omega]
   simp only [List.take_succ_cons]
   rw [<-h2,List.take_left]
  by_cases e : k = i
  ·subst e
   simp only [mD]
   rw [if_pos trivial]
   unfold gJ
   rw [List.length_cons,eR,dw,lE,decide_eq_true (show (⟨k.shop,k.seq,k.index⟩ : IdT) = k from rfl)]
   simp only [hd]
   exact ⟨⟨xs,rest,by simp,hx,hv,h4⟩,by simp⟩
  ·obtain ⟨g1,g2⟩:=map_set hv hx h4
   simp only [mD]
   rw [if_neg e]
   unfold gJ at g2 ⊢
   rw [List.length_cons,eR,dw,lE,decide_eq_false (show ¬ (⟨k.shop,k.seq,k.index⟩ : IdT) = i from e)]
   simp only [hd,htk]
   refine ⟨⟨ys,_,by simp,h2,h3,g1⟩,?_⟩
   rw [List.length_cons,g2]
   split <;> rfl
end
section
variable {Is : Sig->St'->St'->Prop} {P : Program} {tb : Tb} {n : Nat} {w0 : World} {Γ0 : List As} {fr : Fr} {ρ : Nat->Option Value} {M : Mem} {lst : List (Nat×As)} {a : Act} {w : World} {fs fo : List Nat} {o : Out} {Q : Exit->Act->World->Prop} {d : Nat} {ty : TypeId} {pos : String} {af : Array Edge} {g : Option (Nat×Bool)}
theorem uN (hT : TbOk P tb) {t e : Nat} {ag : Bool} {vs : Nat} {zs : List D} (h : EM P tb t = some (e,ag,vs,zs)) : ∃ k,wE P t k e = true/\KeyOk P k idV/\zs.length = vs/\∃ z,eC P e = some z/\∀ M,VR M ag zs z:=by
 unfold EM at h
 split at h
 ·rename_i k e' hu
  split at h
  ·rename_i zs' hk hz
   have hb : wE P t k e' = true:=by
    unfold wE
    rw [hu]
    simp [bB]
   obtain ⟨zc,hzc,hzd⟩:=Option.bind_eq_some_iff.1 hz
   have hkey:=hT.key k hk
   split at h
   ·rename_i hag
    simp only [Option.some.injEq,Prod.mk.injEq] at h
    obtain ⟨rfl,rfl,rfl,rfl⟩:=h
    obtain ⟨z,hz1,_⟩:=gb (M:=fun _=>none) (ρ:=fun _=>none) hzc
    refine ⟨k,hb,hkey,rfl,z,hz1,fun M=>?_⟩
    obtain ⟨z',hz2,hz3⟩:=gb (M:=M) (ρ:=fun _=>none) hzc
    rw [hz1] at hz2 hag
    simp only [Option.some.injEq] at hz2
    subst hz2
    cases z with
    | agg us=>exact ⟨us.toList,by simp,q9 hz3 hzd⟩
    | _=>cases hag
   ·rename_i hag
    split at h
    ·rename_i z1
     simp only [Option.some.injEq,Prod.mk.injEq] at h
     obtain ⟨rfl,rfl,rfl,rfl⟩:=h
     obtain ⟨z,hz1,_⟩:=gb (M:=fun _=>none) (ρ:=fun _=>none) hzc
     refine ⟨k,hb,hkey,rfl,z,hz1,fun M=>?_⟩
     obtain ⟨z',hz2,hz3⟩:=gb (M:=M) (ρ:=fun _=>none) hzc
     rw [hz1] at hz2 hag
     simp only [Option.some.injEq] at hz2
     subst hz2
     have hrd:=q9 hz3 hzd
     have hc : z.cells = #[z]:=by cases z <;> first | rfl | cases hag
     rw [hc] at hrd
     exact ⟨z1,rfl,hrd.2 0 _ _ rfl rfl⟩
    ·cases h
  ·cases h
 ·cases h
theorem Bt {s : S} {k : Int->Int->Int->Prg} (hr : R1 Is fr (uP s k) fs fo o) {v : Value} (hs : SR M ρ s v) : ∃ i : IdT,v = idV i/\R1 Is fr (k i.shop i.seq i.index) fs fo o:=by
 unfold uP at hr
 split at hr
 ·rename_i h3
  obtain ⟨x,y,z,hr,u1,u2,u3,rfl,r1,r2,r3⟩:=zD hr h3 hs
  obtain ⟨a,e1,hr⟩:=hr
  obtain ⟨b,e2,hr⟩:=hr
  obtain ⟨c,e3,hr⟩:=hr
  have e1 : x = .v (.int .i64 a):=e1
  have e2 : y = .v (.int .i64 b):=e2
  have e3 : z = .v (.int .i64 c):=e3
  subst e1 e2 e3
  refine ⟨⟨a,b,c⟩,?_,hr⟩
  rw [r1.1,r2.1,r3.1]
  rfl
 ·exact hr.elim
theorem FA {t : TypeId} {ag : Bool} {vs : Nat} {s : S} {k : Nat->Nat->List D->Prg} (hr : R1 Is fr (entP t ag vs s k) fs fo o) : ∃ b m ds fo',s = .c (.m b)/\fr.ob b = some (.m t ag vs m ds)/\R1 Is fr (k b m ds) fs fo' o:=by
 unfold entP at hr
 split at hr
 ·rename_i b
  change R1 Is fr (match fr.ob b with | some (.m t' ag' vs' n ds)=>_ | _=>_) _ _ _ at hr
  split at hr
  ·rename_i t' ag' vs' m ds hob
   split at hr
   ·rename_i hb
    simp only [Bool.and_eq_true] at hb
    have e1:=Nat.eq_of_beq_eq_true hb.1
    have e2 : ag = ag':=by simpa using hb.2.1
    have e3:=Nat.eq_of_beq_eq_true hb.2.2
    subst e1 e2 e3
    exact ⟨b,m,ds,_,rfl,hob,hr⟩
   ·exact hr.elim
  ·exact hr.elim
 ·exact hr.elim
theorem mval_R1 (h : Rel w0 Γ0 fr ρ M lst (tv a) w) {ag : Bool} {s : S} {k : Nat->List D->List (Nat×O)->Prg} (hr : R1 Is fr (EG ag s k) fs fo o) :
  ∃ m ds os fo',R1 Is fr (k m ds os) fs fo' o/\dZ fr os/\(∀ M' v,Sub M M'->jK ρ M' os->SR M ρ s v->VR M' ag ds v/\ds.length = m)/\s ≠ su:=by
 unfold EG at hr
 split at hr
 ·rename_i c
  obtain ⟨x,os,fo1,hr,hf,hd,hne⟩:=wT h hr
  exact ⟨1,[x],os,fo1,hr,hf,fun M' v hM hfa hs=>⟨⟨x,rfl,hd M' v hM hfa hs⟩,rfl⟩,by unfold su;simpa using hne⟩
 ·rename_i m ds
  refine ⟨m,ds,[],fo,hr,dZ.nil,fun M' v hM _ hs=>?_,by unfold su;simp⟩
  obtain ⟨hl,us,rfl,hr2⟩:=hs
  exact ⟨⟨us,rfl,hr2.mono hM⟩,hl⟩
 ·rename_i cs
  obtain ⟨ds,os,fo1,hr,hf,hd⟩:=wS h cs hr
  refine ⟨cs.length,ds,os,fo1,hr,hf,fun M' v hM hfa hs=>?_,by unfold su;simp⟩
  obtain ⟨us,rfl,hr2⟩:=hs
  have hrd:=hd M' us hM hfa hr2
  exact ⟨⟨us,rfl,hrd⟩,by rw [<-hrd.1,CRs.len hr2]⟩
 ·exact hr.elim
variable (h1 : a.tmps.size = n) (h2 : a.defers = []) (h : Rel w0 Γ0 fr ρ M lst (tv a) w)
theorem zJ (h1 : a.tmps.size = n) (h2 : a.defers = []) (h : Rel w0 Γ0 fr ρ M lst (tv a) w) (hd : d < n) {t : Nat} (hr : R1 Is fr (sn P tb (fr.base+d) t) fs fo o) : (⟨some d,.makeMap t none,ty,pos,af,g⟩ : Oper).wp P a w (bq n w0 Γ0 ρ M ((fr.bL (some d) o.v).aF o.ob)) Q:=by
 unfold sn at hr
 split at hr
 ·rename_i e ag vs zs hm
  obtain ⟨hn,fo',rfl⟩:=j4 hr
  have hst:=h.st.newMap
  obtain ⟨hE,hR⟩:=h.new (v:=.map (some w.heap.size)) (o:=.m t ag vs 0 []) hn (Nat.le_add_right _ _) hst ⟨w.heap.size,[],dc,List.mem_cons_self ..,rfl,rfl⟩
  refine dU h1 h2 rfl hd rfl (Sub.refl M) hE hR (v:=.map (some w.heap.size)) ⟨w.heap.size,dc,rfl⟩ ?_
  have : (Instr.makeMap t none).run P w = .ok (.map (some w.heap.size)) { w with heap:=w.heap.push (.map #[] 0) }:=rfl
  simp [execOp,this]
 ·exact hr.elim
theorem Cy (h1 : a.tmps.size = n) (h2 : a.defers = []) (h : Rel w0 Γ0 fr ρ M lst (tv a) w) (hT : TbOk P tb) (hd : d < n) {t : Nat} {x y : Operand} {cm : Bool} (hr : R1 Is fr (evP x fun s=>evP y fun k=>wF P tb t s k cm) fs fo o) : (⟨some d,.lookup t x y cm,ty,pos,af,g⟩ : Oper).wp P a w (bq n w0 Γ0 ρ M ((fr.bL (some d) o.v).aF o.ob)) Q:=by
 obtain ⟨s,fs1,hr,hs⟩:=cg h hr
 obtain ⟨sk,fs2,hr,hsk⟩:=cg h hr
 unfold wF at hr
 split at hr
 ·rename_i e ag vs zs hm
  obtain ⟨kt,hmb,hK,hzl,z,hz,hzr⟩:=uN hT hm
  obtain ⟨b,m,ds,fo',rfl,hob,hr⟩:=FA hr
  obtain ⟨v,hv,k,hk,rfl⟩:=known hs (by unfold su;simp)
  have hne : sk ≠ su:=by
   rintro rfl
   unfold uP at hr
   split at hr
   ·exact hr.elim
   ·exact hr.elim
  obtain ⟨kv,hkv,hskv⟩:=known hsk hne
  obtain ⟨i,rfl,hr⟩:=Bt hr hskv
  obtain ⟨k',l,g1,g2,g3,g4⟩:=h.ob b _ hob
  rw [hk] at g1
  obtain rfl : k = k':=by simpa using g1
  subst g4
  have hm' : As.mp k (kvs idV l)∈lst.map Prod.snd++Γ0:=List.mem_append_left _ (List.mem_map_of_mem g2)
  have hit : ∀ {xs : List D} {u : Value},VR M ag xs u->SB M ρ (hitS ag xs.length xs) u:=fun {xs u} hv=>by
   cases ag with
   | true=>obtain ⟨us,h3,h4⟩:=hv;exact ⟨rfl,us,h3,h4⟩
   | false=>obtain ⟨x,h3,h4⟩:=hv;subst h3;exact h4
  have fin : ∀ (xs : List D) (u : Value) (ok : Bool),(eo i l).getD z = u->(eo i l).isSome = ok->VR M ag xs u->xs.length = vs->o = ⟨some (luS cm (hitS ag vs xs) ok),[],fs2,fo'⟩->(⟨some d,.lookup t x y cm,ty,pos,af,g⟩ : Oper).wp P a w (bq n w0 Γ0 ρ M ((fr.bL (some d) o.v).aF o.ob)) Q:=fun xs u ok e1 e2 hvr hxl ho=>by
   subst ho
   subst hxl
   cases cm with
   | true =>
    refine bz h1 h2 h rfl hd rfl rfl (v:=.tuple [u,.bool ok].toArray) ⟨[u,.bool ok],rfl,hit hvr,⟨rfl,rfl⟩,trivial⟩ ?_
    have:=Y.lookup2 (P:=P) (w0:=w0) (L:=Lf a) (M:=M) (Γ:=lst.map Prod.snd++Γ0) (d:=some d) (ty:=ty) (pos:=pos) (af:=af) (g:=g) (k:=i) hv.evL hkv.evL hK hmb hz hm'
    rw [e1,e2] at this
    exact this
   | false =>
    refine bz h1 h2 h rfl hd rfl rfl (v:=u) (by have:=hit hvr;cases ag <;> exact this) ?_
    have:=Y.lookup (P:=P) (w0:=w0) (L:=Lf a) (M:=M) (Γ:=lst.map Prod.snd++Γ0) (d:=some d) (ty:=ty) (pos:=pos) (af:=af) (g:=g) (k:=i) hv.evL hkv.evL hK hmb hz hm'
    rw [e1] at this
    exact this
  rcases yd (k:=i) g3 with ⟨f1,f2⟩ | ⟨u,xs,f1,f2,f3,f4⟩
  ·have hr : o = _:=hr
   rw [f2] at hr
   exact fin zs z false (by rw [f1];rfl) (by rw [f1];rfl) (hzr M) hzl hr
  ·have hr : o = _:=hr
   rw [f2] at hr
   exact fin xs u true (by rw [f1];rfl) (by rw [f1];rfl) f4 f3 hr
 ·exact hr.elim
theorem wk (h1 : a.tmps.size = n) (h2 : a.defers = []) (h : Rel w0 Γ0 fr ρ M lst (tv a) w) (hT : TbOk P tb) {t : Nat} {x y z : Operand} (hr : R1 Is fr (evP x fun s=>evP y fun k=>evP z fun v=>nD P tb t s k v) fs fo o) : (⟨none,.mapUpdate t x y z,ty,pos,af,g⟩ : Oper).wp P a w (bq n w0 Γ0 ρ M ((fr.bL none o.v).aF o.ob)) Q:=by
 obtain ⟨s,fs1,hr,hs⟩:=cg h hr
 obtain ⟨sk,fs2,hr,hsk⟩:=cg h hr
 obtain ⟨sv,fs3,hr,hsv⟩:=cg h hr
 unfold nD at hr
 split at hr
 ·rename_i e ag vs zs hm
  obtain ⟨kt,hmb,hK,hzl,z0,hz,hzr⟩:=uN hT hm
  obtain ⟨b,m,ds,fo',rfl,hob,hr⟩:=FA hr
  obtain ⟨v,hv,k,hk,rfl⟩:=known hs (by unfold su;simp)
  have hne : sk ≠ su:=by
   rintro rfl
   unfold uP at hr
   split at hr
   ·exact hr.elim
   ·exact hr.elim
  obtain ⟨kv,hkv,hskv⟩:=known hsk hne
  obtain ⟨i,rfl,hr⟩:=Bt hr hskv
  obtain ⟨m',xs,os,fo2,hr,hf,hval,hne2⟩:=mval_R1 h hr
  split at hr
  ·rename_i hbb
   simp only [Bool.and_eq_true,Bool.not_eq_true'] at hbb
   have em:=Nat.eq_of_beq_eq_true hbb.1
   subst em
   have hany:=hbb.2
   have hsu : sv ≠ su:=by rintro rfl;exact hne2 rfl
   obtain ⟨u,hu,hsvu⟩:=known hsv hsu
   have hr : o = ⟨none,os++[(b,.m t ag m' (gJ (3+m') i.shop i.seq i.index m ds) (eR (3+m') i.shop i.seq i.index xs m ds))],_,_⟩:=hr
   subst hr
   refine wh h (o:=⟨none,.mapUpdate t x y z,ty,pos,af,g⟩) rfl hf fun M1 lst1 hM hfa hR=>?_
   have hbne : ∀ p∈os,p.1 ≠ b:=fun p hp e=>by
    have:=List.any_eq_false.1 hany p hp
    rw [e] at this
    exact this (bB b)
   have hob1 : (fr.aF os).ob b = some (.m t ag m' m ds):=by rw [gR os hbne];exact hob
   obtain ⟨k',l,g1,g2,g3,g4⟩:=hR.ob b _ hob1
   rw [hk] at g1
   obtain rfl : k = k':=by simpa using g1
   subst g4
   obtain ⟨hvr,hxl⟩:=hval M1 u hM hfa (dR hsvu)
   obtain ⟨q1,q2⟩:=map_set (k:=i) hvr hxl g3
   obtain ⟨w',r1,r2⟩:=tO hK (v:=u) (k:=i) hmb (hR.st.perm (hR.mem g2))
   have hR':=hR.upd (x':=.mp k (kvs idV (mD i u l))) (o:=.m t ag m' (gJ (3+m') i.shop i.seq i.index l.length ds) (eR (3+m') i.shop i.seq i.index xs l.length ds)) g2 r2 ⟨k,_,hk,List.mem_cons_self ..,q1,q2⟩
   refine qM (fr:=fr.aF os) (out:=⟨none,[(b,.m t ag m' (gJ (3+m') i.shop i.seq i.index l.length ds) (eR (3+m') i.shop i.seq i.index xs l.length ds))],[],[]⟩) h1 h2 rfl (Sub.refl M1) (Ext.refl ρ) hR' ?_
   simp [execOp,hv.eval,hkv.eval,hu.eval,r1]
  ·exact hr.elim
 ·exact hr.elim
end
section
variable {P : Program} {tb : Tb} {n : Nat} {w0 : World} {Γ0 : List As} {fr : Fr} {ρ : Nat->Option Value} {M : Mem} {lst : List (Nat×As)} {a : Act} {w : World} {fs fo : List Nat} {out : Out} {Q : Exit->Act->World->Prop}
theorem tK.vals : ∀ {xs : List Operand} {ss : List S},tK a M ρ xs ss->dQ M ρ ss (xs.map a.eval)
 | [],[],_=>trivial
 | _::_,_::_,h=>⟨oK h.1,tK.vals h.2⟩
 | [],_::_,h=>h.elim
 | _::_,[],h=>h.elim
theorem dQ.app : ∀ {xs ys : List S} {vs us : List Value},dQ M ρ xs vs->dQ M ρ ys us->dQ M ρ (xs++ys) (vs++us)
 | [],_,[],_,_,k=>k
 | _::_,_,_::_,_,h,k=>⟨h.1,dQ.app h.2 k⟩
 | [],_,_::_,_,h,_=>h.elim
 | _::_,_,[],_,h,_=>h.elim
theorem CBs.vals : ∀ {cs : List C} {us : List Value},CBs M ρ cs us->dQ M ρ (cs.map S.c) us
 | [],[],_=>trivial
 | _::_,_::_,h=>⟨h.1.toCR,CBs.vals h.2⟩
 | [],_::_,h=>h.elim
 | _::_,[],h=>h.elim
theorem C6 {o : Oper} {f : FuncId} {x : Operand} {us : List Value} {args : Array Operand} {ts : Array TypeId} (ho : o.op = .call ⟨.value x,args,ts⟩) (hf : bC P f = true) (hx : a.eval x = .func (.func f) #[] us.toArray) :
  (execOp a.eval o).run P w = .ok (.enter f (args.toList.map a.eval++us).toArray) w:=by
 have h1 : args.map a.eval = (args.toList.map a.eval).toArray:=by
  rw [<-Array.toList_map,Array.toArray_toList]
 simp only [execOp,ho,resolve,h1,hx,Deferred.ofValue]
 simp [invoke,o5 hf]
theorem ok_call (h1 : a.tmps.size = n) (h2 : a.defers = []) (h : Rel w0 Γ0 fr ρ M lst (tv a) w) {o : Oper} {d : Nat} (hdst : o.dst = some d) (hd : d < n) {c : Call} {x : Operand} (ho : o.op = .call c) (hc : c.callee = .value x) (hr : R1 (Is P) fr (evP x fun s=>(match s with
    | .c (.f g cs)=>C7 c.args.toList fun xs=>BN P tb (fr.base+d) g (xs++cs.map S.c)
    | _=>.no)) fs fo out) : o.wp P a w (bq n w0 Γ0 ρ M ((fr.bL o.dst out.v).aF out.ob)) Q:=by
 obtain ⟨s,fs1,hr,hs⟩:=cg h hr
 split at hr
 ·rename_i g cs
  obtain ⟨v,hv,us,rfl,hus⟩:=known hs (by unfold su;simp)
  obtain ⟨ss,fs2,hr,hss⟩:=Ap h _ hr
  have hvals:=(tK.vals hss).app (CBs.vals hus)
  obtain ⟨hfB,hcall⟩:=oO h (Nat.le_add_right _ _) hvals hr
  obtain ⟨callee,args,ts⟩:=c
  simp only at hc
  subst hc
  unfold Oper.wp
  rw [C6 ho hfB hv.eval,Oper.upon_enter]
  refine hcall.mono ?_
  rintro e w' ⟨v,s,ρ',M',lst',rfl,hs,hM,hE,hsv,hR⟩
  show bq n w0 Γ0 ρ M _ (a.put o.dst v) w'
  rw [hdst,hs]
  show bq n w0 Γ0 ρ M ((fr.put d s).aF out.ob) _ _
  rw [kR]
  exact bq.put h1 h2 hM hE hR hd hsv
 ·exact hr.elim
theorem Bh (hT : TbOk P tb) (h1 : a.tmps.size = n) (h2 : a.defers = []) (h : Rel w0 Γ0 fr ρ M lst (tv a) w) (o : Oper) (hr : R1 (Is P) fr (opP P tb fr.base o) fs fo out) (hfit : fits n o.dst out.v = true) : o.wp P a w (bq n w0 Γ0 ρ M ((fr.bL o.dst out.v).aF out.ob)) Q:=by
 obtain ⟨dst,op,ty,pos,af,g⟩:=o
 unfold opP at hr
 cases dst with
 | none =>
  simp only at hr
  split at hr
  ·exact D5 h1 h2 h hr
  ·exact wk h1 h2 h hT hr
  ·exact hr.elim
 | some d =>
  have hd : d < n:=by
   cases hv : out.v with
   | none=>rw [hv] at hfit;cases hfit
   | some v=>rw [hv] at hfit;exact Nat.le_of_ble_eq_true hfit
  simp only at hr
  split at hr
  ·exact ok_move h1 h2 h hd hr
  ·exact Cz h1 h2 h hd hr
  ·exact ok_pick h1 h2 h hd hr
  ·exact ok_load h1 h2 h hd hr
  ·exact D7 h1 h2 h hd hr
  ·exact D6 h1 h2 h hd hr
  ·exact Eb h1 h2 h hd hr
  ·exact ok_box h1 h2 h hd hr
  ·exact D8 h1 h2 h hd hr
  ·split at hr
   ·exact xX h1 h2 h hd hr
   ·exact tQ h1 h2 h hd hr
  ·exact ok_bin h1 h2 h hd hT hr
  ·exact ok_un h1 h2 h hd hr
  ·exact zK h1 h2 h hd hr
  ·exact xW h1 h2 h hd hr
  ·exact ok_slice h1 h2 h hd hr
  ·exact zJ h1 h2 h hd hr
  ·exact Cy h1 h2 h hT hd hr
  ·exact ok_make h1 h2 h hd hr
  ·split at hr
   ·rename_i hf
    exact ok_fun h1 h2 h hd hf hr
   ·exact hr.elim
  ·rename_i c
   split at hr
   ·rename_i x hc
    exact ok_call h1 h2 h rfl hd rfl hc hr
   ·rename_i hc
    split at hr
    ·rename_i x t hx ht
     obtain ⟨callee,args,ts⟩:=c
     simp only at hc hx ht
     subst hc
     have e1 : args = #[x]:=by rw [<-Array.toArray_toList (xs:=args),hx]
     have e2 : ts = #[t]:=by rw [<-Array.toArray_toList (xs:=ts),ht]
     subst e1 e2
     exact ok_len h1 h2 h hd hr
    ·exact hr.elim
   ·rename_i hc
    split at hr
    ·rename_i x y t t' hx ht
     split at hr
     ·rename_i htt
      have:=Nat.eq_of_beq_eq_true htt
      subst this
      obtain ⟨callee,args,ts⟩:=c
      simp only at hc hx ht
      subst hc
      have e1 : args = #[x,y]:=by rw [<-Array.toArray_toList (xs:=args),hx]
      have e2 : ts = #[t,t]:=by rw [<-Array.toArray_toList (xs:=ts),ht]
      subst e1 e2
      exact CA h1 h2 h hd hr
     ·exact hr.elim
    ·exact hr.elim
   ·rename_i hc
    split at hr
    ·rename_i x y hx
     obtain ⟨callee,args,ts⟩:=c
     simp only at hc hx
     subst hc
     have e1 : args = #[x,y]:=by rw [<-Array.toArray_toList (xs:=args),hx]
     subst e1
     exact ok_min h1 h2 h hd hr
    ·exact hr.elim
   ·rename_i hc
    split at hr
    ·rename_i x y hx
     obtain ⟨callee,args,ts⟩:=c
     simp only at hc hx
     subst hc
     have e1 : args = #[x,y]:=by rw [<-Array.toArray_toList (xs:=args),hx]
     subst e1
     exact ok_max h1 h2 h hd hr
    ·exact hr.elim
   ·exact hr.elim
  ·exact hr.elim
theorem fS {J : Sig->St'->St'->Prop} {h : Option S->List (Nat×O)->Prg} : ∀ {p : Prg} {fs fo : List Nat} {out : Out},R1 J fr (p.bind h) fs fo out->∃ o1,R1 J fr p fs fo o1/\R1 J fr (h o1.v o1.ob) o1.fs o1.fo out
 | .no,_,_,_,hr=>hr.elim
 | .ret v ob,fs,fo,_,hr=>⟨⟨v,ob,fs,fo⟩,rfl,hr⟩
 | .rdS t k,_,_,_,hr=>fS (p:=k (fr.sl t)) hr
 | .rdO b k,_,_,_,hr=>fS (p:=k (fr.ob b)) hr
 | .i _ k,_,_,_,⟨z,h1,h2⟩=>let ⟨o,h3,h4⟩:=fS (p:=k z) h2;⟨o,⟨z,h1,h3⟩,h4⟩
 | .bo _ k,_,_,_,⟨z,h1,h2⟩=>let ⟨o,h3,h4⟩:=fS (p:=k z) h2;⟨o,⟨z,h1,h3⟩,h4⟩
 | .st _ k,_,_,_,⟨z,h1,h2⟩=>let ⟨o,h3,h4⟩:=fS (p:=k z) h2;⟨o,⟨z,h1,h3⟩,h4⟩
 | .sc _ _ k,_,_,_,⟨n,cs,h1,h2⟩=>let ⟨o,h3,h4⟩:=fS (p:=k n cs) h2;⟨o,⟨n,cs,h1,h3⟩,h4⟩
 | .if_ _ p _,_,_,_,.inl ⟨h1,h2⟩=>let ⟨o,h3,h4⟩:=fS (p:=p) h2;⟨o,.inl ⟨h1,h3⟩,h4⟩
 | .if_ _ _ q,_,_,_,.inr ⟨h1,h2⟩=>let ⟨o,h3,h4⟩:=fS (p:=q) h2;⟨o,.inr ⟨h1,h3⟩,h4⟩
 | .ck _ k,_,_,_,⟨h1,h2⟩=>let ⟨o,h3,h4⟩:=fS (p:=k) h2;⟨o,⟨h1,h3⟩,h4⟩
 | .ca _ _ k,_,_,_,⟨r,h1,h2⟩=>let ⟨o,h3,h4⟩:=fS (p:=k r) h2;⟨o,⟨r,h1,h3⟩,h4⟩
theorem told_R1 {J : Sig->St'->St'->Prop} {gs : List Nat} {o : Oper} {p : Prg} (hr : R1 J fr (xA gs o p) fs fo out) : R1 J fr p fs fo out:=by
 unfold xA at hr
 split at hr
 ·split at hr
  ·obtain ⟨o1,h1,h2⟩:=fS hr
   obtain ⟨v,ob,fs1,fo1⟩:=o1
   unfold tellP at h2
   split at h2
   ·obtain ⟨z,e,h2⟩:=h2
    rcases h2 with ⟨rfl,h2⟩ | ⟨rfl,h2⟩
    ·have h2 : out = ⟨some (.c (.d (.v (.bool true)))),ob,fs1,fo1⟩:=h2
     rename_i x hv _
     have hv : v = some (.c (.d x)):=hv
     rw [h2,<-e,<-hv]
     exact h1
    ·have h2 : out = ⟨some (.c (.d (.v (.bool false)))),ob,fs1,fo1⟩:=h2
     rename_i x hv _
     have hv : v = some (.c (.d x)):=hv
     rw [h2,<-e,<-hv]
     exact h1
   ·have h2 : out = ⟨v,ob,fs1,fo1⟩:=h2
    rw [h2]
    exact h1
  ·exact hr
 ·exact hr
theorem bq.mono {M0 : Mem} {ρ0 : Nat->Option Value} (hM : Sub M0 M) (hE : Ext ρ0 ρ) {fr' : Fr} {a' : Act} {w' : World} (h : bq n w0 Γ0 ρ M fr' a' w') : bq n w0 Γ0 ρ0 M0 fr' a' w':=by
 obtain ⟨h1,h2,ρ',M',lst',h3,h4,h5⟩:=h
 exact ⟨h1,h2,ρ',M',lst',hM.trans h3,hE.trans h4,h5⟩
theorem D3 (hT : TbOk P tb) {M0 : Mem} {ρ0 : Nat->Option Value} (hD : bq n w0 Γ0 ρ0 M0 fr a w) {ops : Array Oper} {gs : List Nat} {o : Oper} (hr : R1 (Is P) fr (opG P tb fr.base ops gs o) fs fo out) (hfit : fits n o.dst out.v = true) :
  if Region.wanted o (yielded ops a.tmps) then o.wp P a w (bq n w0 Γ0 ρ0 M0 ((fr.bL o.dst out.v).aF out.ob)) Q else bq n w0 Γ0 ρ0 M0 ((fr.bL o.dst out.v).aF out.ob) (a.put o.dst undef) w:=by
 obtain ⟨h1,h2,ρ,M,lst,hM,hE,h⟩:=hD
 have run : ∀ {fs : List Nat},R1 (Is P) fr (xA gs o (opP P tb fr.base o)) fs fo out->o.wp P a w (bq n w0 Γ0 ρ0 M0 ((fr.bL o.dst out.v).aF out.ob)) Q:=fun hr =>
  Oper.wp_mono (fun _ _ hd=>bq.mono hM hE hd) (Bh hT h1 h2 h o (told_R1 hr) hfit)
 have skip : ∀ {fs : List Nat},R1 (Is P) fr (.ret (match o.dst with
    | some _=>some (.c .z)
    | none=>none) []) fs fo out->bq n w0 Γ0 ρ0 M0 ((fr.bL o.dst out.v).aF out.ob) (a.put o.dst undef) w:=fun {fs} hr=>by
  have hr : out = ⟨_,_,fs,fo⟩:=hr
  subst hr
  cases hd : o.dst with
  | none=>exact ⟨h1,h2,ρ,M,lst,hM,hE,h⟩
  | some d =>
   rw [hd] at hfit
   have hdn : d < n:=by simpa [fits,Nat.blt_eq] using hfit
   exact bq.put h1 h2 hM hE h hdn (s:=.c .z) rfl
 unfold opG at hr
 split at hr
 ·rename_i hg
  have hw : Region.wanted o (yielded ops a.tmps) = true:=by unfold Region.wanted;rw [hg]
  rw [if_pos hw]
  exact run hr
 ·rename_i j want hg
  have hw : Region.wanted o (yielded ops a.tmps) = (yielded ops a.tmps j == some want):=by unfold Region.wanted;rw [hg]
  split at hr
  ·exact hr.elim
  ·rename_i t ht
   change R1 (Is P) fr (match fr.sl t with | .c .z=>_ | s=>_) _ _ _ at hr
   rcases h.sl t with hsu | ⟨v,hv,hs⟩
   ·rw [hsu] at hr
    exact hr.elim
   ·split at hr
    ·rename_i hz
     rw [hz] at hs
     obtain rfl : v = undef:=hs
     have : yielded ops a.tmps j = none:=by
      unfold yielded
      rw [ht]
      simp only [Option.bind_some,show a.tmps[t]? = some undef from hv]
      rfl
     rw [this] at hw
     have hw : Region.wanted o (yielded ops a.tmps) = false:=hw
     rw [if_neg (by rw [hw];simp)]
     exact skip hr
    ·obtain ⟨z,e,hr⟩:=tw hr
     rw [e] at hs
     have hs : Rd M (.v (.bool z)) v:=hs
     simp only [Rd] at hs
     obtain rfl:=hs.1
     have : yielded ops a.tmps j = some z:=by
      unfold yielded
      rw [ht]
      simp only [Option.bind_some,show a.tmps[t]? = some (.bool z) from hv]
     rw [this] at hw
     rcases hr with ⟨hzw,hr⟩ | ⟨hzw,hr⟩
     ·have hw : Region.wanted o (yielded ops a.tmps) = true:=by rw [hw];simpa using hzw
      rw [if_pos hw]
      exact run hr
     ·have hw : Region.wanted o (yielded ops a.tmps) = false:=by rw [hw];simpa using hzw
      rw [if_neg (by rw [hw];simp)]
      exact skip hr
end
def iy (o : Oper) (fr : Fr) (x : Out) : Fr:=(fr.bL o.dst x.v).aF x.ob
def oG (o : Oper) (x : Out) : Fp:=⟨o.dst,x.fs,x.fo,x.ob.map Prod.fst⟩
def mU (J : Sig->St'->St'->Prop) (P : Program) (tb : Tb) (n base : Nat) (ops : Array Oper) (gs : List Nat) : List (Nat×Oper×Out)->Fr->Fr->Prop
 | [],fr,fr'=>fr = fr'
 | (i,o,x)::l,fr,fr'=>(ops[i]? = some o/\R1 J fr (opG P tb base ops gs o) [] [] x/\fits n o.dst x.v = true)/\mU J P tb n base ops gs l (iy o fr x) fr'
theorem uA (fr : Fr) (d : Option Nat) (v : Option S) : (fr.bL d v).base = fr.base:=by
 unfold Fr.bL
 split <;> rfl
theorem m7 (o : Oper) (fr : Fr) (x : Out) : (iy o fr x).base = fr.base:=by
 unfold iy
 rw [jo,uA]
section
variable {J : Sig->St'->St'->Prop} {P : Program} {tb : Tb} {n base : Nat} {ops : Array Oper} {gs : List Nat}
theorem rG : ∀ (l : List Oper) (i : Nat) (fr : Fr) (fps : List (Nat×Fp)) {K : Fr->List (Nat×Fp)->Prop},fr.base = base->(∀ j,l[j]? = ops[i+j]?)->vW J P tb n ops gs l i fr fps K ->
  ∃ (c : List (Nat×Oper×Out)) (fr' : Fr),mU J P tb n base ops gs c fr fr'/\K fr' ((c.map fun y=>(y.1,oG y.2.1 y.2.2)).reverse++fps)/\c.map Prod.fst = List.range' i l.length
 | [],i,fr,fps,K,_,_,h=>⟨[],fr,rfl,h,rfl⟩
 | o::os,i,fr,fps,K,hb,hl,h=>by
  unfold vW at h
  obtain ⟨x,h1,h2⟩:=iE _ h
  split at h2
  ·rename_i hf
   rw [pE,ki] at h2
   obtain ⟨c,fr',h3,h4,h5⟩:=rG os (i+1) _ _ (by rw [jo,uA];exact hb) (fun j=>by have:=hl (j+1);simpa [Nat.add_assoc,Nat.add_comm 1 j] using this) h2
   refine ⟨(i,o,x)::c,fr',⟨⟨by simpa using (hl 0).symm,by rw [hb] at h1;exact h1,hf⟩,h3⟩,?_,by simp [h5,List.range'_succ]⟩
   simpa [oG] using h4
  ·exact h2.elim
theorem kF {fr : Fr} : ∀ {p : Prg} {fs fo : List Nat} {x : Out},R1 J fr p fs fo x->(∀ t∈fs,t∈x.fs)/\∀ b∈fo,b∈x.fo
 | .no,_,_,_,h=>h.elim
 | .ret v ob,fs,fo,x,h=>by
  have h : x = ⟨v,ob,fs,fo⟩:=h
  subst h
  exact ⟨fun _ h=>h,fun _ h=>h⟩
 | .rdS t k,fs,fo,x,h=>let ⟨h1,h2⟩:=kF (p:=k (fr.sl t)) h;⟨fun s hs=>h1 s (List.mem_cons_of_mem _ hs),h2⟩
 | .rdO b k,fs,fo,x,h=>let ⟨h1,h2⟩:=kF (p:=k (fr.ob b)) h;⟨h1,fun s hs=>h2 s (List.mem_cons_of_mem _ hs)⟩
 | .i _ k,_,_,_,⟨z,_,h⟩=>kF (p:=k z) h
 | .bo _ k,_,_,_,⟨z,_,h⟩=>kF (p:=k z) h
 | .st _ k,_,_,_,⟨z,_,h⟩=>kF (p:=k z) h
 | .sc _ _ k,_,_,_,⟨n,cs,_,h⟩=>kF (p:=k n cs) h
 | .if_ _ p _,_,_,_,.inl ⟨_,h⟩=>kF (p:=p) h
 | .if_ _ _ q,_,_,_,.inr ⟨_,h⟩=>kF (p:=q) h
 | .ck _ k,_,_,_,⟨_,h⟩=>kF (p:=k) h
 | .ca _ _ k,_,_,_,⟨r,_,h⟩=>kF (p:=k r) h
theorem dY {fr fr' : Fr} : ∀ {p : Prg} {fs fo : List Nat} {x : Out},R1 J fr p fs fo x->(∀ t∈x.fs,fr'.sl t = fr.sl t)->(∀ b∈x.fo,fr'.ob b = fr.ob b)->R1 J fr' p fs fo x
 | .no,_,_,_,h,_,_=>h.elim
 | .ret _ _,_,_,_,h,_,_=>h
 | .rdS t k,fs,fo,x,h,h1,h2=>by
  show R1 J fr' (k (fr'.sl t)) _ _ _
  have hm : t∈x.fs:=(kF (p:=k (fr.sl t)) h).1 t (List.mem_cons_self ..)
  rw [h1 t hm]
  exact dY (p:=k (fr.sl t)) h h1 h2
 | .rdO b k,fs,fo,x,h,h1,h2=>by
  show R1 J fr' (k (fr'.ob b)) _ _ _
  have hm : b∈x.fo:=(kF (p:=k (fr.ob b)) h).2 b (List.mem_cons_self ..)
  rw [h2 b hm]
  exact dY (p:=k (fr.ob b)) h h1 h2
 | .i _ k,_,_,_,⟨z,h0,h⟩,h1,h2=>⟨z,h0,dY (p:=k z) h h1 h2⟩
 | .bo _ k,_,_,_,⟨z,h0,h⟩,h1,h2=>⟨z,h0,dY (p:=k z) h h1 h2⟩
 | .st _ k,_,_,_,⟨z,h0,h⟩,h1,h2=>⟨z,h0,dY (p:=k z) h h1 h2⟩
 | .sc _ _ k,_,_,_,⟨n,cs,h0,h⟩,h1,h2=>⟨n,cs,h0,dY (p:=k n cs) h h1 h2⟩
 | .if_ _ p _,_,_,_,.inl ⟨h0,h⟩,h1,h2=>.inl ⟨h0,dY (p:=p) h h1 h2⟩
 | .if_ _ _ q,_,_,_,.inr ⟨h0,h⟩,h1,h2=>.inr ⟨h0,dY (p:=q) h h1 h2⟩
 | .ck _ k,_,_,_,⟨h0,h⟩,h1,h2=>⟨h0,dY (p:=k) h h1 h2⟩
 | .ca _ _ k,_,_,_,⟨r,h0,h⟩,h1,h2=>⟨r,h0,dY (p:=k r) h h1 h2⟩
theorem F8 {l : List Nat} {d : Nat} (h : l.any (Nat.beq d) = false) : d ∉ l:=fun hm=>by
 have:=List.any_eq_false.1 h d hm
 rw [bB] at this
 exact this rfl
structure Apart (a b : Fp) : Prop where
 d1 : ∀ d,a.wr = some d->d ∉ b.sl
 d2 : ∀ d,b.wr = some d->d ∉ a.sl
 d3 : ∀ d,a.wr = some d->b.wr ≠ some d
 o1 : ∀ x∈a.wo,x ∉ b.ob/\x ∉ b.wo
 o2 : ∀ x∈b.wo,x ∉ a.ob
theorem yM {a b : Fp} (h : vk a b = false) : Apart a b:=by
 unfold vk at h
 simp only [Bool.or_eq_false_iff] at h
 obtain ⟨⟨⟨h1,h2⟩,h3⟩,h4⟩:=h
 refine ⟨fun d hd=>?_,fun d hd=>?_,fun d hd e=>?_,fun x hx=>?_,fun x hx=>?_⟩
 ·rw [hd] at h1
  simp only [Bool.or_eq_false_iff] at h1
  exact F8 h1.1
 ·rw [hd] at h2
  exact F8 h2
 ·rw [hd,e] at h1
  simp only [Bool.or_eq_false_iff,bB] at h1
  exact absurd h1.2 (by simp)
 ·have:=List.any_eq_false.1 h3 x hx
  simp only [Bool.or_eq_true,not_or,Bool.not_eq_true] at this
  exact ⟨F8 this.1,F8 this.2⟩
 ·have:=List.any_eq_false.1 h4 x hx
  exact F8 (by cases hh : a.ob.any (Nat.beq x) with
   | false=>rfl
   | true=>exact absurd hh this)
theorem puts_ob (fr : Fr) (d : Option Nat) (v : Option S) : (fr.bL d v).ob = fr.ob:=by
 unfold Fr.bL
 split <;> rfl
theorem puts_sl (fr : Fr) (d : Option Nat) (v : Option S) {t : Nat} (h : d ≠ some t) : (fr.bL d v).sl t = fr.sl t:=by
 unfold Fr.bL
 split
 ·rename_i d' v'
  rw [zA,if_neg]
  rintro rfl
  exact h rfl
 ·rfl
theorem zg {l : List (Nat×O)} {fr : Fr} {k : Nat} (h : k ∉ l.map Prod.fst) : (fr.aF l).ob k = fr.ob k:=gR l fun p hp e=>h (by rw [<-e];exact List.mem_map_of_mem hp)
theorem AX {o : Oper} {fr : Fr} {x : Out} {t : Nat} (h : o.dst ≠ some t) : (iy o fr x).sl t = fr.sl t:=by
 unfold iy
 rw [qK,puts_sl _ _ _ h]
theorem AY {o : Oper} {fr : Fr} {x : Out} {b : Nat} (h : b ∉ x.ob.map Prod.fst) : (iy o fr x).ob b = fr.ob b:=by
 unfold iy
 rw [zg h,puts_ob]
theorem uc : ∀ (l k : List (Nat×O)) (fr : Fr),(∀ x∈l.map Prod.fst,x ∉ k.map Prod.fst)->(fr.aF l).aF k = (fr.aF k).aF l
 | [],_,_,_=>rfl
 | (b,o)::l,k,fr,h=>by
  have hb : b ∉ k.map Prod.fst:=h b (List.mem_cons_self ..)
  have one : ∀ (k : List (Nat×O)) (fr : Fr),b ∉ k.map Prod.fst->(fr.set b o).aF k = (fr.aF k).set b o:=by
   intro k
   induction k with
   | nil=>intro fr _;rfl
   | cons c k ih =>
    intro fr hk
    obtain ⟨c,u⟩:=c
    have hc : b ≠ c:=fun e=>hk (by rw [e];exact List.mem_cons_self ..)
    rw [Fr.aF,Fr.aF,<-ih (fr.set c u) fun hm=>hk (List.mem_cons_of_mem _ hm)]
    congr 1
    have : ((fr.set b o).set c u).ob = ((fr.set c u).set b o).ob:=by
     funext q
     simp only [de]
     by_cases e1 : q = c <;> by_cases e2 : q = b
     ·omega
     ·simp [e1,Ne.symm hc]
     ·simp [e2,hc]
     ·simp [e1,e2]
    unfold Fr.set at this ⊢
    simp only [Fr.mk.injEq,true_and,and_true]
    exact this
  rw [Fr.aF,uc l k _ fun x hx=>h x (List.mem_cons_of_mem _ hx),one k fr hb,Fr.aF]
theorem uz (l : List (Nat×O)) (fr : Fr) (d : Option Nat) (v : Option S) : (fr.bL d v).aF l = (fr.aF l).bL d v:=by
 unfold Fr.bL
 split
 ·rw [kR]
 ·rfl
theorem Cl {fr : Fr} {d e : Option Nat} {v u : Option S} (h : ∀ t,d = some t->e ≠ some t) : (fr.bL d v).bL e u = (fr.bL e u).bL d v:=by
 cases d with
 | none=>rfl
 | some d=>cases e with
  | none=>rfl
  | some e=>cases v with
   | none=>rfl
   | some v=>cases u with
    | none=>rfl
    | some u =>
     have hne : d ≠ e:=fun h1=>h d rfl (by rw [h1])
     have : ((fr.put d v).put e u).sl = ((fr.put e u).put d v).sl:=by
      funext q
      simp only [zA]
      by_cases e1 : q = e <;> by_cases e2 : q = d
      ·omega
      ·simp [e1,Ne.symm hne]
      ·simp [e2,hne]
      ·simp [e1,e2]
     show (fr.put d v).put e u = (fr.put e u).put d v
     unfold Fr.put at this ⊢
     simp only [Fr.mk.injEq,and_true]
     exact this
theorem B6 {o o' : Oper} {x y : Out} {fr : Fr} (h : Apart (oG o x) (oG o' y)) : iy o' (iy o fr x) y = iy o (iy o' fr y) x:=by
 unfold iy
 rw [<-uz,<-uz,Cl (d:=o.dst) (e:=o'.dst) (fun t ht=>h.d3 t ht),uc x.ob y.ob _ fun q hq=>(h.o1 q hq).2]
theorem Ax {i j : Nat} {o o' : Oper} {x y : Out} {l : List (Nat×Oper×Out)} {fr fr' : Fr} (h : Apart (oG o x) (oG o' y)) (hc : mU J P tb n base ops gs ((i,o,x)::(j,o',y)::l) fr fr') : mU J P tb n base ops gs ((j,o',y)::(i,o,x)::l) fr fr':=by
 obtain ⟨⟨h1,h2,h3⟩,⟨h4,h5,h6⟩,h7⟩:=hc
 refine ⟨⟨h4,dY h5 (fun t ht=>?_) (fun b hb=>?_),h6⟩,⟨h1,dY h2 (fun t ht=>?_) (fun b hb=>?_),h3⟩,?_⟩
 ·exact (AX fun e=>h.d1 t e ht).symm
 ·exact (AY fun hm=>(h.o1 b hm).1 hb).symm
 ·exact AX fun e=>h.d2 t e ht
 ·exact AY fun hm=>h.o2 b hm hb
 ·rw [<-B6 h];exact h7
theorem qq {j : Nat} {o' : Oper} {y : Out} {B : List (Nat×Oper×Out)} {fr' : Fr} : ∀ {A : List (Nat×Oper×Out)} {fr : Fr},(∀ z,z∈A->Apart (oG z.2.1 z.2.2) (oG o' y))->mU J P tb n base ops gs (A++(j,o',y)::B) fr fr'->mU J P tb n base ops gs ((j,o',y)::(A++B)) fr fr'
 | [],_,_,h=>h
 | (i,o,x)::A,fr,ha,⟨h1,h2⟩=>Ax (ha (i,o,x) (List.mem_cons_self ..)) ⟨h1,qq (fun z hz=>ha z (List.mem_cons_of_mem _ hz)) h2⟩
def gB (acc : Array Nat) (o : Oper) : Nat:=o.after.foldl (fun s e=>if Region.binds .any e then s ||| 2 ^ e.on ||| acc.getD e.on 0 else s) 0
def xh (acc : Array Nat) (l : List Oper) : Array Nat:=l.foldl (fun acc o=>acc.push (gB acc o)) acc
theorem vp (ops : Array Oper) : Region.before ops = xh #[] ops.toList:=by
 unfold Region.before xh
 rw [<-Array.foldl_toList]
 rfl
theorem tF : ∀ (l : List Oper) (acc : Array Nat) (k : Nat),k < acc.size->(xh acc l).getD k 0 = acc.getD k 0
 | [],_,_,_=>rfl
 | o::l,acc,k,hk=>by
  show (xh (acc.push (gB acc o)) l).getD k 0 = _
  rw [tF l _ k (by simp;omega)]
  simp only [Array.getD_eq_getD_getElem?]
  rw [Array.getElem?_push,if_neg (by omega)]
theorem gB_spec {acc : Array Nat} {o : Oper} {i : Nat} (h : (gB acc o).testBit i = true) : ∃ e∈o.after,Region.binds .any e = true/\(e.on = i\/(acc.getD e.on 0).testBit i = true):=by
 have key : ∀ (l : List Edge) (s : Nat),(l.foldl (fun s e=>if Region.binds .any e then s ||| 2 ^ e.on ||| acc.getD e.on 0 else s) s).testBit i = true->s.testBit i = true\/∃ e∈l,Region.binds .any e = true/\(e.on = i\/(acc.getD e.on 0).testBit i = true):=by
  intro l
  induction l with
  | nil=>intro s h;exact .inl h
  | cons e l ih =>
   intro s h
   rw [List.foldl_cons] at h
   rcases ih _ h with h | ⟨e',h1,h2⟩
   ·split at h
    ·rename_i hb
     rw [Nat.testBit_or,Nat.testBit_or,Nat.testBit_two_pow] at h
     simp only [Bool.or_eq_true,decide_eq_true_eq] at h
     rcases h with (h | h) | h
     ·exact .inl h
     ·exact .inr ⟨e,List.mem_cons_self ..,hb,.inl h⟩
     ·exact .inr ⟨e,List.mem_cons_self ..,hb,.inr h⟩
    ·exact .inl h
   ·exact .inr ⟨e',List.mem_cons_of_mem _ h1,h2⟩
 unfold gB at h
 rw [<-Array.foldl_toList] at h
 rcases key _ _ h with h | ⟨e,h1,h2⟩
 ·simp at h
 ·exact ⟨e,Array.mem_toList_iff.1 h1,h2⟩
theorem vC : ∀ (l : List Oper) (acc : Array Nat) (j i : Nat),acc.size<=j->((xh acc l).getD j 0).testBit i = true ->
  ∃ o e,l[j - acc.size]? = some o/\e∈o.after/\Region.binds .any e = true/\(e.on = i\/e.on < j/\((xh acc l).getD e.on 0).testBit i = true)
 | [],acc,j,i,hj,h=>by
  rw [show xh acc [] = acc from rfl] at h
  simp [Array.getD_eq_getD_getElem?,Array.getElem?_eq_none hj] at h
 | o::l,acc,j,i,hj,h=>by
  have e0 : xh acc (o::l) = xh (acc.push (gB acc o)) l:=rfl
  rw [e0] at h ⊢
  rcases Nat.lt_or_ge acc.size j with h1 | h1
  ·obtain ⟨o',e,h2,h3⟩:=vC l (acc.push (gB acc o)) j i (by simp;omega) h
   refine ⟨o',e,?_,h3⟩
   rw [show j - acc.size = j - (acc.push (gB acc o)).size+1 by simp;omega]
   simpa using h2
  ·have : j = acc.size:=by omega
   subst this
   rw [tF l _ _ (by simp)] at h
   simp only [Array.getD_eq_getD_getElem?,Array.getElem?_push,if_true,Option.getD_some] at h
   obtain ⟨e,h2,h3,h4⟩:=gB_spec h
   refine ⟨o,e,by simp,h2,h3,h4.imp id fun h5=>?_⟩
   have hlt : e.on < acc.size:=by
    rcases Nat.lt_or_ge e.on acc.size with h6 | h6
    ·exact h6
    ·simp [Array.getD_eq_getD_getElem?,Array.getElem?_eq_none h6] at h5
   refine ⟨hlt,?_⟩
   rw [tF l _ _ (by simp;omega)]
   simp only [Array.getD_eq_getD_getElem?] at h5 ⊢
   rw [Array.getElem?_push,if_neg (by omega)]
   exact h5
end
section
variable {P : Program} {tb : Tb} {n : Nat} {w0 : World} {Γ0 : List As} {ρ0 : Nat->Option Value} {M0 : Mem} {fr fr' : Fr} {a : Act} {w : World} {ops : Array Oper} {gs : List Nat} {Q : Exit->Act->World->Prop}
theorem sX : ∀ {l : List Oper} {q : Nat},nI l q = true->∀ k o,l[k]? = some o->∀ e∈o.after,Region.binds .any e = true->e.on < q+k
 | [],_,_,_,_,h,_,_,_=>by simp at h
 | o::l,q,hb,0,o',h,e,he,hbn=>by
  simp only [List.getElem?_cons_zero,Option.some.injEq] at h
  subst h
  unfold nI at hb
  simp only [Bool.and_eq_true,List.all_eq_true] at hb
  have:=hb.1 e (Array.mem_toList_iff.2 he)
  rw [hbn] at this
  simpa [Nat.blt_eq] using this
 | _::l,q,hb,k+1,o',h,e,he,hbn=>by
  unfold nI at hb
  simp only [Bool.and_eq_true] at hb
  have:=sX hb.2 k o' (by simpa using h) e he hbn
  omega
theorem vo {bf : Array Nat} : ∀ {l : List (Nat×Fp)},calm bf l = true->l.Pairwise fun x y=>vk y.2 x.2 = true->Nat.testBit (bf.getD x.1 0) y.1 = true
 | [],_=>List.Pairwise.nil
 | (j,x)::l,h=>by
  unfold calm at h
  simp only [Bool.and_eq_true,List.all_eq_true,Bool.or_eq_true,Bool.not_eq_true'] at h
  refine List.Pairwise.cons (fun y hy hc=>?_) (vo h.2)
  rcases h.1 y hy with h1 | h1
  ·rw [hc] at h1;cases h1
  ·exact h1
structure Left' (ops : Array Oper) (listed : Array Bool) (rem : List (Nat×Oper×Out)) : Prop where
 size : listed.size = ops.size
 idx : ∀ i,i < ops.size->(listed.getD i true = false↔i∈rem.map Prod.fst)
 lt : ∀ i∈rem.map Prod.fst,i < ops.size
 nd : (rem.map Prod.fst).Nodup
 inc : (rem.map Prod.fst).Pairwise (· < ·)
 pw : rem.Pairwise fun x y=>vk (oG x.2.1 x.2.2) (oG y.2.1 y.2.2) = true->((Region.before ops).getD y.1 0).testBit x.1 = true
theorem nk {listed : Array Bool} {i : Nat} (h : i∈Region.ready .any ops listed) : i < ops.size/\listed.getD i true = false/\∀ o,ops[i]? = some o->∀ e∈o.after,Region.binds .any e = true->listed.getD e.on false = true:=by
 unfold Region.ready at h
 obtain ⟨h1,h2⟩:=List.mem_filter.1 h
 simp only [Bool.and_eq_true,Bool.not_eq_true'] at h2
 refine ⟨List.mem_range.1 h1,h2.1,fun o ho e he hb=>?_⟩
 have h3:=h2.2
 rw [ho] at h3
 simp only [Option.map_some,Option.getD_some,Array.all_eq_true_iff_forall_mem] at h3
 have:=h3 e he
 rw [hb] at this
 simpa using this
def Gj (ops : Array Oper) (listed : Array Bool) : Prop:=∀ j,j < ops.size->listed.getD j false = true->∀ i,((Region.before ops).getD j 0).testBit i = true->listed.getD i false = true
theorem uy {listed : Array Bool} (hd : Gj ops listed) {j : Nat} (hj : j∈Region.ready .any ops listed) : ∀ i,((Region.before ops).getD j 0).testBit i = true->listed.getD i false = true:=fun i hi=>by
 obtain ⟨h1,_,h3⟩:=nk hj
 rw [vp] at hi
 obtain ⟨o,e,h4,h5,h6,h7⟩:=vC ops.toList #[] j i (by simp) hi
 have ho : ops[j]? = some o:=by simpa using h4
 have hl:=h3 o ho e h5 h6
 rcases h7 with rfl | ⟨h7,h8⟩
 ·exact hl
 ·exact hd e.on (by omega) hl i (by rw [vp];exact h8)
theorem uS {l : Array Bool} {i : Nat} (h : i < l.size) : l.getD i false = true↔¬ l.getD i true = false:=by
 simp [Array.getD_eq_getD_getElem?,h]
theorem kg {l : Array Bool} {i : Nat} (h : l.getD i false = true) : i < l.size:=by
 rcases Nat.lt_or_ge i l.size with h1 | h1
 ·exact h1
 ·simp [Array.getD_eq_getD_getElem?,Array.getElem?_eq_none h1] at h
theorem yt {l : Array Bool} {i j : Nat} {d : Bool} (hi : i < l.size) : (l.setIfInBounds i true).getD j d = if j = i then true else l.getD j d:=by
 simp only [Array.getD_eq_getD_getElem?]
 by_cases e : j = i
 ·subst e;simp [hi]
 ·rw [if_neg e,Array.getElem?_setIfInBounds_ne (by omega)]
theorem F7 (hT : TbOk P tb) (hed : nI ops.toList 0 = true) {base : Nat} (hQ : ∀ a w,bq n w0 Γ0 ρ0 M0 fr' a w->Q .normal a w) : ∀ (fuel : Nat) (listed : Array Bool) (rem : List (Nat×Oper×Out)) (fr : Fr) (a : Act) (w : World),rem.length = fuel->Left' ops listed rem->Gj ops listed->bq n w0 Γ0 ρ0 M0 fr a w->fr.base = base ->
  mU (Is P) P tb n base ops gs rem fr fr'->wpAny P .any ops Q fuel listed a w
 | 0,listed,rem,fr,a,w,hl,hL,hD,hdone,hb,hc=>by
  obtain rfl : rem = []:=List.eq_nil_of_length_eq_zero hl
  have e : fr = fr':=hc
  subst e
  refine ⟨List.eq_nil_iff_forall_not_mem.2 fun i hi=>?_,hQ _ _ hdone⟩
  obtain ⟨h1,h2,_⟩:=nk hi
  have:=(hL.idx i h1).1 h2
  simp at this
 | fuel+1,listed,rem,fr,a,w,hl,hL,hD,hdone,hb,hc=>by
  refine ⟨fun hnil=>?_,fun i hi=>?_⟩
  ·exfalso
   match rem,hl with
   | (j,o,y)::rest,_ =>
    obtain ⟨⟨h1,_⟩,_⟩:=hc
    have hj : j < ops.size:=hL.lt j (List.mem_cons_self ..)
    have hmem : j∈Region.ready .any ops listed:=by
     unfold Region.ready
     refine List.mem_filter.2 ⟨List.mem_range.2 hj,?_⟩
     rw [h1]
     simp only [Bool.and_eq_true,Bool.not_eq_true',Option.map_some,Option.getD_some,Array.all_eq_true_iff_forall_mem,Bool.or_eq_true]
     refine ⟨(hL.idx j hj).2 (List.mem_cons_self ..),fun e he=>?_⟩
     cases hbn : Region.binds .any e with
     | false=>exact .inl rfl
     | true =>
      right
      have hlt:=sX hed j o (by simpa using h1) e he hbn
      rw [Nat.zero_add] at hlt
      rw [uS (by rw [hL.size];omega)]
      intro hf
      have hm:=(hL.idx e.on (by omega)).1 hf
      have hp:=hL.inc
      rw [List.map_cons] at hp hm
      rcases List.mem_cons.1 hm with e1 | hm
      ·omega
      ·have:=(List.pairwise_cons.1 hp).1 _ hm
       omega
    rw [hnil] at hmem
    cases hmem
  ·obtain ⟨hi1,hi2,hi3⟩:=nk hi
   have hmem:=(hL.idx i hi1).1 hi2
   obtain ⟨p,hp,hpi⟩:=List.mem_map.1 hmem
   obtain ⟨A,B,rfl⟩:=List.append_of_mem hp
   obtain ⟨i',o,y⟩:=p
   have hpi : i' = i:=hpi
   subst hpi
   have hunl : ∀ z∈A,listed.getD z.1 true = false:=fun z hz=>by
    have hm : z.1∈(A++(i',o,y)::B).map Prod.fst:=List.mem_map_of_mem (List.mem_append_left _ hz)
    exact (hL.idx z.1 (hL.lt z.1 hm)).2 hm
   have hap : ∀ z,z∈A->Apart (oG z.2.1 z.2.2) (oG o y):=fun z hz=>by
    refine yM ?_
    cases hcl : vk (oG z.2.1 z.2.2) (oG o y) with
    | false=>rfl
    | true =>
     exfalso
     have h1:=(List.pairwise_append.1 hL.pw).2.2 z hz (i',o,y) (List.mem_cons_self ..) hcl
     have h2:=uy hD hi _ h1
     have h3:=hunl z hz
     rw [uS (kg h2)] at h2
     exact h2 h3
   obtain ⟨⟨h1,h2,h3⟩,h4⟩:=qq hap hc
   have hrun:=D3 (Q:=Q) hT hdone (by rw [hb];exact h2) h3
   have hL' : Left' ops (listed.setIfInBounds i' true) (A++B):=by
    have hsub : List.Sublist (A++B) (A++(i',o,y)::B):=List.Sublist.append (List.Sublist.refl _) (List.sublist_cons_self _ _)
    have hnd:=hL.nd
    rw [List.map_append,List.map_cons] at hnd
    refine ⟨by simp [hL.size],fun q hq=>?_,fun q hq=>hL.lt q ((hsub.map _).subset hq),(hsub.map _).nodup hL.nd,hL.inc.sublist (hsub.map _),hL.pw.sublist hsub⟩
    rw [yt (by rw [hL.size];exact hi1)]
    by_cases e : q = i'
    ·subst e
     rw [if_pos rfl]
     refine ⟨fun h=>(by cases h),fun hm=>?_⟩
     rw [List.map_append] at hm
     exfalso
     rcases List.mem_append.1 hm with hm | hm
     ·exact (List.nodup_append.1 hnd).2.2 q hm q (List.mem_cons_self ..) rfl
     ·exact (List.nodup_cons.1 (List.nodup_append.1 hnd).2.1).1 hm
    ·rw [if_neg e,hL.idx q hq]
     simp only [List.map_append,List.map_cons,List.mem_append,List.mem_cons]
     constructor
     ·rintro (h | h | h)
      ·exact .inl h
      ·exact (e h).elim
      ·exact .inr h
     ·rintro (h | h)
      ·exact .inl h
      ·exact .inr (.inr h)
   have hD' : Gj ops (listed.setIfInBounds i' true):=fun j hj hjl q hq=>by
    rw [yt (by rw [hL.size];exact hi1)] at hjl ⊢
    by_cases e : q = i'
    ·rw [if_pos e]
    ·rw [if_neg e]
     by_cases e2 : j = i'
     ·subst e2
      exact uy hD hi q hq
     ·rw [if_neg e2] at hjl
      exact hD j hj hjl q hq
   have hlen : (A++B).length = fuel:=by simp at hl ⊢;omega
   have next : ∀ a w,bq n w0 Γ0 ρ0 M0 (iy o fr y) a w->wpAny P .any ops Q fuel (listed.setIfInBounds i' true) a w:=fun a w hd =>
    F7 hT hed hQ fuel _ (A++B) (iy o fr y) a w hlen hL' hD' hd (by rw [m7];exact hb) h4
   unfold wpOp
   simp only [h1]
   split
   ·rename_i hw
    rw [if_pos hw] at hrun
    exact .inl (Oper.wp_mono next hrun)
   ·rename_i hw
    rw [if_neg hw] at hrun
    exact next _ _ hrun
theorem Bp (hT : TbOk P tb) {base : Nat} (hQ : ∀ a w,bq n w0 Γ0 ρ0 M0 fr' a w->Q .normal a w) : ∀ (c : List (Nat×Oper×Out)) (fr : Fr) (a : Act) (w : World),bq n w0 Γ0 ρ0 M0 fr a w->fr.base = base->mU (Is P) P tb n base ops gs c fr fr'->wpList P ops Q (c.map fun z=>z.2.1) a w
 | [],fr,a,w,hd,_,hc=>by
  have e : fr = fr':=hc
  subst e
  exact hQ _ _ hd
 | (i,o,y)::c,fr,a,w,hd,hb,⟨⟨_,h2,h3⟩,h4⟩=>by
  have hrun:=D3 (Q:=Q) hT hd (by rw [hb];exact h2) h3
  have next : ∀ a w,bq n w0 Γ0 ρ0 M0 (iy o fr y) a w->wpList P ops Q (c.map fun z=>z.2.1) a w:=fun a w hd=>Bp hT hQ c _ a w hd (by rw [m7];exact hb) h4
  rw [List.map_cons]
  unfold wpList
  split
  ·rename_i hw
   rw [if_pos hw] at hrun
   exact .inl (Oper.wp_mono next hrun)
  ·rename_i hw
   rw [if_neg hw] at hrun
   exact next _ _ hrun
theorem bq.draw (h : bq n w0 Γ0 ρ0 M0 fr a w) (k : Nat) : bq n w0 Γ0 ρ0 M0 fr a { w with drawn:=k }:=by
 obtain ⟨h1,h2,ρ,M,lst,h3,h4,h5⟩:=h
 exact ⟨h1,h2,ρ,M,lst,h3,h4,h5.sl,h5.ob,h5.rho,h5.keys,h5.nd,h5.st.draw k,h5.gr⟩
theorem bq.tP (h : bq n w0 Γ0 ρ0 M0 fr a w) : bq n w0 Γ0 ρ0 M0 fr.tP a w:=by
 obtain ⟨h1,h2,ρ,M,lst,h3,h4,h5⟩:=h
 exact ⟨h1,h2,ρ,M,lst,h3,h4,h5.sl,h5.ob,fun b v hv=>(h5.rho b v hv).imp (fun h=>Nat.lt_of_lt_of_le h (Nat.le_add_right _ _)) id,h5.keys,h5.nd,h5.st,h5.gr⟩
theorem Ci (hT : TbOk P tb) (hm : P.follows .mixedOrders = true) {id : Nat} {draw : Bool} {K : Fr->Prop} (hd : bq n w0 Γ0 ρ0 M0 fr a w) (h : vW (Is P) P tb n ops gs ops.toList 0 fr [] fun fr l=>(match draw with
  | true=>(match calm (Region.before ops) l && nI ops.toList 0 with
   | true=>K fr.tP
   | false=>False)
  | false=>K fr.tP)) (hQ : ∀ fr',K fr'->∀ a w,bq n w0 Γ0 ρ0 M0 fr' a w->Q .normal a w) : (Code.region id ops draw).wp P Q a w:=by
 obtain ⟨c,fr',h1,h2,h3⟩:=rG ops.toList 0 fr [] rfl (fun j=>by simp) h
 have hlen : c.length = ops.size:=by
  have:=congrArg List.length h3
  simpa using this
 have hmap : c.map (fun z=>z.2.1) = ops.toList:=by
  have key : ∀ (c : List (Nat×Oper×Out)) (i : Nat) (fr : Fr),mU (Is P) P tb n fr'.base ops gs c fr fr'->c.map Prod.fst = List.range' i c.length->∀ k z,c[k]? = some z->ops[i+k]? = some z.2.1:=by
   intro c
   induction c with
   | nil=>intro i fr _ _ k z hz;simp at hz
   | cons x c ih =>
    intro i fr hc hr k z hz
    obtain ⟨q,o,y⟩:=x
    simp only [List.map_cons,List.length_cons,List.range'_succ,List.cons.injEq] at hr
    cases k with
    | zero =>
     simp only [List.getElem?_cons_zero,Option.some.injEq] at hz
     subst hz
     rw [Nat.add_zero,<-hr.1]
     exact hc.1.1
    | succ k =>
     have:=ih (i+1) _ hc.2 hr.2 k z (by simpa using hz)
     rwa [show i+(k+1) = i+1+k by omega]
  have hbase : ∀ (c : List (Nat×Oper×Out)) (fr : Fr) (b : Nat),mU (Is P) P tb n b ops gs c fr fr'->fr.base = fr'.base:=by
   intro c
   induction c with
   | nil=>intro fr b hc;rw [show fr = fr' from hc]
   | cons x c ih=>intro fr b hc;have:=ih _ _ hc.2;rwa [m7] at this
  have h1':=h1
  rw [hbase c fr _ h1] at h1'
  apply List.ext_getElem?
  intro k
  rw [List.getElem?_map]
  rcases Nat.lt_or_ge k c.length with hk | hk
  ·have:=key c 0 fr h1' (by rw [h3];congr 1;simp [hlen]) k c[k] (by simp [hk])
   rw [List.getElem?_eq_getElem hk]
   simpa using this.symm
  ·rw [List.getElem?_eq_none hk,List.getElem?_eq_none (by simp;omega)]
   rfl
 cases draw with
 | false =>
  refine wp_region_list ?_
  rw [<-hmap]
  exact Bp hT (fun a w hd=>hQ _ h2 a w hd.tP) c fr a w hd rfl h1
 | true =>
  simp only at h2
  split at h2
  ·rename_i hb
   simp only [Bool.and_eq_true] at hb
   refine wp_region_any hm ?_
   have hidx : c.map Prod.fst = List.range ops.size:=by rw [h3,List.range_eq_range'];simp
   refine F7 hT hb.2 (fun a w hd=>hQ _ h2 a w hd.tP) ops.size _ c fr a _ hlen ⟨by simp,fun i hi=>?_,fun i hi=>?_,?_,?_,?_⟩ (fun j hj hjl=>?_) (hd.draw _) rfl h1
   ·rw [hidx]
    simp [Array.getD_eq_getD_getElem?,hi]
   ·rw [hidx] at hi;exact List.mem_range.1 hi
   ·rw [hidx];exact List.nodup_range
   ·rw [hidx];exact List.pairwise_lt_range
   ·have:=vo hb.1
    rw [List.append_nil,List.pairwise_reverse,List.pairwise_map] at this
    exact this
   ·simp [Array.getD_eq_getD_getElem?,hj] at hjl
  ·exact h2.elim
end
theorem E3 {x : D} {K : Int->Prop} (h : aa x K) : ∃ z,K z/\∀ K' : Int->Prop,K' z->aa x K':=by
 obtain ⟨z,rfl,h⟩:=lF h
 exact ⟨z,h,fun K' h'=>h'⟩
theorem FW {x : D} {K : Bool->Prop} (h : bU x K) : ∃ z,K z/\∀ K' : Bool->Prop,K' z->bU x K':=by
 obtain ⟨z,rfl,h⟩:=iN h
 exact ⟨z,h,fun K' h'=>h'⟩
theorem xH {sz : Nat} {x : D} {K : Nat->List D->Prop} (h : ah sz x K) : ∃ n cs,K n cs/\∀ K' : Nat->List D->Prop,K' n cs->ah sz x K':=by
 obtain ⟨n,cs,rfl,h2⟩:=jt h
 refine ⟨n,cs,h2,fun K' h'=>?_⟩
 unfold ah
 simp only [bB]
 exact h'
theorem mZ {ds : List D} {j : Nat} {s : CSh} {K : C->Nat->Prop} (h : unB aJ ds j s K) : ∃ c q,K c q/\∀ K' : C->Nat->Prop,K' c q->unB aJ ds j s K':=by
 cases s with
 | i =>
  obtain ⟨z,h1,h2⟩:=E3 h
  exact ⟨_,_,h1,fun K' h'=>h2 (fun z=>K' (.d (.v (.int .i64 z))) (j+1)) h'⟩
 | bo =>
  obtain ⟨z,h1,h2⟩:=FW h
  exact ⟨_,_,h1,fun K' h'=>h2 (fun z=>K' (.d (.v (.bool z))) (j+1)) h'⟩
 | d=>exact ⟨_,_,h,fun K' h'=>h'⟩
 | p b o=>exact ⟨_,_,h,fun K' h'=>h'⟩
 | w b=>exact ⟨_,_,h,fun K' h'=>h'⟩
 | m b=>exact ⟨_,_,h,fun K' h'=>h'⟩
 | f g cs=>exact ⟨_,_,h,fun K' h'=>h'⟩
theorem AT : ∀ {ss : List CSh} {ds : List D} {j : Nat} {K : List C->Nat->Prop},zf aJ ds j ss K->∃ c q,K c q/\∀ K' : List C->Nat->Prop,K' c q->zf aJ ds j ss K'
 | [],ds,j,K,h=>⟨[],j,h,fun K' h'=>h'⟩
 | s::ss,ds,j,K,h=>by
  obtain ⟨c,q,h,h1⟩:=mZ h
  obtain ⟨cs,q',h,h2⟩:=AT (ss:=ss) h
  exact ⟨c::cs,q',h,fun K' h'=>h1 _ (h2 (fun cs j=>K' (c::cs) j) h')⟩
theorem Du {ds : List D} {j : Nat} {s : CSh} {K : C->Nat->Prop} (h : unC aJ ds j s K) : ∃ c q,K c q/\∀ K' : C->Nat->Prop,K' c q->unC aJ ds j s K':=by
 cases s with
 | f g cs =>
  obtain ⟨c,q,h,h1⟩:=AT (ss:=cs) (ds:=ds) (j:=j) (K:=fun cs j=>K (.f g cs) j) h
  exact ⟨.f g c,q,h,fun K' h'=>h1 (fun cs j=>K' (.f g cs) j) h'⟩
 | i=>exact mZ (s:=.i) (ds:=ds) (j:=j) (K:=K) h
 | bo=>exact mZ (s:=.bo) (ds:=ds) (j:=j) (K:=K) h
 | d=>exact mZ (s:=.d) (ds:=ds) (j:=j) (K:=K) h
 | p b o=>exact mZ (s:=.p b o) (ds:=ds) (j:=j) (K:=K) h
 | w b=>exact mZ (s:=.w b) (ds:=ds) (j:=j) (K:=K) h
 | m b=>exact mZ (s:=.m b) (ds:=ds) (j:=j) (K:=K) h
theorem qI : ∀ {ss : List CSh} {ds : List D} {j : Nat} {K : List C->Nat->Prop},vM aJ ds j ss K->∃ c q,K c q/\∀ K' : List C->Nat->Prop,K' c q->vM aJ ds j ss K'
 | [],ds,j,K,h=>⟨[],j,h,fun K' h'=>h'⟩
 | s::ss,ds,j,K,h=>by
  obtain ⟨c,q,h,h1⟩:=Du h
  obtain ⟨cs,q',h,h2⟩:=qI (ss:=ss) h
  exact ⟨c::cs,q',h,fun K' h'=>h1 _ (h2 (fun cs j=>K' (c::cs) j) h')⟩
theorem unS_un {ds : List D} {s : SSh} {K : S->Prop} (h : unS aJ ds s K) : ∃ c,K c/\∀ K' : S->Prop,K' c->unS aJ ds s K':=by
 cases s with
 | c s =>
  obtain ⟨c,q,h,h1⟩:=Du (s:=s) (ds:=ds) (j:=0) (K:=fun c _=>K (.c c)) h
  exact ⟨.c c,h,fun K' h'=>h1 (fun c _=>K' (.c c)) h'⟩
 | a n=>exact ⟨_,h,fun K' h'=>h'⟩
 | g cs =>
  obtain ⟨c,q,h,h1⟩:=qI (ss:=cs) (ds:=ds) (j:=0) (K:=fun c _=>K (.g c)) h
  exact ⟨.g c,h,fun K' h'=>h1 (fun c _=>K' (.g c)) h'⟩
 | t l=>exact ⟨su,h,fun K' h'=>h'⟩
theorem AM {r : St'} : ∀ {l : List (Nat×SSh)} {j : Nat} {f : Nat->S} {K : (Nat->S)->Nat->Prop},oZ aJ r j l f K->∃ c q,K c q/\∀ K' : (Nat->S)->Nat->Prop,K' c q->oZ aJ r j l f K'
 | [],j,f,K,h=>⟨f,j,h,fun K' h'=>h'⟩
 | (t,s)::l,j,f,K,h=>by
  obtain ⟨c,h,h1⟩:=unS_un h
  obtain ⟨g,q,h,h2⟩:=AM (l:=l) h
  exact ⟨g,q,h,fun K' h'=>h1 _ (h2 K' h')⟩
theorem unO_un {ds : List D} {s : OSh} {K : O->Prop} (h : unO aJ ds s K) : ∃ c,K c/\∀ K' : O->Prop,K' c->unO aJ ds s K':=by
 cases s with
 | b e cs =>
  obtain ⟨c,q,h,h1⟩:=qI (ss:=cs) (ds:=ds) (j:=0) (K:=fun c _=>K (.b e c)) h
  exact ⟨.b e c,h,fun K' h'=>h1 (fun c _=>K' (.b e c)) h'⟩
 | a e n=>exact ⟨_,h,fun K' h'=>h'⟩
 | v e sz n cs =>
  obtain ⟨c,q,h,h1⟩:=qI (ss:=cs) (ds:=ds) (j:=0) (K:=fun c _=>K (.v e sz n c)) h
  exact ⟨.v e sz n c,h,fun K' h'=>h1 (fun c _=>K' (.v e sz n c)) h'⟩
 | w e sz =>
  obtain ⟨n,cs,h,h1⟩:=xH h
  exact ⟨_,h,fun K' h'=>h1 (fun n cs=>K' (.w e sz n cs)) h'⟩
 | m t ag vs =>
  obtain ⟨n,cs,h,h1⟩:=xH h
  exact ⟨_,h,fun K' h'=>h1 (fun n cs=>K' (.m t ag vs n cs)) h'⟩
theorem AQ {r : St'} : ∀ {l : List (Nat×OSh)} {j : Nat} {f : Ob} {K : Ob->Prop},tL aJ r j l f K->∃ c,K c/\∀ K' : Ob->Prop,K' c->tL aJ r j l f K'
 | [],j,f,K,h=>⟨f,h,fun K' h'=>h'⟩
 | (t,s)::l,j,f,K,h=>by
  obtain ⟨c,h,h1⟩:=unO_un h
  obtain ⟨g,h,h2⟩:=AQ (l:=l) h
  exact ⟨g,h,fun K' h'=>h1 _ (h2 K' h')⟩
theorem hU {sh : Sh} {r : St'} {K : Fr->Prop} (h : unpack aJ sh r K) : ∃ fr,K fr/\∀ K' : Fr->Prop,K' fr->unpack aJ sh r K':=by
 obtain ⟨sl,j,h,h1⟩:=AM h
 obtain ⟨ob,h,h2⟩:=AQ (K:=fun ob=>K ⟨sl,ob,nO sh.ob⟩) h
 exact ⟨_,h,fun K' h'=>h1 _ (h2 (fun ob=>K' ⟨sl,ob,nO sh.ob⟩) h')⟩
section
variable {w0 : World} {Γ0 : List As} {fr : Fr} {ρ : Nat->Option Value} {M : Mem} {lst : List (Nat×As)} {val : Nat->Option Value} {w : World}
theorem A8 (h : Rel w0 Γ0 fr ρ M lst val w) {mp0 : List (Nat×Tg)} (hi : tU mp0) {sh : Sh} {r r' : St'} {k1 k2 : Pk} (h1 : kZ fr.ob fr.sl ⟨mp0,[]⟩ sh.sl = some (r,k1)) (h2 : ld fr.ob k1 sh.ob = some (r',k2)) (hb : (linked sh.ob k2.mp && nP k2.mp k2.fix && jZ sh.ob) = true)
  {K : Fr->Prop} (hu : unpack aJ sh (r++r') K) : ∃ fr' M' lst',Sub M M'/\K fr'/\Rel w0 Γ0 fr' (dh k2.mp ρ) M' lst' val w/\(∀ p∈lst',p.1∈sh.ob.map Prod.fst)/\∀ i x,aY mp0 i = some x->aY k2.mp i = some x:=by
 simp only [Bool.and_eq_true] at hb
 obtain ⟨a1,a2⟩:=nu h1
 obtain ⟨a3,a4⟩:=nv h2
 obtain ⟨M1,lst1,hM,hR,hrows⟩:=rD h (ob:=fr.ob) (fun _ _ h=>h) k2.fix
 have hsl : ∀ t,fr.sl t = su\/∃ v,val t = some v/\SR M1 ρ (fr.sl t) v:=fun t=>by
  have:=hR.sl t
  rwa [qK] at this
 obtain ⟨fr',lst',rem,k3,_,k4,k5,_⟩:=oY (w0:=w0) (Γ0:=Γ0) (ob:=fr.ob) (mp:=k2.mp) (fun i b x hi hx=>hR.ob b x (by
  rw [gR _ fun p hp e=>?_]
  ·exact hx
  ·have:=zu hp
   rw [e] at this
   exact tD hb.1.2 this hi)) hR.nd hR.keys hR.st hR.gr hrows hsl (mS.mono a3.mp a3.fix a2) a4 hb.1.1 hb.2 (a3.inj (a1.inj hi)) hu
 exact ⟨fr',M1,lst',hM,k3,k4.less,k5,fun i x hx=>a3.mp _ _ (a1.mp _ _ hx)⟩
end
def Keeps (kp : List Nat) (ρ ρ' : Nat->Option Value) : Prop:=∀ i∈kp,∀ u,ρ i = some u->ρ' i = some u
theorem Bu {mp : List (Nat×Tg)} : ∀ {kp : List Nat},Bv mp kp = true->∀ i∈kp,aY mp i = some (.ob i)
 | j::kp,h,i,hi=>by
  unfold Bv at h
  simp only [Bool.and_eq_true] at h
  rcases List.mem_cons.1 hi with rfl | hi
  ·have h1:=h.1
   split at h1
   ·rename_i b hb;rw [hb,Nat.eq_of_beq_eq_true h1]
   ·cases h1
  ·exact Bu h.2 i hi
def tI (n : Nat) (w0 : World) (Γ0 : List As) (kp : List Nat) (ρ : Nat->Option Value) (M : Mem) (fr : Fr) (a : Act) (w : World) : Prop :=
 a.tmps.size = n/\a.defers = []/\∃ ρ' M' lst',Sub M M'/\Keeps kp ρ ρ'/\Rel w0 Γ0 fr ρ' M' lst' (tv a) w
structure KOk (nt : Nat) (w0 : World) (Γ0 : List As) (kp : List Nat) (ρ : Nat->Option Value) (M : Mem) (K : Kt) (Q : Exit->Act->World->Prop) : Prop where
 n : ∀ fr a w,K.n fr->tI nt w0 Γ0 kp ρ M fr a w->Q .normal a w
 x : ∀ i fr a w,K.x i fr->tI nt w0 Γ0 kp ρ M fr a w->Q (.exit i) a w
 r : ∀ fr a w,K.r fr->tI nt w0 Γ0 kp ρ M fr a w->Q .ret a w
section
variable {P : Program} {tb : Tb} {n : Nat} {H : Hint} {kp : List Nat} {w0 : World} {Γ0 : List As} {ρ : Nat->Option Value} {M : Mem}
theorem rO {sh : Sh} {fr : Fr} {k : St'->Prop} {a : Act} {w : World} (hh : tI n w0 Γ0 kp ρ M fr a w) (h : mM kp sh fr k) : ∃ st,k st/\∀ K : Fr->Prop,unpack aJ sh st K->∃ fr',K fr'/\tI n w0 Γ0 kp ρ M fr' a w:=by
 obtain ⟨h1,h2,ρ',M',lst',hM,hk,hR⟩:=hh
 unfold mM at h
 split at h
 ·rename_i st x hp
  split at h
  ·rename_i hkb
   unfold pack at hp
   split at hp
   ·rename_i r k1 e1
    split at hp
    ·rename_i r' k2 e2
     split at hp
     ·rename_i hb
      simp only [Option.some.injEq,Prod.mk.injEq] at hp
      obtain ⟨rfl,rfl⟩:=hp
      refine ⟨_,h,fun K hu=>?_⟩
      obtain ⟨fr',M2,lst2,g1,g2,g3,_,_⟩:=A8 hR tU.nil e1 e2 hb hu
      refine ⟨fr',g2,h1,h2,_,M2,lst2,Sub.trans hM g1,fun i hi u hu=>?_,g3⟩
      rw [dA (Bu hkb i hi)]
      exact hk i hi u hu
     ·cases hp
    ·cases hp
   ·cases hp
  ·exact h.elim
 ·exact h.elim
theorem lI (hT : TbOk P tb) (hm : P.follows .mixedOrders = true) : ∀ (c : Code) {fr : Fr} {K : Kt} {Q : Exit->Act->World->Prop} {a : Act} {w : World},ex (Is P) P tb n H kp c fr K->KOk n w0 Γ0 kp ρ M K Q->tI n w0 Γ0 kp ρ M fr a w->c.wp P Q a w
 | .skip,fr,K,Q,a,w,h,hK,hh=>wp_skip (hK.n _ _ _ h hh)
 | .label l,fr,K,Q,a,w,h,hK,hh=>wp_label (hK.n _ _ _ h hh)
 | .exit i,fr,K,Q,a,w,h,hK,hh=>wp_exit (hK.x _ _ _ _ h hh)
 | .ret,fr,K,Q,a,w,h,hK,hh=>wp_ret (hK.r _ _ _ h hh)
 | .region id ops draw,fr,K,Q,a,w,h,hK,hh=>by
  obtain ⟨h1,h2,ρ',M',lst',hM,hk,hR⟩:=hh
  refine Ci (ρ0:=ρ') (M0:=M') (w0:=w0) (Γ0:=Γ0) (K:=K.n) hT hm ⟨h1,h2,ρ',M',lst',Sub.refl _,Ext.refl _,hR⟩ h fun fr' hn a w hd=>?_
  obtain ⟨d1,d2,ρ2,M2,lst2,d3,d4,d5⟩:=hd
  exact hK.n _ _ _ hn ⟨d1,d2,ρ2,M2,lst2,Sub.trans hM d3,fun i hi u hu=>d4 _ _ (hk i hi u hu),d5⟩
 | .seq x y,fr,K,Q,a,w,h,hK,hh=>by
  refine wp_seq ?_
  unfold ex at h
  split at h
  ·exact lI hT hm x (Q:=Exit.then (y.wp P Q) Q) h ⟨fun fr a w hn hh=>lI hT hm y hn hK hh,hK.x,hK.r⟩ hh
  ·rename_i sh hsh
   obtain ⟨I,h1,h2⟩:=h
   refine lI hT hm x (Q:=Exit.then (y.wp P Q) Q) h1 ⟨fun fr a w hn hh=>?_,hK.x,hK.r⟩ hh
   obtain ⟨st,hI,hu⟩:=rO hh hn
   obtain ⟨fr',hx,hh'⟩:=hu _ (h2 st hI)
   exact lI hT hm y hx hK hh'
 | .cond t x y,fr,K,Q,a,w,h,hK,hh=>by
  unfold ex evB at h
  split at h
  ·rename_i t
   split at h
   ·rename_i v hv
    obtain ⟨z,rfl,h⟩:=iN h
    obtain ⟨h1,h2,ρ',M',lst',hM,hk,hR⟩:=id hh
    have hz : a.eval (.tmp t) = .bool z:=by
     rcases hR.sl t with e | ⟨u,e1,e2⟩
     ·rw [hv] at e;cases e
     ·rw [hv] at e2
      have e3 : u = .bool z:=by
       have : Rd M' (.v (.bool z)) u:=e2
       simp only [Rd] at this
       exact this.1
      subst e3
      simp only [Act.eval]
      have e1' : a.tmps[t]? = some (.bool z):=e1
      simp [Array.getD_eq_getD_getElem?,e1']
    refine wp_cond_split hz (fun e=>?_) fun e=>?_
    ·subst e;exact lI hT hm x h hK hh
    ·subst e;exact lI hT hm y h hK hh
   ·exact h.elim
  ·exact h.elim
 | .block i c,fr,K,Q,a,w,h,hK,hh=>by
  refine wp_block (lI hT hm c (Q:=Exit.inBlock i Q) h ⟨hK.n,fun j fr a w hj hh=>?_,hK.r⟩ hh)
  simp only [Exit.inBlock]
  split
  ·rename_i e
   subst e
   simp only [bB] at hj
   exact hK.n _ _ _ hj hh
  ·rename_i e
   simp only [fy e] at hj
   exact hK.x _ _ _ _ hj hh
 | .scope c,fr,K,Q,a,w,h,hK,hh=>wp_scope_straight (lI hT hm c (Q:=Exit.noGoto Q) h ⟨hK.n,hK.x,hK.r⟩ hh)
 | .loop c,fr,K,Q,a,w,h,hK,hh=>by
  unfold ex at h
  split at h
  ·rename_i k _
   refine wp_loop_ghost (fun m a w=>∃ fr,unr (fun fr next=>ex (Is P) P tb n H kp c fr ⟨next,K.x,K.r⟩) m fr/\tI n w0 Γ0 kp ρ M fr a w) k ⟨fr,h,hh⟩ ?_
   rintro m a w ⟨fr,hu,hh⟩
   cases m with
   | zero=>exact hu.elim
   | succ m=>exact lI hT hm c (Q:=Exit.then (fun a' w'=>∃ n',n' < m+1/\∃ fr,unr (fun fr next=>ex (Is P) P tb n H kp c fr ⟨next,K.x,K.r⟩) n' fr/\tI n w0 Γ0 kp ρ M fr a' w') Q) hu ⟨fun fr' a w hn hh=>⟨m,Nat.lt_succ_self m,fr',hn,hh⟩,hK.x,hK.r⟩ hh
  split at h
  ·exact h.elim
  ·rename_i sh hsh
   obtain ⟨st,⟨I,⟨m,hI⟩,hround⟩,hu⟩:=rO hh h
   refine wp_loop_ghost (fun m a w=>∃ st,I m st/\∀ K : Fr->Prop,unpack aJ sh st K->∃ fr',K fr'/\tI n w0 Γ0 kp ρ M fr' a w) m ⟨st,hI,hu⟩ ?_
   rintro m a w ⟨st,hI,hu⟩
   obtain ⟨fr',hx,hh'⟩:=hu _ (hround m st hI)
   refine lI hT hm c (Q:=Exit.then (fun a' w'=>∃ n',n' < m/\∃ st,I n' st/\∀ K : Fr->Prop,unpack aJ sh st K->∃ fr',K fr'/\tI n w0 Γ0 kp ρ M fr' a' w') Q) hx ⟨fun fr a w hn hh=>?_,hK.x,hK.r⟩ hh'
   obtain ⟨st',⟨m',hlt,hI'⟩,hu'⟩:=rO hh hn
   exact ⟨m',hlt,st',hI',hu'⟩
 | .goto _,_,_,_,_,_,h,_,_=>by first | exact h.elim | (unfold ex at h;exact h.elim)
end
theorem lZ (oob : List (Nat×OSh)) : ∀ (l : List (Nat×OSh)) (i : Nat) (x : Tg),aY (start l oob) i = some x->x = .ob i
 | [],i,x,h=>by simp [start,aY] at h
 | (j,o)::l,i,x,h=>by
  unfold start at h
  split at h
  ·rw [cW] at h
   by_cases e : i = j
   ·subst e
    rw [if_pos rfl] at h
    simp only [Option.some.injEq] at h
    exact h.symm
   ·rw [if_neg e] at h
    exact lZ oob l i x h
  ·exact lZ oob l i x h
theorem zk (l oob : List (Nat×OSh)) : tU (start l oob):=fun i j b h1 h2=>by
 have e1:=lZ oob l i _ h1
 have e2:=lZ oob l j _ h2
 simp only [Tg.ob.injEq] at e1 e2
 rw [<-e1,<-e2]
theorem ug {oob : List (Nat×OSh)} : ∀ {l : List (Nat×OSh)} {i : Nat},i∈l.map Prod.fst->i∈oob.map Prod.fst->aY (start l oob) i = some (.ob i)/\i∈yh (start l oob)
 | (j,o)::l,i,h1,h2=>by
  have ha : (oob.any fun x=>Nat.beq x.1 i) = true:=by
   obtain ⟨p,hp,e⟩:=List.mem_map.1 h2
   exact List.any_eq_true.2 ⟨p,hp,by rw [e];exact bB i⟩
  unfold start
  by_cases e : i = j
  ·subst e
   rw [ha]
   simp only
   refine ⟨by rw [cW,if_pos rfl],?_⟩
   unfold yh
   exact List.mem_cons_self ..
  ·have h1:=(List.mem_cons.1 (show i∈j::l.map Prod.fst from h1)).resolve_left e
   obtain ⟨g1,g2⟩:=ug h1 h2
   split
   ·refine ⟨by rw [cW,if_neg e];exact g1,?_⟩
    unfold yh at *
    exact List.mem_cons_of_mem _ g2
   ·exact ⟨g1,g2⟩
 | [],i,h1,_=>by simp at h1
def one (a : Act) : ResultVar->Sem Value
 | .tmp t=>pure (a.tmps.getD t undef)
 | .cell x t=>do loadVar t (<-asAddr (a.tmps.getD x undef))
theorem ER {P : Program} {w : World} {ρ : Operand->Value} {o : Oper} {x : Operand} {t : TypeId} {p : Addr} {v : Value} (ho : o.op = .load t x) (hx : ρ x = .pointer (some p)) (h : (execOp ρ o).run P w = .ok (.value v) w) : (loadVar t p).run P w = .ok v w:=by
 have h' : ((loadVar t p).run P w).andThen (fun v w'=>Result.ok (Next.value v) w') = .ok (.value v) w:=by
  have e : (execOp ρ o).run P w = ((loadVar t p).run P w).andThen (fun v w'=>Result.ok (Next.value v) w'):=by
   unfold execOp
   rw [ho]
   simp [hx,Instr.loadAt,Instr.sureAddr]
  rw [<-e]
  exact h
 cases hl : (loadVar t p).run P w with
 | ok v' w' =>
  rw [hl] at h'
  simp only [Result.andThen,Result.ok.injEq,Next.value.injEq] at h'
  rw [h'.1,h'.2]
 | halt _ _=>rw [hl] at h';simp [Result.andThen] at h'
def Slot (ρ : Nat->Option Value) (M : Mem) (xs : List S) (vs : List Value) : Prop:=∀ i,xs.getD i su = su\/∃ v,vs[i]? = some v/\SR M ρ (xs.getD i su) v
theorem Slot.cons {ρ : Nat->Option Value} {M : Mem} {x : S} {v : Value} {xs : List S} {vs : List Value} (h : x = su\/SR M ρ x v) (k : Slot ρ M xs vs) : Slot ρ M (x::xs) (v::vs):=fun i=>by
 cases i with
 | zero =>
  rcases h with h | h
  ·exact .inl h
  ·exact .inr ⟨v,rfl,h⟩
 | succ i=>exact k i
section
variable {P : Program} {w0 : World} {Γ0 : List As} {fr : Fr} {ρ : Nat->Option Value} {M : Mem} {lst : List (Nat×As)} {a : Act} {w : World} {n : Nat}
theorem FK (h1 : a.tmps.size = n) (h2 : a.defers = []) (hR : Rel w0 Γ0 fr ρ M lst (tv a) w) {t ty : Nat} {s : S} (h : FL P fr t ty = some s) : ∃ v,(one a (.cell t ty)).run P w = .ok v w/\SR M ρ s v:=by
 unfold FL at h
 split at h
 ·rename_i b off hsl
  have hs : ∃ v,tv a t = some v/\SR M ρ (.c (.p b off)) v:=by
   rcases hR.sl t with e | ⟨v,e1,e2⟩
   ·rw [hsl] at e;cases e
   ·rw [hsl] at e2;exact ⟨v,e1,e2⟩
  obtain ⟨v,hv,k,hk,rfl⟩:=hs
  have hev : fA a (.tmp t) (.pointer (some (adr (some ⟨k,0,none⟩) off))):=hv
  have hb : ∀ x,fr.ob b = some x->OR M ρ lst b x:=fun x hx=>hR.ob b x hx
  have fin : ∀ v, Yq P w0 (Lf a) M (lst.map Prod.snd ++ Γ0) ⟨none, .load ty (.tmp t), 0, "", #[], none⟩ v → (one a (.cell t ty)).run P w = .ok v w := fun v hy => by
   have hx:=hy n a w (xj h1 h2) hR.st
   have he : a.eval (.tmp t) = .pointer (some (adr (some ⟨k,0,none⟩) off)):=fA.eval (x:=.tmp t) hev
   have hl:=ER (x:=.tmp t) rfl he hx
   have he' : a.tmps.getD t undef = .pointer (some (adr (some ⟨k,0,none⟩) off)):=by
    have : a.tmps[t]? = some (.pointer (some (adr (some ⟨k,0,none⟩) off))):=hv
    simp [Array.getD_eq_getD_getElem?,this]
   show (do loadVar ty (<-asAddr (a.tmps.getD t undef)) : Sem Value).run P w = _
   rw [he']
   simp [asAddr,hl]
  split at h
  ·rename_i e m ds hob
   obtain ⟨k',us,h3,h4,h5,h6⟩:=hb _ hob
   rw [hk] at h3
   obtain rfl : k = k':=by simpa using h3
   have hm : As.own k e us∈lst.map Prod.snd++Γ0:=List.mem_append_left _ (List.mem_map_of_mem h4)
   obtain ⟨v,h7,h8⟩:=lB (P:=P) (w0:=w0) (ρ:=ρ) (q:=0) (ad:=some ⟨k,0,none⟩) (by rw [Nat.zero_add];exact hev.evL) h5 h6 (Γ:=lst.map Prod.snd++Γ0) (fun i u hi w hw=>by rw [Nat.zero_add];exact hw.cq hm hi) h
   exact ⟨v,fin v h7,h8⟩
  ·rename_i e cs hob
   obtain ⟨k',us,h3,h4,h5⟩:=hb _ hob
   rw [hk] at h3
   obtain rfl : k = k':=by simpa using h3
   have hm : As.own k e us∈lst.map Prod.snd++Γ0:=List.mem_append_left _ (List.mem_map_of_mem h4)
   obtain ⟨v,h7,h8⟩:=sr (P:=P) (w0:=w0) (ρ:=ρ) (ad:=some ⟨k,0,none⟩) (Γ:=lst.map Prod.snd++Γ0) hev.evL h5 (fun i u hi w hw=>hw.cq hm hi) h
   exact ⟨v,fin v h7,h8⟩
  ·cases h
 ·cases h
theorem vX (h1 : a.tmps.size = n) (h2 : a.defers = []) (hR : Rel w0 Γ0 fr ρ M lst (tv a) w) : ∀ {l : List ResultVar} {xs : List S},zz P fr l = some xs->∃ vs,(l.mapM (one a)).run P w = .ok vs w/\vs.length = l.length/\Slot ρ M xs vs
 | [],xs,h=>by
  simp only [zz,Option.some.injEq] at h
  subst h
  exact ⟨[],by simp,rfl,fun i=>.inl rfl⟩
 | .tmp t::l,xs,h=>by
  unfold zz at h
  split at h
  ·rename_i ys hys
   simp only [Option.some.injEq] at h
   subst h
   obtain ⟨vs,g1,g2,g3⟩:=vX h1 h2 hR hys
   refine ⟨a.tmps.getD t undef::vs,by simp [List.mapM_cons,one,g1],by simp [g2],g3.cons ?_⟩
   rcases hR.sl t with e | ⟨v,e1,e2⟩
   ·exact .inl e
   ·have : a.tmps[t]? = some v:=e1
    exact .inr (by simpa [Array.getD_eq_getD_getElem?,this] using e2)
  ·cases h
 | .cell t ty::l,xs,h=>by
  unfold zz at h
  split at h
  ·rename_i s hs
   split at h
   ·rename_i ys hys
    simp only [Option.some.injEq] at h
    subst h
    obtain ⟨vs,g1,g2,g3⟩:=vX h1 h2 hR hys
    obtain ⟨v,g4,g5⟩:=FK h1 h2 hR hs
    exact ⟨v::vs,by simp [List.mapM_cons,g4,g1],by simp [g2],g3.cons (.inr g5)⟩
   ·cases h
  ·cases h
end
def oneV (xs : List Value) : Value:=if h : xs.toArray.size = 1 then xs.toArray[0] else .tuple xs.toArray
theorem zy {P : Program} {fn : Func} {a : Act} {w : World} {vs : List Value} (h : (fn.results.toList.mapM (one a)).run P w = .ok vs w) : (results fn a.tmps).run P w = Result.ok (oneV vs) w:=by
 have e : results fn a.tmps = (do
   let vs <-fn.results.mapM (one a)
   pure (if h : vs.size = 1 then vs[0] else .tuple vs)):=by
  unfold results
  congr 1
 rw [e,Array.mapM_eq_mapM_toList,Sem.run_bind,Sem.run_map,h]
 rfl
theorem qi : ∀ (l : List S) (j t : Nat),cv j l (j+t) = l.getD t su
 | [],j,t=>by simp [cv]
 | s::l,j,0=>by simp [cv]
 | s::l,j,t+1=>by
  have e : Nat.beq (j+(t+1)) j = false:=fy (by omega)
  simp only [cv,e]
  rw [show j+(t+1) = j+1+t by omega,qi l]
  simp
theorem zH {s : Sig} {fr : Fr} {st : St'} (h : we s fr = some st) : ∃ r k1 r' k2,kZ fr.ob fr.sl ⟨start s.ins.ob s.oob,[]⟩ (gC s).sl = some (r,k1)/\ld fr.ob k1 (gC s).ob = some (r',k2)/\(linked (gC s).ob k2.mp && nP k2.mp k2.fix && jZ (gC s).ob) = true/\st = r++r':=by
 unfold we at h
 split at h
 ·rename_i r k1 h1
  split at h
  ·rename_i r' k2 h2
   split at h
   ·rename_i hb
    simp only [Option.some.injEq] at h
    exact ⟨r,k1,r',k2,h1,h2,hb,h.symm⟩
   ·cases h
  ·cases h
 ·cases h
theorem fnB_ok {s : Sig} {fn : Func} (h : fnB s fn = true) (xs : List Value) (hx : xs.length = fn.results.toList.length) : tT s.out (oneV xs) xs:=by
 unfold fnB at h
 simp only [Bool.and_eq_true] at h
 have h2:=h.2
 unfold tT
 have one : xs.length = 1->xs = [oneV xs]:=fun h1=>by
  match xs,h1 with
  | [x],_=>rfl
 cases ho : s.out with
 | t l =>
  rw [ho] at h2
  simp only [Bool.and_eq_true,Bool.not_eq_true'] at h2
  have e1:=Nat.eq_of_beq_eq_true h2.1
  have e2:=Nat.ne_of_beq_eq_false h2.2
  have : xs.toArray.size ≠ 1:=by simp;omega
  exact ⟨by unfold oneV;rw [dif_neg this],by omega⟩
 | c _=>rw [ho] at h2;exact one (by rw [hx];exact Nat.eq_of_beq_eq_true h2)
 | a _=>rw [ho] at h2;exact one (by rw [hx];exact Nat.eq_of_beq_eq_true h2)
 | g _=>rw [ho] at h2;exact one (by rw [hx];exact Nat.eq_of_beq_eq_true h2)
theorem fn_ok {P : Program} {tb : Tb} (hT : TbOk P tb) (hm : P.follows .mixedOrders = true) {H : Hint} {s : Sig} {a r : St'} (h : fnX (Is P) P tb H s a fun st=>st = r) (hu : unpack aJ (gC s) r fun _=>True) : Is P s a r:=by
 unfold fnX at h
 split at h
 ·exact h.elim
 ·rename_i fn hf
  split at h
  ·exact h.elim
  ·rename_i c hb
   split at h
   ·rename_i hfb
    obtain ⟨fr,hx,hun⟩:=hU h
    refine hun _ ?_
    intro w0 Γ0 ρ M lst vs w hlen hρ hR
    refine calls_of_wp hf hb ?_
    have hlt : Nat.ble vs.length fn.ntmps = true:=by
     unfold fnB at hfb
     simp only [Bool.and_eq_true] at hfb
     rw [hlen]
     exact hfb.1
    obtain ⟨s1,s2,s3⟩:=fE fn.ntmps vs hlt
    refine lI hT hm c (n:=fn.ntmps) (w0:=w0) (Γ0:=Γ0) (ρ:=ρ) (M:=M) hx ?_ ⟨s1,s2,ρ,M,lst,Sub.refl M,fun _ _ _ h=>h,⟨fun t=>?_,hR.ob,hR.rho,hR.keys,hR.nd,hR.st,hR.gr⟩⟩
    ·have fin : ∀ (fr : Fr) (a : Act) (w : World),zx P s fn.results.toList fr (fun st=>st = r)->tI fn.ntmps w0 Γ0 (yh (start s.ins.ob s.oob)) ρ M fr a w->a.defers = []/\∃ v,(results fn a.tmps).run P w = .ok v w/\Left w0 Γ0 ρ M s r (.returned v) w:=by
      intro fr a w hk ⟨h1,h2,ρ',M',lst',hM,hkp,hR'⟩
      unfold zx at hk
      split at hk
      ·rename_i xs hxs
       split at hk
       ·rename_i st hst
        subst hk
        obtain ⟨vs',r1,r2,r3⟩:=vX h1 h2 hR' hxs
        obtain ⟨q,k1,q',k2,p1,p2,p3,rfl⟩:=zH hst
        refine ⟨h2,_,zy r1,?_⟩
        have hR2 : Rel w0 Γ0 ⟨cv 0 xs,fr.ob,fr.base⟩ ρ' M' lst' (vals vs') w:=⟨fun t=>by
         have:=qi xs 0 t
         rw [Nat.zero_add] at this
         show cv 0 xs t = su\/∃ v,_/\SR M' ρ' (cv 0 xs t) v
         rw [this]
         exact r3 t,hR'.ob,hR'.rho,hR'.keys,hR'.nd,hR'.st,hR'.gr⟩
        obtain ⟨fr2,_,hun2⟩:=hU hu
        obtain ⟨fr',M2,lst2,g1,g2,g3,g4,g5⟩:=A8 hR2 (zk _ _) p1 p2 p3 (hun2 (fun x=>x = fr2) rfl)
        refine ⟨_,_,dh k2.mp ρ',M2,lst2,fr',rfl,fnB_ok hfb _ r2,Sub.trans hM g1,fun i u hu hi=>?_,fun i hi=>?_,g4,by rw [g2];exact hun2 _ rfl,g3⟩
        ·obtain ⟨y1,y2⟩:=ug (hρ i (by rw [hu];rfl)) hi
         rw [dA (g5 _ _ y1)]
         exact hkp i y2 u hu
        ·simp only [Bool.and_eq_true] at p3
         unfold dh at hi
         split at hi
         ·rename_i hg;exact ee p3.1.1 hg
         ·rename_i hg;exact ee p3.1.1 hg
         ·cases hi
       ·exact hk.elim
      ·exact hk.elim
     exact ⟨fun fr a w hk hh=>fin fr a w hk hh,fun _ _ _ _ h=>h.elim,fun fr a w hk hh=>fin fr a w hk hh⟩
    ·rcases hR.sl t with e | ⟨v,e1,e2⟩
     ·exact .inl e
     ·refine .inr ⟨v,s3 t v ?_,e2⟩
      have:=nc vs 0 t
      rw [Nat.zero_add] at this
      rw [this]
      exact e1
   ·exact h.elim
abbrev vI (z : Int) : D:=.v (.int .i64 z)
abbrev vB (b : Bool) : D:=.v (.bool b)
abbrev vS (s : ByteArray) : D:=.v (.string s)
section
variable {x : List D} {l : St'} {d : D} {ds : List D} {n sz : Nat}
theorem DF {cs : List D} {k : Nat->List D->Prop} : ah sz (.sl n sz cs) k = k n cs:=by
 show (match Nat.beq sz sz with
  | true=>k n cs
  | false=>False) = _
 rw [bB]
theorem ifK_d {p : Prop} [Decidable p] {k h : Prop} : ifK (decide p) k h = ((p->k)/\(¬ p->h)):=by
 by_cases hp : p <;> simp [ifK,hp]
theorem ai {Is : Sig->St'->St'->Prop} {s : Sig} {a r : St'} {k : St'->Prop} (h : Is s a r) (hk : k r) : caK Is s a k:=⟨r,h,hk⟩
theorem ja {X : (St'->Prop)->Prop} {k : St'->Prop} (h : X k) : jn X k:=⟨k,h,fun _ h=>h⟩
theorem lT {σ : Type} {B : (St'->Prop)->St'->Prop} {s0 : St'} (st : σ->St') (μ : σ->Nat) (I : σ->Prop) (x0 : σ) (h0 : I x0) (e0 : s0 = st x0) (h : ∀ (x : σ) (next : St'->Prop),I x->(∀ y,μ y < μ x->I y->next (st y))->B next (st x)) : Lp B s0:=by
 refine ⟨fun m s=>∃ y,μ y = m/\I y/\s = st y,⟨_,x0,rfl,h0,e0⟩,?_⟩
 rintro m s ⟨y,rfl,hy,rfl⟩
 exact h y _ hy fun z h1 h2=>⟨μ z,h1,z,rfl,h2,rfl⟩
theorem cz {B : (St'->Prop)->St'->Prop} {s0 : St'} (n : Nat) (st : Nat->St') (I : Nat->Prop) (h0 : I 0) (e0 : s0 = st 0) (h : ∀ (i : Nat) (next : St'->Prop),i<=n->I i->(i < n->I (i+1)->next (st (i+1)))->B next (st i)) : Lp B s0:=by
 refine lT st (fun i=>n - i) (fun i=>i<=n/\I i) 0 ⟨Nat.zero_le _,h0⟩ e0 fun i next hi hn=>?_
 exact h i next hi.1 hi.2 fun h1 h2=>hn _ (by omega) ⟨h1,h2⟩
end
theorem hH {α : Type} {enc : α->List D} {sz : Nat} (he : ∀ x,(enc x).length = sz) (xs : List α) {k : Nat} (hk : k < xs.length) : el (xs.flatMap enc) sz k = enc xs[k] :=
 aS he xs k _ (List.getElem?_eq_getElem hk)
theorem pO {α : Type} {f : α->D} (xs : List α) {k : Nat} (hk : k < xs.length) : el (xs.map f) 1 k = [f xs[k]]:=by
 unfold el
 rw [Nat.mul_one,List.drop_eq_getElem_cons (by simpa using hk),List.take_succ_cons,List.take_zero]
 simp
theorem oM (xs : List Ty) {k : Nat} (hk : k < xs.length) : el (xs.flatMap Ty.enc) 5 k = xs[k].enc:=hH Ty.aq xs hk
theorem BE (xs : List Ex) {k : Nat} (hk : k < xs.length) : el (xs.flatMap Ex.enc) 15 k = xs[k].enc:=hH Ex.aq xs hk
theorem cell_Ex (e : Ex) (i : Nat) : cell e.enc i = cell [an e.id.shop,an e.id.seq,an e.id.index,an e.kind,an e.n,an e.ref.shop,an e.ref.seq,an e.ref.index,an e.ty.kind,an e.ty.df.shop,an e.ty.df.seq,an e.ty.df.index,
  .sl e.ty.kids.length 5 (e.ty.kids.flatMap Ty.enc),.sl e.kids.length 15 (e.kids.flatMap Ex.enc),.sl e.names.length 1 (e.names.map eP)] i:=by rw [Ex.ay]
theorem cell_Ty (t : Ty) (i : Nat) : cell t.enc i = cell [an t.kind,an t.df.shop,an t.df.seq,an t.df.index,.sl t.kids.length 5 (t.kids.flatMap Ty.enc)] i:=by rw [Ty.ay]
def cls (X : List D) : Nat->Nat->List D->List D
 | _,0,l=>l
 | j,n+1,l=>cell X j::cls X (j+1) n l
theorem pmr : (∀ (X : List D) (j : Nat) (l : List D),cls X j 0 l = l)/\(∀ (X : List D) (j n : Nat) (l : List D),cls X j (n+1) l = cell X j::cls X (j+1) n l)/\(∀ (x : List D) (l : St'),ent (x::l) 0 = x)/\(∀ (x : List D) (l : St') (n : Nat),ent (x::l) (n+1) = ent l n)/\(∀ (d : D) (ds : List D),cell (d::ds) 0 = d)/\(∀ (d : D) (ds : List D) (n : Nat),cell (d::ds) (n+1) = cell ds n) /\
  (∀ (z : Int) (k : Int->Prop),aa (.v (.int .i64 z)) k = k z)/\(∀ (z : Bool) (k : Bool->Prop),bU (.v (.bool z)) k = k z)/\(∀ (z : ByteArray) (k : ByteArray->Prop),B4 (.v (.string z)) k = k z)/\(∀ (sz n : Nat) (cs : List D) (k : Nat->List D->Prop),ah sz (.sl n sz cs) k = k n cs) /\
  (∀ p k : Prop,ckK p k = (p/\k))/\(∀ k h : Prop,ifK true k h = k)/\(∀ k h : Prop,ifK false k h = h)/\(∀ (p : Prop) (_ : Decidable p) (k h : Prop),ifK (decide p) k h = ((p->k)/\(¬ p->h))) /\
  (∀ (e : Ex) (i : Nat),cell e.enc i = cell [an e.id.shop,an e.id.seq,an e.id.index,an e.kind,an e.n,an e.ref.shop,an e.ref.seq,an e.ref.index,an e.ty.kind,an e.ty.df.shop,an e.ty.df.seq,an e.ty.df.index,
   .sl e.ty.kids.length 5 (e.ty.kids.flatMap Ty.enc),.sl e.kids.length 15 (e.kids.flatMap Ex.enc),.sl e.names.length 1 (e.names.map eP)] i) /\
  (∀ (t : Ty) (i : Nat),cell t.enc i = cell [an t.kind,an t.df.shop,an t.df.seq,an t.df.index,.sl t.kids.length 5 (t.kids.flatMap Ty.enc)] i)/\(∀ n : Nat,((n : Int)).toNat = n) :=
 ⟨fun _ _ _=>rfl,fun _ _ _ _=>rfl,fun _ _=>rfl,fun _ _ _=>rfl,fun _ _=>rfl,fun _ _ _=>rfl,fun _ _=>rfl,fun _ _=>rfl,fun _ _=>rfl,fun _ _ _ _=>DF,fun _ _=>rfl,fun _ _=>rfl,fun _ _=>rfl,fun _ _ _ _=>ifK_d,cell_Ex,cell_Ty,Int.toNat_natCast⟩
abbrev ρ0 : Nat->Option Value:=fun _=>none
def Plain (M : Mem) (sl : Nat->S) (vs : List Value) : Prop:=∀ t,sl t = su\/∃ v,vs[t]? = some v/\SR M ρ0 (sl t) v
def Old (P : Program) (s : Sig) (fr : Fr) (r : St') : Prop:=∀ (w0 : World) (M : Mem) (Γ : List As) (vs : List Value),vs.length = s.ins.sl.length->Plain M fr.sl vs->y6 M ->
 aA P w0 M Γ s.f vs.toArray (oV M Γ fun M' v=>∃ vs' fr',tT s.out v vs'/\unpack aJ (gC s) r (fun x=>x = fr')/\(∀ b,fr'.ob b = none)/\Plain M' fr'.sl vs')
theorem pn {P : Program} {s : Sig} {a r : St'} (hi : s.ins.ob = []) (h : unpack aJ s.ins a fun fr=>Old P s fr r) : Is P s a r:=by
 obtain ⟨fr,h1,h2⟩:=hU h
 refine h2 _ ?_
 intro w0 Γ0 ρ M lst vs w hlen hρ hR
 have hr : ρ = ρ0:=by
  funext i
  cases hc : ρ i with
  | none=>rfl
  | some v=>have:=hρ i (by rw [hc];rfl);rw [hi] at this;cases this
 subst hr
 have hl : lst = []:=by
  cases lst with
  | nil=>rfl
  | cons p l=>have:=hR.keys p (List.mem_cons_self ..);cases this
 subst hl
 have hs:=h1 w0 M Γ0 vs hlen hR.sl hR.gr w hR.st
 refine hs.mono ?_
 rintro e w' ⟨v,M',Γ',he,hg,hst⟩
 obtain ⟨hM,rfl,vs',fr',g1,g2,g3,g4⟩:=hg
 exact ⟨v,vs',ρ0,M',[],fr',he,g1,hM,(fun i u hu=>by cases hu),(fun i hi=>by cases hi),(fun p hp=>by cases hp),g2,⟨g4,(fun b o ho=>by rw [g3] at ho;cases ho),(fun b v hv=>by cases hv),(fun p hp=>by cases hp),List.nodup_nil,hst,hR.gr.mono hM⟩⟩
theorem xV {P : Program} {s : Sig} {fr : Fr} {b : Bool} {w0 : World} {M : Mem} {vs : List Value} (hM : y6 M) (h : lW P s fr [[.v (.bool b)]]) (hlen : vs.length = s.ins.sl.length) (hp : Plain M fr.sl vs) (hob : ∀ b,fr.ob b = none)
  (ho : s.out = .c .bo) (hoo : s.oob = []) : aA P w0 M [] s.f vs.toArray (fun u M' Γ'=>u = .bool b/\M' = M/\Γ' = []):=by
 intro w hst
 refine (h w0 [] ρ0 M [] vs w hlen (fun i hi=>by cases hi) ⟨hp,(fun b o ho=>by rw [hob] at ho;cases ho),(fun b v hv=>by cases hv),(fun p hp=>by cases hp),List.nodup_nil,hst,hM⟩).mono ?_
 rintro e w' ⟨v,us,ρ',M',lst',fr',rfl,h1,h2,h3,h4,h5,h6,h7⟩
 have hst' : St w0 M' (lst'.map Prod.snd++[]) w':=h7.st
 unfold gC at h6
 rw [hoo,ho] at h6
 rw [ho] at h1
 obtain rfl : us = [v]:=h1
 have hv : v = .bool b:=by
  subst h6
  obtain h8 | ⟨u,h8,h9⟩:=h7.sl 0
  ·cases h8
  ·obtain rfl : v = u:=Option.some.inj h8
   have h10 : Rd M' (.v (.bool b)) v:=h9
   unfold Rd at h10
   exact h10.1
 exact ⟨v,M,[],rfl,⟨hv,rfl,rfl⟩,hst'.os,hst'.tape,hst'.output,hst'.size,(fun b o hb=>hst'.mem b o (h2 b o hb)),(fun x hx=>by cases hx),List.nodup_nil⟩
theorem St.back {w0 w w' : World} {M M' : Mem} {Γ : List As} (h0 : St w0 M Γ w) (h : St w0 M' Γ w') (hs : Sub M M') : St w0 M Γ w':=by
 have hn : ∀ b,M' b = none->M b = none:=fun b hb=>by
  cases hm : M b with
  | none=>rfl
  | some o=>rw [hs b o hm] at hb;cases hb
 refine ⟨h.os,h.tape,h.output,h.size,fun b o hb=>h.mem b o (hs b o hb),fun x hx=>?_,h.nodup⟩
 have h1:=h0.all x hx
 have h2:=h.all x hx
 cases x with
 | rd d u=>exact h1
 | rds ds us=>exact h1
 | own b e cs=>exact ⟨hn b h2.1,h2.2⟩
 | acc u e sz n us=>exact ⟨h2.1,fun b hb=>hn b (h2.2 b hb)⟩
 | mp b l=>exact ⟨hn b h2.1,h2.2⟩
theorem gW {P : Program} {s : Sig} {fr : Fr} {x : Value} {w0 : World} {M : Mem} {Γ : List As} {vs : List Value} (hM : y6 M) (h : lW P s fr [[.v x]]) (hlen : vs.length = s.ins.sl.length) (hp : Plain M fr.sl vs) (hob : ∀ b,fr.ob b = none)
  (ho : (s.out = .c .bo/\∃ b,x = .bool b)\/(s.out = .c .i/\∃ z,x = .int .i64 z)) (hoo : s.oob = []) : aA P w0 M Γ s.f vs.toArray (fun u M' Γ'=>u = x/\M' = M/\Γ' = Γ):=by
 intro w hst
 refine (h w0 Γ ρ0 M [] vs w hlen (fun i hi=>by cases hi) ⟨hp,(fun b o ho=>by rw [hob] at ho;cases ho),(fun b v hv=>by cases hv),(fun p hp=>by cases hp),List.nodup_nil,hst,hM⟩).mono ?_
 rintro e w' ⟨v,us,ρ',M',lst',fr',rfl,h1,h2,h3,h4,h5,h6,h7⟩
 have hst' : St w0 M' (lst'.map Prod.snd++Γ) w':=h7.st
 have key : v = x:=by
  unfold gC at h6
  rw [hoo] at h6
  rcases ho with ⟨ho,b,rfl⟩ | ⟨ho,z,rfl⟩ <;> rw [ho] at h6 h1
  all_goals
   obtain rfl : us = [v]:=h1
   subst h6
   obtain h8 | ⟨u,h8,h9⟩:=h7.sl 0
   ·cases h8
   ·obtain rfl : v = u:=Option.some.inj h8
    have h10 : Rd M' (.v _) v:=h9
    unfold Rd at h10
    exact h10.1
 exact ⟨v,M,Γ,rfl,⟨key,rfl,rfl⟩,St.back hst (hst'.sub (List.sublist_append_right _ _)) h2⟩
section
variable {J : Sig->St'->St'->Prop} {P : Program} {tb : Tb} {n : Nat} {H : Hint} {kp : List Nat}
theorem slcK_at {sz m : Nat} {cs : List D} {k : Nat->List D->Prop} (h : k m cs) : ah sz (.sl m sz cs) k:=by rw [DF];exact h
theorem iB {fr : Fr} : ∀ (p : Prg) {fs fo : List Nat} {K : Option S->List (Nat×O)->List Nat->List Nat->Prop},run J fr p fs fo K->∃ v ob fs' fo',K v ob fs' fo'/\∀ K' : Option S->List (Nat×O)->List Nat->List Nat->Prop,K' v ob fs' fo'->run J fr p fs fo K'
 | .no,_,_,_,h=>h.elim
 | .ret v ob,fs,fo,_,h=>⟨v,ob,fs,fo,h,fun _ h=>h⟩
 | .rdS t k,_,_,_,h=>iB (k (fr.sl t)) h
 | .rdO b k,_,_,_,h=>iB (k (fr.ob b)) h
 | .i _ k,_,_,_,h=>by
  obtain ⟨z,rfl,h2⟩:=lF h
  obtain ⟨v,ob,f1,f2,h3,h4⟩:=iB (k z) h2
  exact ⟨v,ob,f1,f2,h3,fun K' hk=>h4 K' hk⟩
 | .bo _ k,_,_,_,h=>by
  obtain ⟨z,rfl,h2⟩:=iN h
  obtain ⟨v,ob,f1,f2,h3,h4⟩:=iB (k z) h2
  exact ⟨v,ob,f1,f2,h3,fun K' hk=>h4 K' hk⟩
 | .st _ k,_,_,_,h=>by
  obtain ⟨z,rfl,h2⟩:=xD h
  obtain ⟨v,ob,f1,f2,h3,h4⟩:=iB (k z) h2
  exact ⟨v,ob,f1,f2,h3,fun K' hk=>h4 K' hk⟩
 | .sc sz _ k,_,_,_,h=>by
  obtain ⟨m,cs,rfl,h2⟩:=jt h
  obtain ⟨v,ob,f1,f2,h3,h4⟩:=iB (k m cs) h2
  exact ⟨v,ob,f1,f2,h3,fun K' hk=>slcK_at (h4 K' hk)⟩
 | .if_ true p _,_,_,_,h=>iB p h
 | .if_ false _ q,_,_,_,h=>iB q h
 | .ck _ k,_,_,_,h=>by
  obtain ⟨v,ob,f1,f2,h3,h4⟩:=iB k h.2
  exact ⟨v,ob,f1,f2,h3,fun K' hk=>⟨h.1,h4 K' hk⟩⟩
 | .ca _ _ k,_,_,_,⟨r,h1,h2⟩=>by
  obtain ⟨v,ob,f1,f2,h3,h4⟩:=iB (k r) h2
  exact ⟨v,ob,f1,f2,h3,fun K' hk=>⟨r,h1,h4 K' hk⟩⟩
theorem A5 {ops : Array Oper} {gs : List Nat} : ∀ (l : List Oper) (i : Nat) (fr : Fr) (fps : List (Nat×Fp)) {K : Fr->List (Nat×Fp)->Prop},vW J P tb n ops gs l i fr fps K->∃ fr' l',K fr' l'/\∀ K' : Fr->List (Nat×Fp)->Prop,K' fr' l'->vW J P tb n ops gs l i fr fps K'
 | [],_,fr,fps,_,h=>⟨fr,fps,h,fun _ h=>h⟩
 | o::os,i,fr,fps,K,h=>by
  unfold vW at h
  obtain ⟨v,ob,f1,f2,h3,h4⟩:=iB _ h
  cases hf : fits n o.dst v with
  | false=>rw [hf] at h3;exact h3.elim
  | true =>
   rw [hf] at h3
   simp only [pE,ki] at h3
   obtain ⟨fr',l',h5,h6⟩:=A5 os _ _ _ h3
   refine ⟨fr',l',h5,fun K' hk=>?_⟩
   unfold vW
   refine h4 _ ?_
   rw [hf]
   simp only [pE,ki]
   exact h6 K' hk
inductive Ot where
 | n (fr : Fr)
 | x (i : Nat) (fr : Fr)
 | r (fr : Fr)
def Kt.at (K : Kt) : Ot->Prop
 | .n fr=>K.n fr
 | .x i fr=>K.x i fr
 | .r fr=>K.r fr
theorem rN {sh : Sh} {fr : Fr} {k : St'->Prop} (h : mM kp sh fr k) : ∃ st,k st/\∀ k' : St'->Prop,k' st->mM kp sh fr k':=by
 unfold mM at h
 split at h
 ·rename_i st x hp
  split at h
  ·rename_i hb
   refine ⟨st,h,fun k' hk=>?_⟩
   unfold mM
   rw [hp]
   simp only [hb]
   exact hk
  ·exact h.elim
 ·exact h.elim
theorem Dt {B : Fr->Kt->Prop} (hB : ∀ {fr K},B fr K->∃ o : Ot,K.at o/\∀ K' : Kt,K'.at o->B fr K') : ∀ (k : Nat) {fr : Fr} {K : Kt},unr (fun fr next=>B fr ⟨next,K.x,K.r⟩) k fr->∃ o : Ot,K.at o/\∀ K' : Kt,K'.at o->unr (fun fr next=>B fr ⟨next,K'.x,K'.r⟩) k fr
 | 0,_,_,h=>h.elim
 | k+1,fr,K,h=>by
  obtain ⟨o,h1,h2⟩:=hB h
  cases o with
  | n fr' =>
   obtain ⟨o',h3,h4⟩:=Dt (B:=B) hB k (fr:=fr') (K:=K) h1
   exact ⟨o',h3,fun K' hk=>h2 ⟨_,K'.x,K'.r⟩ (show unr _ k fr' from h4 K' hk)⟩
  | x i fr'=>exact ⟨.x i fr',h1,fun K' hk=>h2 ⟨_,K'.x,K'.r⟩ hk⟩
  | r fr'=>exact ⟨.r fr',h1,fun K' hk=>h2 ⟨_,K'.x,K'.r⟩ hk⟩
theorem lp_un {B : St'->Kt->(St'->Prop)->Prop} (hB : ∀ {st : St'} {K : Kt} {next : St'->Prop},B st K next->(∃ st',next st'/\∀ (K' : Kt) (next' : St'->Prop),next' st'->B st K' next')\/∃ o : Ot,K.at o/\∀ (K' : Kt) (next' : St'->Prop),K'.at o->B st K' next') {K : Kt} {I : Nat->St'->Prop}
  (hI : ∀ m s,I m s->B s K (fun s'=>∃ m',m' < m/\I m' s')) : ∀ (m : Nat) (s : St'),I m s->∃ o : Ot,K.at o/\∀ K' : Kt,K'.at o->∃ I' : Nat->St'->Prop,I' m s/\∀ m s,I' m s->B s K' (fun s'=>∃ m',m' < m/\I' m' s'):=by
 intro m
 induction m using Nat.strongRecOn with
 | _ m ih =>
  intro s hs
  rcases hB (hI m s hs) with ⟨st',⟨m',hlt,h1⟩,h2⟩ | ⟨o,h1,h2⟩
  ·obtain ⟨o,h3,h4⟩:=ih m' hlt st' h1
   refine ⟨o,h3,fun K' hk=>?_⟩
   obtain ⟨I',h5,h6⟩:=h4 K' hk
   refine ⟨fun k t=>(k = m/\t = s)\/(k < m/\I' k t),.inl ⟨rfl,rfl⟩,?_⟩
   rintro k t (⟨rfl,rfl⟩ | ⟨hk1,hk2⟩)
   ·exact h2 K' _ ⟨m',hlt,.inr ⟨hlt,h5⟩⟩
   ·rcases hB (h6 k t hk2) with ⟨st2,⟨m2,hlt2,h7⟩,h8⟩ | ⟨o2,h7,h8⟩
    ·exact h8 K' _ ⟨m2,hlt2,.inr ⟨by omega,h7⟩⟩
    ·exact h8 K' _ h7
  ·refine ⟨o,h1,fun K' hk=>⟨fun k t=>k = m/\t = s,⟨rfl,rfl⟩,?_⟩⟩
   rintro k t ⟨rfl,rfl⟩
   exact h2 K' _ hk
theorem lH : ∀ (c : Code) {fr : Fr} {K : Kt},ex J P tb n H kp c fr K->∃ o : Ot,K.at o/\∀ K' : Kt,K'.at o->ex J P tb n H kp c fr K'
 | .skip,fr,K,h=>⟨.n fr,h,fun _ h=>h⟩
 | .label l,fr,K,h=>⟨.n fr,h,fun _ h=>h⟩
 | .exit i,fr,K,h=>⟨.x i fr,h,fun _ h=>h⟩
 | .ret,fr,K,h=>⟨.r fr,h,fun _ h=>h⟩
 | .region id ops draw,fr,K,h=>by
  unfold ex at h
  obtain ⟨fr',l',h1,h2⟩:=A5 _ _ _ _ h
  cases draw with
  | false=>exact ⟨.n fr'.tP,h1,fun K' hk=>by unfold ex;exact h2 _ hk⟩
  | true =>
   dsimp only at h1
   split at h1
   ·rename_i hb
    refine ⟨.n fr'.tP,h1,fun K' hk=>?_⟩
    unfold ex
    refine h2 _ ?_
    dsimp only
    rw [hb]
    exact hk
   ·exact h1.elim
 | .seq x y,fr,K,h=>by
  unfold ex at h
  cases hg : getH H.jn (iJ y) with
  | none =>
   rw [hg] at h
   obtain ⟨o,h1,h2⟩:=lH x h
   cases o with
   | n fr' =>
    obtain ⟨o',h3,h4⟩:=lH y h1
    refine ⟨o',h3,fun K' hk=>?_⟩
    unfold ex
    rw [hg]
    exact h2 ⟨_,K'.x,K'.r⟩ (h4 K' hk)
   | x i fr'=>exact ⟨.x i fr',h1,fun K' hk=>by unfold ex;rw [hg];exact h2 ⟨_,K'.x,K'.r⟩ hk⟩
   | r fr'=>exact ⟨.r fr',h1,fun K' hk=>by unfold ex;rw [hg];exact h2 ⟨_,K'.x,K'.r⟩ hk⟩
  | some sh =>
   rw [hg] at h
   obtain ⟨I,h1,h2⟩:=h
   obtain ⟨o,h3,h4⟩:=lH x h1
   cases o with
   | n fr' =>
    obtain ⟨st,h5,h6⟩:=rN h3
    obtain ⟨fr2,h7,h8⟩:=hU (h2 st h5)
    obtain ⟨o',h9,h10⟩:=lH y h7
    refine ⟨o',h9,fun K' hk=>?_⟩
    unfold ex
    rw [hg]
    refine ⟨fun s=>s = st,h4 ⟨_,K'.x,K'.r⟩ (h6 _ rfl),fun s hs=>?_⟩
    rw [hs]
    exact h8 _ (h10 K' hk)
   | x i fr'=>exact ⟨.x i fr',h3,fun K' hk=>by unfold ex;rw [hg];exact ⟨fun _=>False,h4 ⟨_,K'.x,K'.r⟩ hk,fun s hs=>hs.elim⟩⟩
   | r fr'=>exact ⟨.r fr',h3,fun K' hk=>by unfold ex;rw [hg];exact ⟨fun _=>False,h4 ⟨_,K'.x,K'.r⟩ hk,fun s hs=>hs.elim⟩⟩
 | .cond t x y,fr,K,h=>by
  unfold ex evB at h
  split at h
  ·rename_i t
   split at h
   ·rename_i v hv
    obtain ⟨z,rfl,h⟩:=iN h
    cases z with
    | true =>
     obtain ⟨o,h1,h2⟩:=lH x h
     refine ⟨o,h1,fun K' hk=>?_⟩
     unfold ex evB
     simp only [hv]
     exact h2 K' hk
    | false =>
     obtain ⟨o,h1,h2⟩:=lH y h
     refine ⟨o,h1,fun K' hk=>?_⟩
     unfold ex evB
     simp only [hv]
     exact h2 K' hk
   ·exact h.elim
  ·exact h.elim
 | .block i c,fr,K,h=>by
  unfold ex at h
  obtain ⟨o,h1,h2⟩:=lH c h
  cases o with
  | n fr'=>exact ⟨.n fr',h1,fun K' hk=>by unfold ex;exact h2 ⟨K'.n,_,K'.r⟩ hk⟩
  | r fr'=>exact ⟨.r fr',h1,fun K' hk=>by unfold ex;exact h2 ⟨K'.n,_,K'.r⟩ hk⟩
  | x j fr' =>
   have h1 : (match Nat.beq j i with | true=>K.n fr' | false=>K.x j fr'):=h1
   cases hb : Nat.beq j i with
   | true =>
    rw [hb] at h1
    refine ⟨.n fr',h1,fun K' hk=>?_⟩
    unfold ex
    refine h2 ⟨K'.n,_,K'.r⟩ ?_
    show (match Nat.beq j i with | true=>K'.n fr' | false=>K'.x j fr')
    rw [hb]
    exact hk
   | false =>
    rw [hb] at h1
    refine ⟨.x j fr',h1,fun K' hk=>?_⟩
    unfold ex
    refine h2 ⟨K'.n,_,K'.r⟩ ?_
    show (match Nat.beq j i with | true=>K'.n fr' | false=>K'.x j fr')
    rw [hb]
    exact hk
 | .scope c,fr,K,h=>by
  unfold ex at h
  obtain ⟨o,h1,h2⟩:=lH c h
  exact ⟨o,h1,fun K' hk=>by unfold ex;exact h2 K' hk⟩
 | .loop c,fr,K,h=>by
  unfold ex at h
  cases hg : getU H.un (iJ c) with
  | some k =>
   rw [hg] at h
   obtain ⟨o,h1,h2⟩:=Dt (B:=fun fr K=>ex J P tb n H kp c fr K) (fun h=>lH c h) k h
   refine ⟨o,h1,fun K' hk=>?_⟩
   unfold ex
   rw [hg]
   exact h2 K' hk
  | none =>
   rw [hg] at h
   dsimp only at h
   cases hp : zG fr (By H.lp (iJ c)) with
   | none=>rw [hp] at h;exact h.elim
   | some sh =>
    rw [hp] at h
    obtain ⟨st,⟨I,⟨m,hm⟩,hI⟩,h3⟩:=rN h
    obtain ⟨o,h4,h5⟩:=lp_un (B:=fun st K next=>unpack aJ sh st fun fr=>ex J P tb n H kp c fr ⟨fun fr=>mM kp sh fr next,K.x,K.r⟩) (fun {st K next} h=>by
     obtain ⟨fr2,h6,h7⟩:=hU h
     obtain ⟨o,h8,h9⟩:=lH c h6
     cases o with
     | n fr3 =>
      obtain ⟨st2,h10,h11⟩:=rN h8
      exact .inl ⟨st2,h10,fun K' next' hn=>h7 _ (h9 ⟨_,K'.x,K'.r⟩ (h11 _ hn))⟩
     | x i fr3=>exact .inr ⟨.x i fr3,h8,fun K' next' hk=>h7 _ (h9 ⟨_,K'.x,K'.r⟩ hk)⟩
     | r fr3=>exact .inr ⟨.r fr3,h8,fun K' next' hk=>h7 _ (h9 ⟨_,K'.x,K'.r⟩ hk)⟩) hI m st hm
    refine ⟨o,h4,fun K' hk=>?_⟩
    obtain ⟨I',h6,h7⟩:=h5 K' hk
    unfold ex
    rw [hg]
    dsimp only
    rw [hp]
    exact h3 _ ⟨I',⟨m,h6⟩,h7⟩
theorem A6 {s : Sig} {rs : List ResultVar} {fr : Fr} {K : St'->Prop} (h : zx P s rs fr K) : ∃ r,K r/\zx P s rs fr fun st=>st = r:=by
 unfold zx at h ⊢
 split at h
 ·rename_i xs hx
  split at h
  ·rename_i st hst
   exact ⟨st,h,rfl⟩
  ·exact h.elim
 ·exact h.elim
theorem fnX_un {s : Sig} {a : St'} {K : St'->Prop} (h : fnX J P tb H s a K) : ∃ r,K r/\fnX J P tb H s a fun st=>st = r:=by
 unfold fnX at h ⊢
 split at h
 ·exact h.elim
 ·rename_i fn hf
  split at h
  ·exact h.elim
  ·rename_i c hb
   split at h
   ·rename_i hfb
    obtain ⟨fr,h1,h2⟩:=hU h
    obtain ⟨o,h3,h4⟩:=lH c h1
    cases o with
    | n fr'=>obtain ⟨r,h5,h6⟩:=A6 h3;exact ⟨r,h5,h2 _ (h4 _ h6)⟩
    | x i fr'=>exact h3.elim
    | r fr'=>obtain ⟨r,h5,h6⟩:=A6 h3;exact ⟨r,h5,h2 _ (h4 _ h6)⟩
   ·exact h.elim
end
theorem fn_some {P : Program} {tb : Tb} (hT : TbOk P tb) (hm : P.follows .mixedOrders = true) {H : Hint} {s : Sig} {a : St'} {K : St'->Prop} (h : fnX (Is P) P tb H s a K) (hu : ∀ r,K r->unpack aJ (gC s) r fun _=>True) : ∃ r,K r/\Is P s a r:=by
 obtain ⟨r,h1,h2⟩:=fnX_un h
 exact ⟨r,h1,fn_ok hT hm h2 (hu r h1)⟩
end Pm

namespace Go.Proofs.YtanbipbiblikbaaDoor
open Xe Pm
theorem mixP : Tryd.prog.follows .mixedOrders = true:=by kernel_rfl
theorem eq35 : Eq3 Tryd.prog 35:=fun w0 L M Γ d ty pos af g x y a b c a' b' c' hx hy=>by
 constructor <;> intro n ac w ha _
 ·simp only [execOp,ha.ev hx,ha.ev hy]
  simp [go_sem,run_eql_struct,run_eqGuard_agg]
  by_cases h1 : a = a' <;> by_cases h2 : b = b' <;> by_cases h3 : c = c' <;> simp [h1,h2,h3]
 ·simp only [execOp,ha.ev hx,ha.ev hy]
  simp [go_sem,run_neq_struct,run_eqGuard_agg]
  by_cases h1 : a = a' <;> by_cases h2 : b = b' <;> by_cases h3 : c = c' <;> simp [h1,h2,h3]
theorem key35 : KeyOk Tryd.prog 35 idV:=by
 refine ⟨⟨_,Tryd.underlying35⟩,fun k b w=>?_,fun k k' w=>?_⟩
 ·obtain ⟨x,y,z⟩:=k
  have hint : ∀ (d : Nat) (n : Int) w,(Instr.checkKey b (d+1) 3 (.int .i64 n)).run Tryd.prog w = .ok () w:=by
   intro d n w;simp [Instr.checkKey,run_underlying Tryd.underlying3]
  show (Instr.checkKey b (9998+1+1) 35 (.agg #[.int .i64 x,.int .i64 y,.int .i64 z])).run Tryd.prog w = .ok () w
  unfold Instr.checkKey
  simp only [Sem.run_bind,run_underlying Tryd.underlying35,Result.andThen_ok]
  simp [go_sem,hint]
 ·obtain ⟨a,b,c⟩:=k
  obtain ⟨a',b',c'⟩:=k'
  show (Op.equalIn 10000 35 (.agg #[.int .i64 a,.int .i64 b,.int .i64 c]) (.agg #[.int .i64 a',.int .i64 b',.int .i64 c'])).run Tryd.prog w = _
  simp [go_sem]
  by_cases h1 : a = a' <;> by_cases h2 : b = b' <;> by_cases h3 : c = c' <;> simp [h1,h2,h3]
theorem tbok (l : List Sig) (dp : List Nat) : TbOk Tryd.prog ⟨l,[35],dp⟩:=⟨fun t h=>by
 simp only [List.any_cons,List.any_nil,Bool.or_false] at h
 rw [Nat.eq_of_beq_eq_true h]
 exact eq35,fun t h=>by
 simp only [List.any_cons,List.any_nil,Bool.or_false] at h
 rw [Nat.eq_of_beq_eq_true h]
 exact key35⟩
abbrev ds (n : Nat) : List CSh:=List.replicate n .d
abbrev Tx:=(Sig->St'->St'->Prop)->St'->(St'->Prop)->Prop
def Wd (tb : Tb) (H : Hint) (s : Sig) (g : Tx) : Prop:=∀ Is a K,fnX Is Tryd.prog tb H s a K = g Is a K
theorem Wd.is {l : List Sig} {dp : List Nat} {H : Hint} {s : Sig} {g : Tx} (w : Wd ⟨l,[35],dp⟩ H s g) {a r : St'} (h : g (Pm.Is Tryd.prog) a fun st=>st = r) (hu : unpack aJ (gC s) r (fun _=>True):=by exact trivial) : Pm.Is Tryd.prog s a r:=fn_ok (tbok l dp) mixP (H:=H) (by rw [w];exact h) hu
theorem Wd.some {l : List Sig} {dp : List Nat} {H : Hint} {s : Sig} {g : Tx} (w : Wd ⟨l,[35],dp⟩ H s g) {a : St'} {K : St'->Prop} (h : g (Pm.Is Tryd.prog) a K) (hu : ∀ r,K r->unpack aJ (gC s) r fun _=>True) : ∃ r,K r/\Pm.Is Tryd.prog s a r:=fn_some (tbok l dp) mixP (H:=H) (by rw [w];exact h) hu
end Go.Proofs.YtanbipbiblikbaaDoor
