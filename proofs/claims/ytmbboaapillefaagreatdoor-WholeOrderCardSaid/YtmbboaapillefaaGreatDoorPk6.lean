/- Wo5, Wo6, Wo7, Wgn3, Wgn4, Wgn5, Wgn6, Wgn7, Wgn8, Wgn9, Wgn10, Wo8, Wp3, Wo9, Wgn11, Wgn12, WoS, WoT, Zrl, Zrm, Zrn, Zro, put together. -/
import Derived.Test.YtmbboaapillefaaGreatDoorPk5
import Derived.Shelf.SlSortCmp.NoneTotal
import Derived.Shelf.SlicesG.Cmp
import Derived.StillTailTactics
import Derived.KernelRfl
namespace Go.Proofs.YtmbboaapillefaaGreatDoor
open Xe Pm
theorem H9 (p : ProgT) (l : List IdT) (hp : p.defs.length<=1000000000000) (hl : l.length<=1000000000000) : ∃ z : Int,((z = -1/\∀ x∈l,bO p x = true)\/∃ k,∃ hk : k < l.length,z = (k : Int)/\(∀ x∈l.take k,bO p x = true)/\bO p l[k] = false)/\IS s64 [[dI l],p.enc] [[vI z],[dI l],p.enc]:=by
 have key : g64 (CxP Tryz.prog) [[dI l],p.enc] (fun r=>∃ z : Int,((z = -1/\∀ x∈l,bO p x = true)\/∃ k,∃ hk : k < l.length,z = (k : Int)/\(∀ x∈l.take k,bO p x = true)/\bO p l[k] = false)/\r = [[vI z],[dI l],p.enc]):=by
  unfold g64
  simp only [pmr]
  refine bl l.length (fun k=>[[vI (l.length : Int)],[vI (k : Int)],[dI l],p.enc]) (fun k=>∀ x∈l.take k,bO p x = true) Q2 rfl fun k next hi hI hn=>?_
  simp only [pmr]
  refine ⟨fun h=>?_,fun h=>?_⟩
  ·have hk : k < l.length:=Q0
   rw [dB _ hk]
   refine ⟨Q0,ai (vT p _ hp) ?_⟩
   simp only [pmr]
   cases hb : bO p l[k] with
   | false =>
    simp only [pmr,Bool.not_false]
    exact ⟨_,.inr ⟨k,hk,rfl,hI,hb⟩,rfl⟩
   | true =>
    simp only [pmr,Bool.not_true]
    refine ⟨Q4,hn hk fun x hx=>?_⟩
    rw [List.take_succ_eq_append_getElem hk,List.mem_append,List.mem_singleton] at hx
    rcases hx with hx | hx
    ·exact hI x hx
    ·rw [hx];exact hb
  ·obtain rfl : k = l.length:=Q0
   rw [List.take_length] at hI
   exact ⟨_,.inl ⟨rfl,hI⟩,rfl⟩
 obtain ⟨r,⟨z,hz,rfl⟩,h⟩:=w64.some key (by rintro r ⟨z,_,rfl⟩;exact trivial)
 exact ⟨z,hz,h⟩
theorem Ce {R : List IdT} {i : Nat} (hi : i<=R.length) (z : List D) : D.sl i 3 (sub (upd (R.flatMap IdT.enc) ((0+i) * 3) z) (0 * 3) (i * 3)) = dI (R.take i):=by
 rw [ids_cut R hi]
 unfold dI
 rw [List.length_take,Nat.min_eq_left hi]
theorem vi (p : ProgT) (l : List IdT) (hp : p.defs.length<=1000000000000) (hl : l.length<=1000000000000) : IS s76 [[dI l],p.enc] [[dI (l.filter (bO p))],p.enc]:=by
 refine w76.isG ?_
 unfold g76
 simp only [pmr]
 obtain ⟨z,hz,h⟩:=H9 p l hp Q0
 refine ai h ?_
 simp only [pmr]
 rcases hz with ⟨rfl,ha⟩ | ⟨k0,hk0,rfl,ha,hb⟩
 ·refine ⟨fun _=>?_,fun h=>absurd rfl h⟩
  rw [List.filter_eq_self.2 ha]
 ·refine ⟨fun h=>by omega,fun _=>⟨Q4,?_⟩⟩
  have e0 : (l.take (k0+1)).filter (bO p) = l.take k0:=by
   rw [List.take_succ_eq_append_getElem hk0,List.filter_append,List.filter_eq_self.2 ha]
   simp [hb]
  refine iX (σ:=Nat×List IdT) (fun s=>[[vI (((l.take s.1).filter (bO p)).length : Int)],[vI (s.1 : Int)],[dI s.2],p.enc]) (fun s=>l.length - s.1)
   (fun s=>s.1<=l.length/\s.2.length = l.length/\s.2.take ((l.take s.1).filter (bO p)).length = (l.take s.1).filter (bO p)/\s.2.drop s.1 = l.drop s.1/\((l.take s.1).filter (bO p)).length < s.1) (k0+1,l)
   ⟨by show k0+1<=l.length;omega,rfl,by rw [e0,List.length_take,Nat.min_eq_left Q0],rfl,by rw [e0,List.length_take];show min k0 l.length < k0+1;omega⟩ (by
    show _ = [[vI (((l.take (k0+1)).filter (bO p)).length : Int)],[vI ((k0+1 : Nat) : Int)],[dI l],p.enc]
    rw [e0,List.length_take,Nat.min_eq_left Q0];rfl) ?_
  rintro ⟨j,R⟩ next ⟨h1,h2,h3,h4,h5⟩ hn
  dsimp only at h1 h2 h3 h4 h5 hn ⊢
  simp only [pmr]
  refine ⟨fun h=>?_,fun h=>?_⟩
  ·have hj : j < l.length:=Q0
   have hjR : j < R.length:=Q0
   have e1 : R[j] = l[j]:=by
    have h6 : (R.drop j)[0]'Qc = (l.drop j)[0]'Qc:=by simp only [h4]
    simpa using h6
   have hstep:=List.take_succ_eq_append_getElem hj
   refine dA ?_
   rw [dB _ hjR,e1]
   refine ⟨Q0,ai (vT p _ hp) ?_⟩
   simp only [pmr]
   cases hb : bO p l[j] with
   | false =>
    simp only [pmr,Bool.not_false,Bool.not_true]
    have e2 : (l.take (j+1)).filter (bO p) = (l.take j).filter (bO p):=by
     rw [hstep,List.filter_append];simp [hb]
    have:=hn (j+1,R) (by show l.length - (j+1) < l.length - j;omega) ⟨hj,h2,by dsimp only;rw [e2];exact h3,by dsimp only;rw [<-List.drop_drop,<-List.drop_drop,h4],by dsimp only;rw [e2];omega⟩
    dsimp only at this
    rw [e2] at this
    exact ⟨Q4,this⟩
   | true =>
    simp only [pmr,Bool.not_false,Bool.not_true]
    have e2 : (l.take (j+1)).filter (bO p) = (l.take j).filter (bO p)++[l[j]]:=by
     rw [hstep,List.filter_append];simp [hb]
    rw [Dz R Q0]
    have:=hn (j+1,R.set ((l.take j).filter (bO p)).length l[j]) (by show l.length - (j+1) < l.length - j;omega) ⟨hj,by dsimp only;rw [List.length_set];exact h2,by
     dsimp only
     rw [e2,List.length_append,List.length_singleton]
     rw [List.take_succ_eq_append_getElem (by rw [List.length_set];omega),List.take_set_of_le (Nat.le_refl _),h3]
     simp,by dsimp only;rw [List.drop_set_of_lt Q0,<-List.drop_drop,<-List.drop_drop,h4],by dsimp only;rw [e2];simp;omega⟩
    dsimp only at this
    rw [e2,List.length_append,List.length_singleton] at this
    simp only [dI,List.length_set] at this ⊢
    exact ⟨Q0,Q4,Q4,this⟩
  ·obtain rfl : j = l.length:=Q0
   rw [List.take_length] at h3 h5 ⊢
   have hc:=Ce (R:=R) (i:=(l.filter (bO p)).length) Q0 ((List.replicate (R.length - (l.filter (bO p)).length) [vI 0,vI 0,vI 0]).flatten)
   rw [h3] at hc
   refine ⟨Q0,⟨trivial,Q0,Q0⟩,Q0,?_⟩
   rw [<-hc]
theorem rU (x y : IdT) (l : List IdT) : fh (x::y::l) = if x = y then fh (y::l) else x::fh (y::l):=by rw [fh]
theorem Ay (x : IdT) : fh [x] = [x]:=rfl
theorem wE (y : IdT) : ∀ {l : List IdT} (x : IdT),fh (l++[x]++[y]) = if x = y then fh (l++[x]) else fh (l++[x])++[y]
 | [],x=>by
  simp only [List.nil_append,List.cons_append,rU,Ay]
  by_cases e : x = y <;> simp [e]
 | [a],x=>by
  simp only [List.nil_append,List.cons_append,rU,Ay]
  by_cases e1 : a = x <;> by_cases e2 : x = y <;> simp [e1,e2]
 | a::b::l,x=>by
  have h:=wE y (l:=b::l) x
  simp only [List.cons_append] at h ⊢
  rw [rU,rU,h]
  by_cases e1 : a = b <;> by_cases e2 : x = y <;> simp [e1,e2]
theorem wD {l : List IdT} {k : Nat} (h1 : 1<=k) (hk : k < l.length) : fh (l.take (k+1)) = if l[k - 1]'Q0 = l[k] then fh (l.take k) else fh (l.take k)++[l[k]]:=by
 have e : l.take k = l.take (k - 1)++[l[k - 1]'Q0]:=by
  have:=List.take_succ_eq_append_getElem (l:=l) (i:=k - 1) Q0
  rwa [show k - 1+1 = k by omega] at this
 rw [List.take_succ_eq_append_getElem hk,e]
 exact wE _ _
theorem uA (l : List IdT) (hl : l.length<=1000000000000) : IS s79 [[dI l]] [[dI (fh l)]]:=by
 refine w79.isG ?_
 unfold g79
 simp only [pmr]
 refine ⟨fun h=>?_,fun h=>?_⟩
 ·match l,h with
  | [],_=>rfl
  | [x],_=>rfl
  | _::_::l,h=>simp at h;omega
 ·refine iX (σ:=Nat) (fun k=>[[vI (k : Int)],[dI l]]) (fun k=>l.length - k) (fun k=>1<=k/\k<=l.length/\fh (l.take k) = l.take k) 1 ⟨Nat.le_refl _,Q0,by
   match l,h with
   | [],_=>rfl
   | [x],_=>rfl
   | x::_::l,_=>rfl⟩ rfl ?_
  rintro k next ⟨h1,h2,h3⟩ hn
  simp only [pmr]
  refine ⟨fun h=>?_,fun h=>?_⟩
  ·have hk : k < l.length:=Q0
   have ek : ((k : Int) - 1).toNat = k - 1:=Q0
   have hst:=wD h1 hk
   rw [ek,dB _ hk,dB _ (show k - 1 < l.length by omega)]
   simp only [pmr,pms]
   refine ⟨Q0,Q4,Q0,fun e=>⟨Q0,?_⟩,fun e=>⟨Q4,?_⟩⟩
   ·rw [if_pos e.symm] at hst
    refine iX (σ:=Nat×List IdT) (fun s=>[[vI ((fh (l.take (k+s.1))).length : Int)],[vI (k : Int),vI ((l.length - k : Nat) : Int)],[vI (s.1 : Int)],[dI s.2]]) (fun s=>l.length - s.1)
     (fun s=>1<=s.1/\k+s.1<=l.length/\s.2.length = l.length/\s.2.take (fh (l.take (k+s.1))).length = fh (l.take (k+s.1))/\s.2.drop (k+s.1 - 1) = l.drop (k+s.1 - 1)/\(fh (l.take (k+s.1))).length<=k+s.1 - 1) (1,l) ⟨Nat.le_refl _,hk,rfl,by dsimp only;rw [hst,h3,List.length_take,Nat.min_eq_left Q0],rfl,by dsimp only;rw [hst,h3,List.length_take];omega⟩ (by
      show _ = [[vI ((fh (l.take (k+1))).length : Int)],[vI (k : Int),vI ((l.length - k : Nat) : Int)],[vI ((1 : Nat) : Int)],[dI l]]
      rw [hst,h3,List.length_take,Nat.min_eq_left Q0,Nat.zero_add];rfl) ?_
    rintro ⟨j,R⟩ next ⟨q1,q2,q3,q4,q5,q6⟩ hn
    dsimp only at q1 q2 q3 q4 q5 q6 hn ⊢
    simp only [pmr]
    refine ⟨fun h=>?_,fun h=>?_⟩
    ·have hj : k+j < l.length:=Q0
     have ej : ((j : Int) - 1).toNat = j - 1:=Q0
     have hR1 : R[k+j]'Q0 = l[k+j]:=by
      have h6 : (R.drop (k+j - 1))[1]'Qc = (l.drop (k+j - 1))[1]'Qc:=by simp only [q5]
      simpa [show k+j - 1+1 = k+j by omega] using h6
     have hR2 : R[k+j - 1]'Q0 = l[k+j - 1]:=by
      have h6 : (R.drop (k+j - 1))[0]'Qc = (l.drop (k+j - 1))[0]'Qc:=by simp only [q5]
      simpa using h6
     have hst:=wD (l:=l) (k:=k+j) Q0 hj
     refine dA ?_
     rw [ej,dB _ (show k+j < R.length by omega),show k+(j - 1) = k+j - 1 by omega,dB _ (show k+j - 1 < R.length by omega),hR1,hR2]
     simp only [pmr,pms]
     have hd : R.drop (k+(j+1) - 1) = l.drop (k+(j+1) - 1):=by
      have:=congrArg (List.drop 1) q5
      rwa [List.drop_drop,List.drop_drop,show k+j - 1+1 = k+(j+1) - 1 by omega] at this
     refine ⟨Q0,Q4,Q0,fun e2=>?_,fun e2=>?_⟩
     ·rw [if_pos e2.symm] at hst
      have:=hn (j+1,R) (by show l.length - (j+1) < l.length - j;omega) ⟨by show 1<=j+1;omega,by show k+(j+1)<=l.length;omega,q3,by dsimp only;rw [<-Nat.add_assoc,hst];exact q4,hd,by dsimp only;rw [<-Nat.add_assoc,hst];omega⟩
      dsimp only at this
      rw [<-Nat.add_assoc,hst] at this
      exact ⟨Q4,this⟩
     ·rw [if_neg (fun e3=>e2 e3.symm)] at hst
      rw [Dz R Q0]
      have:=hn (j+1,R.set (fh (l.take (k+j))).length l[k+j]) (by show l.length - (j+1) < l.length - j;omega) ⟨by show 1<=j+1;omega,by show k+(j+1)<=l.length;omega,by dsimp only;rw [List.length_set];exact q3,by
       dsimp only
       rw [<-Nat.add_assoc,hst,List.length_append,List.length_singleton]
       rw [List.take_succ_eq_append_getElem (by rw [List.length_set];omega),List.take_set_of_le (Nat.le_refl _),q4]
       simp,by dsimp only;rw [List.drop_set_of_lt Q0];exact hd,by dsimp only;rw [<-Nat.add_assoc,hst];simp;omega⟩
      dsimp only at this
      rw [<-Nat.add_assoc,hst,List.length_append,List.length_singleton] at this
      simp only [dI,List.length_set] at this ⊢
      exact ⟨Q0,Q0,Q4,Q4,this⟩
    ·have ej : k+j = l.length:=Q0
     rw [ej,List.take_length] at q4 q6 ⊢
     have hc:=Ce (R:=R) (i:=(fh l).length) Q0 ((List.replicate (R.length - (fh l).length) [vI 0,vI 0,vI 0]).flatten)
     rw [q4] at hc
     refine ⟨Q0,⟨trivial,Q0,Q0⟩,Q0,?_⟩
     rw [<-hc]
   ·rw [if_neg (fun e2=>e e2.symm)] at hst
    exact hn (k+1) Q0 ⟨Q0,hk,by rw [hst,h3,List.take_succ_eq_append_getElem hk]⟩
  ·obtain rfl : k = l.length:=Q0
   rw [List.take_length] at h3
   rw [h3]
theorem HJ (l : List IdT) (x : IdT) (hl : l.length<=1000000000000) : ∃ z : Int,(0<=z↔x∈l)/\IS s160 [x.enc,[dI l]] [[vI z],[dI l]]:=by
 have key : g160 (CxP Tryz.prog) [x.enc,[dI l]] (fun r=>∃ z : Int,(0<=z↔x∈l)/\r = [[vI z],[dI l]]):=by
  unfold g160
  simp only [pmr]
  refine bl l.length (fun k=>[[vI (l.length : Int)],[vI (k : Int)],[dI l],x.enc]) (fun k=>x ∉ l.take k) Q2 rfl fun k next hi hI hn=>?_
  simp only [pmr,pms]
  refine ⟨fun h=>?_,fun h=>?_⟩
  ·have hk : k < l.length:=Q0
   rw [dB _ hk]
   simp only [pmr,pms]
   refine ⟨Q0,fun e=>⟨_,?_,rfl⟩,fun e=>⟨Q4,hn hk (mP hk hI fun e2=>e e2.symm)⟩⟩
   rw [e]
   exact ⟨fun _=>List.getElem_mem hk,fun _=>by omega⟩
  ·obtain rfl : k = l.length:=Q0
   rw [List.take_length] at hI
   exact ⟨_,⟨fun h=>absurd h Q1,fun h=>absurd h hI⟩,rfl⟩
 obtain ⟨r,⟨z,hz,rfl⟩,h⟩:=w160.some key (by rintro r ⟨z,_,rfl⟩;exact trivial)
 exact ⟨z,hz,h⟩
theorem AD (l : List IdT) (x : IdT) (hl : l.length<=1000000000000) : IS s68 [x.enc,[dI l]] [[vB (decide (x∈l))],[dI l]]:=by
 refine w68.is ?_
 unfold g68
 simp only [pmr]
 obtain ⟨z,hz,h⟩:=HJ l x hl
 refine ai h ?_
 simp only [pmr]
 rw [decide_eq_decide.2 hz]
theorem BF (l : List IdT) (x : IdT) (hl : l.length<=1000000000000) : IS s67 [x.enc,[dI l]] [[vB (!decide (x∈l))],[dI l]]:=by
 refine w67.is ?_
 unfold g67
 simp only [pmr]
 refine ai (AD l x hl) ?_
 simp only [pmr]
theorem BG (u l : List IdT) (hl : l.length<=1000000000000) (hu : u.length<=1000000000000) : ∃ z : Int,(0<=z↔¬ ∀ x∈u,x∈l)/\IS CU [[dI u],[dI l]] [[vI z],[dI l]]:=by
 have key : HR (CxP Tryz.prog) [[dI u],[dI l]] (fun r=>∃ z : Int,(0<=z↔¬ ∀ x∈u,x∈l)/\r = [[vI z],[dI l]]):=by
  unfold HR
  simp only [pmr]
  refine bl u.length (fun k=>[[dI u],[vI (u.length : Int)],[vI (k : Int)],[dI l]]) (fun k=>∀ x∈u.take k,x∈l) Q2 rfl fun k next hi hI hn=>?_
  simp only [pmr]
  refine ⟨fun h=>?_,fun h=>?_⟩
  ·have hk : k < u.length:=Q0
   rw [dB _ hk]
   refine ⟨Q0,ai (BF l _ hl) ?_⟩
   simp only [pmr,pms]
   refine ⟨fun e=>⟨Q4,hn hk fun x hx=>?_⟩,fun e=>⟨_,?_,rfl⟩⟩
   ·rw [List.take_succ_eq_append_getElem hk,List.mem_append,List.mem_singleton] at hx
    rcases hx with hx | hx
    ·exact hI x hx
    ·rw [hx];exact e
   ·exact ⟨fun _ h=>e (h _ (List.getElem_mem hk)),fun _=>by omega⟩
  ·obtain rfl : k = u.length:=Q0
   rw [List.take_length] at hI
   exact ⟨_,⟨fun h=>absurd h Q1,fun h=>absurd hI h⟩,rfl⟩
 obtain ⟨r,⟨z,hz,rfl⟩,h⟩:=w64_2.some key (by rintro r ⟨z,_,rfl⟩;exact trivial)
 exact ⟨z,hz,h⟩
theorem E6 (u l : List IdT) (hl : l.length<=1000000000000) (hu : u.length<=1000000000000) : IS s66 [[dI u],[dI l]] [[vB (!cU u l)],[dI l]]:=by
 refine w66.is ?_
 unfold g66
 simp only [pmr]
 obtain ⟨z,hz,h⟩:=BG u l hl hu
 refine ai h ?_
 simp only [pmr]
 unfold cU
 rw [decide_eq_decide.2 hz,decide_not]
def mE (f : IdT->D) (x : IdT) : List D:=[aj x.shop,aj x.seq,aj x.index,f x]
abbrev dM (f : IdT->D) (L : List IdT) : D:=.sl L.length 4 (L.flatMap (mE f))
theorem mkey (i x : IdT) (ds : List D) : zT i.shop i.seq i.index (aj x.shop::aj x.seq::aj x.index::ds) = decide (i = x):=by
 show decide (x.shop = i.shop/\x.seq = i.seq/\x.index = i.index) = _
 refine decide_eq_decide.2 ⟨fun h=>(IdT.ext' h.1 h.2.1 h.2.2).symm,fun h=>by rw [h];exact ⟨rfl,rfl,rfl⟩⟩
theorem Hs (f : IdT->D) (x : IdT) (L : List IdT) : (x::L).flatMap (mE f) = aj x.shop::aj x.seq::aj x.index::([f x]++L.flatMap (mE f)):=rfl
theorem BK (f : IdT->D) (i : IdT) : ∀ L : List IdT,cI 4 i.shop i.seq i.index L.length (L.flatMap (mE f)) = if i∈L then some [f i] else none
 | []=>rfl
 | x::L=>by
  rw [Hs,List.length_cons,cI,mkey]
  by_cases h : i = x
  ·rw [decide_eq_true h,if_pos (by rw [h];exact List.mem_cons_self ..),h]
   rfl
  ·rw [decide_eq_false h]
   show cI 4 i.shop i.seq i.index L.length (L.flatMap (mE f)) = _
   rw [BK f i L]
   simp [h]
theorem m_set (f : IdT->D) (i : IdT) : ∀ L : List IdT,i ∉ L->gD 4 i.shop i.seq i.index [f i] L.length (L.flatMap (mE f)) = (L++[i]).flatMap (mE f)
 | [],_=>rfl
 | x::L,hf=>by
  have h : ¬ i = x:=fun e=>hf (by rw [e];exact List.mem_cons_self ..)
  have hk:=m_set f i L fun hm=>hf (List.mem_cons_of_mem _ hm)
  rw [Hs,List.length_cons,gD,mkey,decide_eq_false h]
  show List.take 4 _++gD 4 i.shop i.seq i.index [f i] L.length (L.flatMap (mE f)) = _
  rw [hk]
  rfl
theorem m_len (f : IdT->D) (i : IdT) (L : List IdT) (h : i ∉ L) : ja 4 i.shop i.seq i.index L.length (L.flatMap (mE f)) = L.length+1:=by
 unfold ja
 rw [BK,if_neg h]
abbrev uD (p : ProgT) (x : IdT) : D:=dI (de p x)
theorem free_is (p : ProgT) (L out : List IdT) (x : IdT) (hx : x∈L) (ho : out.length<=1000000000000) (hs : ∀ j,(an p j).wt<=800000000000) : IS s65 [x.enc,[dM (uD p) L],[dI out]] [[vB (cU (de p x) out)],[dM (uD p) L],[dI out]]:=by
 refine w65.is ?_
 unfold g65
 simp only [pmr,pms]
 rw [BK,if_pos hx]
 have hu:=pJ p x
 have:=hs x
 refine ai (E6 (de p x) out ho Q0) ?_
 simp only [pmr,Bool.not_not]
theorem yc (p : ProgT) (L out left : List IdT) (hL : ∀ x∈left,x∈L) (ho : out.length<=1000000000000) (hl : left.length<=1000000000000) (hs : ∀ j,(an p j).wt<=800000000000) :
  IS CV [[dI left],[dM (uD p) L],[dI out]] [[vI (match fH p out left with | some k=>(k : Int) | none=>-1)],[dI left],[dM (uD p) L],[dI out]]:=by
 refine w64_1.is ?_
 unfold g64_1
 simp only [pmr]
 refine bl left.length (fun k=>[[vI (left.length : Int)],[vI (k : Int)],[dI left],[dM (uD p) L],[dI out]]) (fun k=>∀ j (hj : j < left.length),j < k->cU (de p left[j]) out = false) (fun _ _ h=>absurd h (Nat.not_lt_zero _)) rfl fun k next hi hI hn=>?_
 simp only [pmr]
 refine ⟨fun h=>?_,fun h=>?_⟩
 ·have hk : k < left.length:=Q0
  rw [dB _ hk]
  refine ⟨Q0,ai (free_is p L out _ (hL _ (List.getElem_mem hk)) ho hs) ?_⟩
  simp only [pmr]
  cases hb : cU (de p left[k]) out with
  | true =>
   simp only [pmr]
   rw [wB hk hb fun j hj=>hI j Q0 hj]
  | false =>
   simp only [pmr]
   refine ⟨Q4,hn hk fun j hj h=>?_⟩
   by_cases e : j = k
   ·subst e;exact hb
   ·exact hI j hj Q0
 ·obtain rfl : k = left.length:=Q0
  rw [qJ fun j hj=>hI j hj hj]
theorem FC (l : List IdT) (k : Nat) (hk : k < l.length) (hl : l.length<=1000000000000) : IS s69 [[vI (k : Int)],[vI ((k : Int)+1)],[dI l]] [[dI (l.eraseIdx k)]]:=by
 have hlen : (l.eraseIdx k).length = l.length - 1:=by rw [List.length_eraseIdx,if_pos hk]
 have e1 : ((k : Int)+1).toNat = k+1:=Q0
 have hmid : upd (l.flatMap IdT.enc) (k * 3) (sub (l.flatMap IdT.enc) ((k+1) * 3) ((l.length - (k+1)) * 3)) = (l.eraseIdx k++l.drop (l.length - 1)).flatMap IdT.enc:=by
  have hsub : sub (l.flatMap IdT.enc) ((k+1) * 3) ((l.length - (k+1)) * 3) = (l.drop (k+1)).flatMap IdT.enc:=by
   unfold sub
   rw [tT,js,List.take_of_length_le Q2]
  have hlen2 : ((l.drop (k+1)).flatMap IdT.enc).length = (l.length - (k+1)) * 3:=by rw [iS (sz:=3) (fun _=>rfl),List.length_drop]
  rw [hsub]
  unfold upd
  rw [hlen2,<-Nat.add_mul,show k+(l.length - (k+1)) = l.length - 1 by omega,js,tT,List.eraseIdx_eq_take_drop_succ,List.flatMap_append,List.flatMap_append]
 have e0 : ∀ n : Nat,((0 : Nat) : Int)+(n : Int) = n:=fun n=>by omega
 have hcut : ∀ (z : List D) (R : List IdT),R.length = l.length->R.take (l.length - 1) = l.eraseIdx k->D.sl (l.length - 1) 3 (sub (upd (R.flatMap IdT.enc) ((0+(l.length - 1)) * 3) z) (0 * 3) ((l.length - 1) * 3)) = dI (l.eraseIdx k):=fun z R h1 h2=>by
  rw [Ce Q0,h2]
 refine w69.isG ?_
 unfold g69
 simp only [pmr,e0,e1,Nat.sub_zero,Nat.zero_add]
 refine ⟨⟨trivial,Q0,Q0,Q0,Q0⟩,fun h=>by omega,fun _=>⟨Q0,Q0,fun h=>?_,fun h=>⟨fun h2=>?_,fun h2=>by omega⟩⟩⟩
 ·have ek : k = l.length - 1:=Q0
  have:=hcut ((List.replicate (l.length - k) [vI 0,vI 0,vI 0]).flatten) l rfl (by rw [List.eraseIdx_eq_take_drop_succ,List.drop_of_length_le Q0,List.append_nil,<-ek])
  rw [<-ek,Nat.zero_add] at this
  refine ⟨Q0,⟨trivial,Q0,Q0⟩,Q0,?_⟩
  rw [<-this]
 ·have ek : k+(l.length - (k+1)) = l.length - 1:=Q0
  have hx:=hcut ((List.replicate (l.length - (l.length - 1)) [vI 0,vI 0,vI 0]).flatten) (l.eraseIdx k++l.drop (l.length - 1)) (by rw [List.length_append,hlen,List.length_drop];omega) (by rw [List.take_append_of_le_length Q0,List.take_of_length_le Q0])
  rw [<-hmid,Nat.zero_add] at hx
  rw [ek]
  refine ⟨Q0,⟨trivial,Q0,Q0⟩,Q0,?_⟩
  rw [<-hx]
def yz : Prop:=∀ l : List IdT,l.length<=1000000000000->IS s78 [[dI l]] [[dI (cQ l)]]
structure Small (p : ProgT) : Prop where
 d : p.defs.length<=1000
 w : ∀ j,(an p j).wt<=800000000000
theorem gU (l : List IdT) : (cQ l).length = l.length:=(sE l).2.length_eq
theorem w6 (hS : yz) {p : ProgT} (hp : Small p) (i : IdT) : IS s18 [p.enc,i.enc] [[dI (de p i)]]:=by
 refine w18.is ?_
 unfold g18
 simp only [pmr]
 refine ai (DZ p i (by have:=hp.d;omega)) ?_
 simp only [pmr,pms]
 refine ⟨fun h=>?_,fun h=>?_⟩
 ·have hd:=hp.w i
  have hu:=FR h
  have hraw:=Gv (an p i)
  have hw : (an p i).wt = (an p i).result.size+bx (an p i).slots+(an p i).body.wt:=rfl
  unfold Bl at hu hraw
  generalize an p i = d at hd hu hraw hw ⊢
  refine ai (oL _ Q0) ?_
  simp only [pmr]
  have hsl:=lU d.slots
  have h1:=cB d.result
  refine bl d.slots.length (fun i=>[[.sl d.slots.length 11 (d.slots.flatMap SlotT.enc)],[vI (d.slots.length : Int)],[vI (i : Int)],p.enc,d.enc,[dI (ct d.result++fB (d.slots.take i))]]) (fun _=>True) trivial (by simp [fB]) fun i next hi _ hn=>?_
  have h2:=sI d.slots i
  simp only [pmr,pms]
  refine ⟨fun h=>?_,fun h=>?_⟩
  ·have hk : i < d.slots.length:=Q0
   have hm:=pS (List.getElem_mem hk)
   have h5:=cB d.slots[i].ty
   rw [pe _ hk]
   simp only [pms]
   refine ⟨Q0,ai (oL _ Q0) ?_⟩
   simp only [pmr]
   refine ⟨by unfold room;rw [List.length_append];omega,Q4,?_⟩
   have:=hn hk trivial
   rw [sJ hk,<-List.append_assoc] at this
   rw [Im]
   exact this
  ·obtain rfl : i = d.slots.length:=Q0
   rw [List.take_length] at h2 ⊢
   refine bY [p.enc,[dI (ct d.result++fB d.slots++if gu d.kind then gC d.body else [])]] ?_ ?_
   ·refine ai (Cj d) ?_
    simp only [pmr]
    refine ⟨fun hb=>ai (Cv d.body _ (by rw [List.length_append];omega)) ?_,fun hb=>?_⟩
    ·simp only [pmr]
     rw [if_pos hb]
    ·rw [if_neg hb,List.append_nil]
   ·simp only [pmr]
    have hf : ((ct d.result++fB d.slots++if gu d.kind then gC d.body else []).filter (bO p)).length<=d.wt:=Nat.le_trans (List.length_filter_le _ _) hraw
    refine ai (vi p _ (by have:=hp.d;omega) Q0) ?_
    simp only [pmr]
    refine ai (hS _ Q0) ?_
    simp only [pmr]
    refine ai (uA _ (by rw [gU];omega)) ?_
    simp only [pmr]
    rw [hu]
 ·unfold de
  rw [if_neg h]
  rfl
theorem BX (hS : yz) {p : ProgT} (hp : Small p) : IS s63 [p.enc] [[dI (fh (cQ (p.defs.map DefT.id)))]]:=by
 have hd:=hp.d
 refine w63.is ?_
 unfold g63
 have hc : cell p.enc 1 = .sl p.defs.length 31 (p.defs.flatMap DefT.enc):=rfl
 simp only [pmr,hc]
 refine bY [[dI (p.defs.map DefT.id)]] ?_ ?_
 ·refine bl p.defs.length (fun k=>[[.sl p.defs.length 31 (p.defs.flatMap DefT.enc)],[vI (p.defs.length : Int)],[vI (k : Int)],[dI ((p.defs.take k).map DefT.id)]]) (fun _=>True) trivial rfl fun k next hi _ hn=>?_
  have hl : ((p.defs.take k).map DefT.id).length<=p.defs.length:=by simp;omega
  simp only [pmr]
  refine ⟨fun h=>?_,fun h=>?_⟩
  ·have hk : k < p.defs.length:=Q0
   rw [fR _ hk]
   simp only [pms]
   refine ⟨Q0,Qa,Q4,?_⟩
   have:=hn hk trivial
   rw [List.take_succ_eq_append_getElem hk,List.map_append] at this
   rw [gd]
   exact this
  ·obtain rfl : k = p.defs.length:=Q0
   rw [List.take_length]
 ·simp only [pmr]
  refine ai (hS _ Qc) ?_
  simp only [pmr]
  refine ai (uA _ (by rw [gU];simp;omega)) ?_
  simp only [pmr]
def lg (p : ProgT) : List IdT:=aW [] (p.defs.map DefT.id)
theorem idsP_eq (p : ProgT) : fh (cQ (p.defs.map DefT.id)) = lg p:=Em fun _=>Iff.rfl
theorem zZ (p : ProgT) : j8 (lg p):=(jX List.Pairwise.nil).1
theorem tU (p : ProgT) : (lg p).length<=p.defs.length:=by
 have:=cV (p.defs.map DefT.id) []
 simpa [lg] using this
theorem Fk {l : List IdT} (h : j8 l) : l.Nodup:=List.Pairwise.imp (fun h=>xX h) h
theorem qA {p : ProgT} {out left : List IdT} {k : Nat} (h : fH p out left = some k) (hk : k < left.length) : dP p left.length out left = dP p (left.eraseIdx k).length (out++[left[k]]) (left.eraseIdx k):=by
 obtain ⟨n,hn⟩ : ∃ n,left.length = n+1:=⟨left.length - 1,Q0⟩
 rw [hn,dP,h]
 dsimp only
 rw [List.length_eraseIdx,if_pos hk,hn,Nat.add_sub_cancel,List.getD_eq_getElem?_getD,List.getElem?_eq_getElem hk]
 rfl
theorem GH (hS : yz) {p : ProgT} (hp : Small p) : IS s15 [p.enc] [[dI (dP p (lg p).length [] (lg p)).1],[dI (dP p (lg p).length [] (lg p)).2]]:=by
 have hd:=hp.d
 have hlen:=tU p
 have hnd:=Fk (zZ p)
 have hall:=BX hS hp
 rw [idsP_eq] at hall
 have hs : ∀ j,(an p j).wt<=800000000000:=fun j=>by have:=hp.w j;omega
 refine w15.is ?_
 unfold g15
 simp only [pmr]
 refine ai hall ?_
 simp only [pmr]
 generalize lg p = L at hlen hnd ⊢
 refine bY [[dI L],[dI []],[dM (uD p) L]] ?_ ?_
 ·refine bl L.length (fun k=>[[vI (L.length : Int)],[vI (k : Int)],p.enc,[dI L],[dI []],[dM (uD p) (L.take k)]]) (fun _=>True) trivial rfl fun k next hi _ hn=>?_
  simp only [pmr]
  refine ⟨fun h=>?_,fun h=>?_⟩
  ·have hk : k < L.length:=Q0
   rw [dB _ hk]
   refine ⟨Q0,ai (w6 hS hp _) ?_⟩
   simp only [pmr,pms]
   have hnot : L[k] ∉ L.take k:=fun hm=>by
    obtain ⟨j,hj,e⟩:=List.mem_iff_getElem.1 hm
    rw [List.getElem_take] at e
    rw [List.length_take] at hj
    exact List.pairwise_iff_getElem.1 hnd j k Q0 hk Q0 e
   have:=hn hk trivial
   rw [List.take_succ_eq_append_getElem hk] at this
   rw [m_set (uD p) _ _ hnot,m_len (uD p) _ _ hnot]
   refine ⟨Q4,?_⟩
   have e : ((L.take k)++[L[k]]).length = (L.take k).length+1:=by rw [List.length_append];rfl
   simp only [dM,e] at this
   exact this
  ·obtain rfl : k = L.length:=Q0
   rw [List.take_length]
 ·simp only [pmr]
  refine iX (σ:=List IdT×List IdT) (fun s=>[[dI s.2],[dI s.1],[dM (uD p) L]]) (fun s=>s.2.length) (fun s=>(∀ x∈s.2,x∈L)/\s.1.length+s.2.length<=1000/\dP p s.2.length s.1 s.2 = dP p L.length [] L) ([],L) ⟨fun _ h=>h,Qc,rfl⟩ rfl ?_
  rintro ⟨out,left⟩ next ⟨h1,h2,h3⟩ hn
  dsimp only at h1 h2 h3 hn ⊢
  simp only [pmr]
  refine ai (yc p L out left h1 Q0 Q0 hs) ?_
  simp only [pmr]
  cases hf : fH p out left with
  | none =>
   refine ⟨fun _=>?_,fun h=>absurd (show (-1 : Int) < 0 by decide) h⟩
   rw [<-h3,qB hf]
  | some k =>
   obtain ⟨hk,_⟩:=lz hf
   dsimp only
   have hel : (left.eraseIdx k).length = left.length - 1:=by rw [List.length_eraseIdx,if_pos hk]
   refine ⟨fun h=>by omega,fun _=>⟨Q0,Qa,Q4,ai (FC left k hk Q0) ?_⟩⟩
   rw [Int.toNat_natCast,dB _ hk,gd]
   simp only [pmr]
   exact hn (out++[left[k]],left.eraseIdx k) (by show (left.eraseIdx k).length < left.length;omega) ⟨fun x hx=>h1 x (List.mem_of_mem_eraseIdx hx),by show (out++[left[k]]).length+(left.eraseIdx k).length<=1000;rw [List.length_append,List.length_singleton];omega,by rw [<-qA hf hk];exact h3⟩
theorem ET {p : ProgT} (hp : Small p) : IS s16 [p.enc] [[dI (dP p (lg p).length [] (lg p)).2],[dI (dP p (lg p).length [] (lg p)).1]]:=by
 have hd:=hp.d
 have hlen:=tU p
 have hinc:=zZ p
 have hs : ∀ j,(an p j).wt<=800000000000:=fun j=>by have:=hp.w j;omega
 refine w16.is ?_
 unfold g16
 have hc : cell p.enc 1 = .sl p.defs.length 31 (p.defs.flatMap DefT.enc):=rfl
 simp only [pmr]
 refine bY [[dI (lg p)],p.enc] ?_ ?_
 ·refine bl p.defs.length (fun k=>[[vI (k : Int)],p.enc,[dI (aW [] ((p.defs.take k).map DefT.id))]]) (fun _=>True) trivial rfl fun k next hi _ hn=>?_
  have hl:=cV ((p.defs.take k).map DefT.id) []
  have hl2 : ((p.defs.take k).map DefT.id).length<=p.defs.length:=by simp;omega
  simp only [List.length_nil,Nat.zero_add] at hl
  simp only [pmr,hc]
  refine ⟨fun h=>?_,fun h=>?_⟩
  ·have hk : k < p.defs.length:=Q0
   rw [fR _ hk]
   simp only [pms]
   refine ⟨Q0,ai (qf _ _ Q0) ?_⟩
   simp only [pmr]
   refine ⟨Q4,?_⟩
   have:=hn hk trivial
   rw [List.take_succ_eq_append_getElem hk,List.map_append,eX] at this
   exact this
  ·obtain rfl : k = p.defs.length:=Q0
   rw [List.take_length]
   rfl
 ·simp only [pmr]
  generalize lg p = L at hlen hinc ⊢
  refine iX (σ:=List IdT×List IdT) (fun s=>[[dI s.2],p.enc,[dI s.1]]) (fun s=>s.2.length) (fun s=>j8 s.2/\s.1.length+s.2.length<=1000/\dP p s.2.length s.1 s.2 = dP p L.length [] L) ([],L) ⟨hinc,Qc,rfl⟩ rfl ?_
  rintro ⟨out,left⟩ next ⟨h1,h2,h3⟩ hn
  dsimp only at h1 h2 h3 hn ⊢
  simp only [pmr]
  refine bY [[dI left],[vI (((fH p out left).getD left.length : Nat) : Int)],p.enc,[dI out]] ?_ ?_
  ·refine bl left.length (fun k=>[[dI left],[vI (k : Int)],p.enc,[dI out]]) (fun k=>∀ j (hj : j < left.length),j < k->cU (de p left[j]) out = false) (fun _ _ h=>absurd h (Nat.not_lt_zero _)) rfl fun k next hi hI hn=>?_
   simp only [pmr]
   refine ⟨fun h=>?_,fun h=>?_⟩
   ·have hk : k < left.length:=Q0
    rw [dB _ hk]
    have hu:=pJ p left[k]
    have:=hs left[k]
    refine ⟨Q0,ai (yF p _ Q0 hs) ?_⟩
    simp only [pmr]
    refine ai (Fi _ _ Q0 Q0) ?_
    simp only [pmr]
    cases hb : cU (de p left[k]) out with
    | true =>
     have hb':=hb
     unfold cU at hb'
     rw [hb']
     simp only [pmr,Bool.not_true]
     rw [wB hk hb fun j hj=>hI j Q0 hj]
     rfl
    | false =>
     have hb':=hb
     unfold cU at hb'
     rw [hb']
     simp only [pmr,Bool.not_false]
     refine ⟨Q4,hn hk fun j hj h=>?_⟩
     by_cases e : j = k
     ·subst e;exact hb
     ·exact hI j hj Q0
   ·obtain rfl : k = left.length:=Q0
    rw [qJ fun j hj=>hI j hj hj]
    rfl
  ·simp only [pmr]
   cases hf : fH p out left with
   | none =>
    refine ⟨fun _=>?_,fun h=>absurd rfl h⟩
    rw [<-h3,qB hf]
   | some k =>
    obtain ⟨hk,_⟩:=lz hf
    dsimp only [Option.getD_some]
    have hel : (left.eraseIdx k).length = left.length - 1:=by rw [List.length_eraseIdx,if_pos hk]
    rw [dB _ hk]
    refine ⟨fun h=>by omega,fun _=>⟨Q0,Qa,Q0,ai (AW left _ Q0) ?_⟩⟩
    rw [gd,mU hk h1]
    simp only [pmr]
    exact hn (out++[left[k]],left.eraseIdx k) (by show (left.eraseIdx k).length < left.length;omega) ⟨Fl k h1,by show (out++[left[k]]).length+(left.eraseIdx k).length<=1000;rw [List.length_append,List.length_singleton];omega,by rw [<-qA hf hk];exact h3⟩
def qt (c : MkC) (R n : Nat) : Prop:=∀ (t : Ty) (env : List Bnd) (depth : Int) (s : MkS),Fit c R n t env depth->Bd (9 ^ n) s->IS s32 [t.enc,[bp env],[vI depth],mkL c s,dfL c] (mkR c (ak c n t env depth s))
theorem q1 (n : Nat) : (1 : Int)<=9 ^ n:=Int.pow_pos Q1
theorem oU (e : Ex) : [aj e.id.shop,aj e.id.seq,aj e.id.index,aj e.kind,aj e.n,aj e.ref.shop,aj e.ref.seq,aj e.ref.index,aj e.ty.kind,aj e.ty.df.shop,aj e.ty.df.seq,aj e.ty.df.index,
  .sl e.ty.kids.length 5 (e.ty.kids.flatMap Ty.enc),.sl e.kids.length 15 (e.kids.flatMap Ex.enc),.sl e.names.length 1 (e.names.map bA)] = e.enc:=(Ex.aT e).symm
theorem rS (l : List Ex) (e : Ex) : l.flatMap Ex.enc++[aj e.id.shop,aj e.id.seq,aj e.id.index,aj e.kind,aj e.n,aj e.ref.shop,aj e.ref.seq,aj e.ref.index,aj e.ty.kind,aj e.ty.df.shop,aj e.ty.df.seq,aj e.ty.df.index,
  .sl e.ty.kids.length 5 (e.ty.kids.flatMap Ty.enc),.sl e.kids.length 15 (e.kids.flatMap Ex.enc),.sl e.names.length 1 (e.names.map bA)] = (l++[e]).flatMap Ex.enc:=by rw [oU];simp
def exC (e : Ex) : List D:=[aj e.id.shop,aj e.id.seq,aj e.id.index,aj e.kind,aj e.n,aj e.ref.shop,aj e.ref.seq,aj e.ref.index,aj e.ty.kind,aj e.ty.df.shop,aj e.ty.df.seq,aj e.ty.df.index,
  .sl e.ty.kids.length 5 (e.ty.kids.flatMap Ty.enc),.sl e.kids.length 15 (e.kids.flatMap Ex.enc),.sl e.names.length 1 (e.names.map bA)]
theorem j0 (e : Ex) : exC e = e.enc:=(Ex.aT e).symm
section
variable {c : MkC} {s : MkS} {k n : Int}
theorem oB (e : Ex) (hb : Bd 1 s) : IS fe [[vI k],[vI n],[.sl 1 15 (exC e)],mkL c s,dfL c] (mkR c (aO k n [e] s)):=by
 have:=eC (c:=c) (k:=k) (n:=n) (kids:=[e]) hb
 rw [j0]
 simpa using this
theorem tG (e f : Ex) (hb : Bd 1 s) : IS fe [[vI k],[vI n],[.sl 2 15 (exC e++exC f)],mkL c s,dfL c] (mkR c (aO k n [e,f] s)):=by
 have:=eC (c:=c) (k:=k) (n:=n) (kids:=[e,f]) hb
 rw [j0,j0]
 simpa using this
theorem zA (e f g : Ex) (hb : Bd 1 s) : IS fe [[vI k],[vI n],[.sl 3 15 (exC e++(exC f++exC g))],mkL c s,dfL c] (mkR c (aO k n [e,f,g] s)):=by
 have:=eC (c:=c) (k:=k) (n:=n) (kids:=[e,f,g]) hb
 rw [j0,j0,j0]
 simpa using this
end
section
variable {c : MkC} {R n : Nat} {t : Ty} {env : List Bnd} {x depth : Int} {s : MkS}
theorem Fc (h : t.size<=1000) : (t.kids.headD ty0).size<=1000:=by
 cases hk : t.kids with
 | nil=>simp [ty0,Ty.size,Ty.sizes]
 | cons a l =>
  have:=Ty.iu (t:=t) (k:=a) (by rw [hk];exact List.mem_cons_self ..)
  show a.size<=1000
  omega
theorem CN (hc : Ctx c R) (i : IdT) {z : SlotT} (hz : z∈(an c.p i).slots) : z.ty.size<=1000:=by
 rcases sy c.p i with e | e
 ·rw [e] at hz;cases hz
 ·exact hc.sty _ e _ hz
theorem tQ (hc : Ctx c R) (hg : qt c R n) {d : Int} {ts : List Ty} (st : Nat->List Ex->MkS->St') (z : List Ex×MkS) (hz : dQ (ak c n) env d ts s = z) (hb : Bd (ts.length * 9 ^ n+1) s) (hk : ∀ u∈ts,Fit c R n u env d) {B : (St'->Prop)->St'->Prop} {s0 : St'} (e0 : s0 = st 0 [] s)
  (h : ∀ (i : Nat) (dn : List Ex) (s1 : MkS) (next : St'->Prop),i<=ts.length->dn.length = i ->
   (∀ hk : i < ts.length,IS s32 [ts[i].enc,[bp env],[vI d],mkL c s1,dfL c] (mkR c (ak c n ts[i] env d s1))/\next (st (i+1) (dn++[(ak c n ts[i] env d s1).1]) (ak c n ts[i] env d s1).2)) ->
   (i = ts.length->z.1 = dn/\z.2 = s1)->B next (st i dn s1)) : Lp B s0:=by
 have hq:=q1 n
 refine iX (σ:=Nat×List Ex×MkS) (fun y=>st y.1 y.2.1 y.2.2) (fun y=>ts.length - y.1)
  (fun y=>y.1<=ts.length/\y.2.1.length = y.1/\z = kJ y.2.1 (dQ (ak c n) env d (ts.drop y.1) y.2.2)/\Bd ((ts.length - y.1 : Nat) * 9 ^ n+1) y.2.2) (0,[],s) ⟨Nat.zero_le _,rfl,by rw [List.drop_zero,hz];exact HF z,hb⟩ e0 ?_
 rintro ⟨i,dn,s1⟩ next ⟨hi,hlen,hI,hB⟩ hn
 dsimp only at hi hlen hI hB hn ⊢
 refine h i dn s1 next hi hlen (fun hk1=>?_) (fun he=>?_)
 ·obtain ⟨m,hm⟩ : ∃ m,ts.length - i = m+1:=⟨ts.length - i - 1,Q0⟩
  rw [hm] at hB
  have e1 : ((m+1 : Nat) : Int) * 9 ^ n = m * 9 ^ n+9 ^ n:=by rw [Int.natCast_add,Int.add_mul];simp
  have h5 : (0 : Int)<=m * 9 ^ n:=Int.mul_nonneg Q0 Q0
  refine ⟨hg _ env d s1 (hk _ (List.getElem_mem hk1)) (hB.mono Q0),?_⟩
  have hI':=BO hk1 hI
  have hB':=cq hc.gen.short n ts[i] env d s1 (m * 9 ^ n+1) Q0 (hB.mono Q0)
  exact hn (i+1,_,_) (by dsimp only;omega) ⟨by dsimp only;omega,by simp [hlen],hI',by dsimp only;rw [show ts.length - (i+1) = m by omega];exact hB'⟩
 ·have:=Fb he hI
  rw [this]
  exact ⟨rfl,rfl⟩
theorem Hy (hc : Ctx c R) (hg : qt c R n) (hf : Fit c R (n+1) t env depth) (hx : 0<=x/\x<=1000000) (hb : Bd (3 * 9 ^ n+1) s) : IS Ey [t.enc,[bp env],[vI x],[vI depth],mkL c s,dfL c] (mkR c (kq c (ak c n) t env x depth s)):=by
 refine w119.is ?_
 unfold g119
 have hq:=q1 n
 have e29 : x.tmod 29 = x % 29:=cv hx.1
 have e9 : x.tmod 9 = x % 9:=cv hx.1
 have e2 : x.tmod 2 = x % 2:=cv hx.1
 have e3 : x.tmod 3 = x % 3:=cv hx.1
 simp only [pmr,pms,pmg,bp]
 refine ⟨fun h0=>?_,fun h0=>⟨fun h1=>?_,fun h1=>⟨fun h2=>?_,fun h2=>?_⟩⟩⟩
 ·refine ⟨Q1,Q4,bY [[vI (HA x)],mkL c s,ex0.enc,dfL c] ?_ ?_⟩
  ·simp only [pmg]
   refine ⟨Q1,fun h=>⟨Q1,Q4,?_⟩,fun h=>?_⟩
   ·unfold HA;rw [if_pos h];rfl
   ·unfold HA;rw [if_neg h];rfl
  ·simp only [pmr,pmg]
   refine ai (eC (kids:=[]) (hb.mono Q0)) ?_
   simp only [pmr,pmg]
   unfold kq
   rw [if_pos h0]
 ·refine ⟨Q1,ai (eC (kids:=[]) (hb.mono Q0)) ?_⟩
  simp only [pmr,pmg]
  unfold kq
  rw [if_neg h0,if_pos h1]
 ·have hw:=hf.ok.wf
  obtain ⟨hk0,_⟩:=sn hw h2
  have hd : t.kids.headD ty0 = t.kids[0]:=HP hk0
  have hs0:=Fc hf.ts
  have el0:=qO t.kids hk0
  generalize hM : (if 0<=depth then (x.tmod 3).toNat else 0) = M
  have hM3 : M<=3:=by rw [<-hM];split <;> omega
  generalize hz : di (ak c n) (t.kids.headD ty0) env (depth - 1) M s = z
  have hr : kq c (ak c n) t env x depth s = ((aO 11 0 z.1 z.2).1.F9 (t.kids.headD ty0),(aO 11 0 z.1 z.2).2):=by
   unfold kq
   rw [if_neg h0,if_neg h1,if_pos h2,hM]
   dsimp only
   rw [hz]
  rw [hr]
  have hzb : Bd 1 z.2:=by
   rw [<-hz]
   have:=le3 hM3 (show (0 : Int)<=9 ^ n by omega)
   exact tR (cq hc.gen.short n) hq Q0 M s (hb.mono Q0)
  refine bY [mkL c z.2,t.enc,ex0.enc,[.sl z.1.length 15 (z.1.flatMap Ex.enc)],dfL c] ?_ ?_
  ·refine iX (σ:=Nat×List Ex×MkS) (fun y=>[[bp env],[vI x],[vI depth],[vI (y.1 : Int)],mkL c y.2.2,t.enc,ex0.enc,[.sl y.2.1.length 15 (y.2.1.flatMap Ex.enc)],dfL c]) (fun y=>M - y.1)
    (fun y=>y.1<=M/\y.2.1.length = y.1/\z = kJ y.2.1 (di (ak c n) (t.kids.headD ty0) env (depth - 1) (M - y.1) y.2.2)/\Bd ((M - y.1 : Nat) * 9 ^ n+1) y.2.2) (0,[],s) ⟨Nat.zero_le _,rfl,by rw [Nat.sub_zero,hz];exact HF z,by
     have:=le3 hM3 (show (0 : Int)<=9 ^ n by omega);exact hb.mono (by rw [Nat.sub_zero];omega)⟩ rfl ?_
   rintro ⟨i,dn,s1⟩ next ⟨hi,hlen,hI,hB⟩ hn
   dsimp only at hi hlen hI hB hn ⊢
   simp only [pmr,pmg,bp]
   have stop : (M - i = 0\/¬ 0 < s1.left)->[[.sl c.p.mods.length 6 (c.p.mods.flatMap ModT.enc),aY c.l,vI s1.pos,vI s1.temp,vI s1.left,vI c.own,vI c.home.shop,vI c.home.seq,vI c.home.index,vI s1.name],t.enc,ex0.enc,[.sl dn.length 15 (dn.flatMap Ex.enc)],[.sl c.p.defs.length 31 (c.p.defs.flatMap DefT.enc)]] = [mkL c z.2,t.enc,ex0.enc,[.sl z.1.length 15 (z.1.flatMap Ex.enc)],dfL c]:=fun h=>by
    rw [BP hI h];rfl
   refine ⟨Q1,fun h=>⟨fun h3=>⟨fun h4=>?_,fun h4=>stop (.inr h4)⟩,fun h3=>stop (.inl ?_)⟩,fun h=>stop (.inl ?_)⟩
   ·rw [if_pos h3] at hM
    have hiM : i < M:=Q0
    obtain ⟨m,hm⟩ : ∃ m,M - i = m+1:=⟨M - i - 1,Q0⟩
    rw [hm] at hI hB
    have e1 : ((m+1 : Nat) : Int) * 9 ^ n = m * 9 ^ n+9 ^ n:=by rw [Int.natCast_add,Int.add_mul];simp
    have h5 : (0 : Int)<=m * 9 ^ n:=Int.mul_nonneg Q0 Q0
    rw [el0,<-hd]
    have hdp:=hf.dp
    refine ⟨Q0,Q4,ai (hg _ env (depth - 1) s1 (hf.kid (fun m hm=>(sn hm h2).2) hs0) (hB.mono Q0)) ?_⟩
    simp only [pmr,pmg]
    have hI':=BQ hI h4
    have hB':=cq hc.gen.short n (t.kids.headD ty0) env (depth - 1) s1 (m * 9 ^ n+1) Q0 (hB.mono Q0)
    generalize ak c n (t.kids.headD ty0) env (depth - 1) s1 = r at hI' hB' ⊢
    refine ⟨Qa,Q4,?_⟩
    have:=hn (i+1,dn++[r.1],r.2) (by dsimp only;omega) ⟨by dsimp only;omega,by simp [hlen],by dsimp only;rw [show M - (i+1) = m by omega];exact hI',by dsimp only;rw [show M - (i+1) = m by omega];exact hB'⟩
    rw [rS]
    simpa [pmg,bp] using this
   ·rw [if_neg h3] at hM;omega
   ·split at hM <;> omega
  ·simp only [pmr,pmg]
   refine ai (eC hzb) ?_
   simp only [pmr,pmg]
   refine ⟨Q0,?_⟩
   rw [el0,<-hd]
   simp only [pmr]
   rfl
 ·have hw:=hf.ok.wf
  obtain ⟨hw1,hw2,hw3⟩:=lR hw h0 h1 h2
  have hdp:=hf.dp
  have hs3:=hc.gen.short.the t.df
  have hdl:=hc.d1
  refine ai (Def_is c.p t.df Q0 _) ?_
  simp only [pmr,pms]
  refine ⟨fun h3=>?_,fun h3=>?_⟩
  ·have hs0:=hw2 h3
   have hk : gK (an c.p t.df) x depth = ((gK (an c.p t.df) x depth).toNat : Int)/\(gK (an c.p t.df) x depth).toNat < (an c.p t.df).slots.length:=by
    have e : x.tmod ((an c.p t.df).slots.length : Int) = x % ((an c.p t.df).slots.length : Int):=cv hx.1
    have h1:=Int.emod_nonneg x (show ((an c.p t.df).slots.length : Int) ≠ 0 by omega)
    have h2:=Int.emod_lt_of_pos x (show (0 : Int) < (an c.p t.df).slots.length by omega)
    unfold gK
    split <;> omega
   have hr : kq c (ak c n) t env x depth s = (((aO 9 (gK (an c.p t.df) x depth) [(ak c n ((((an c.p t.df).slots.map SlotT.ty).getD (gK (an c.p t.df) x depth).toNat ty0)) env (depth - 1) s).1] (ak c n ((((an c.p t.df).slots.map SlotT.ty).getD (gK (an c.p t.df) x depth).toNat ty0)) env (depth - 1) s).2).1.setRef (an c.p t.df).id),(aO 9 (gK (an c.p t.df) x depth) [(ak c n ((((an c.p t.df).slots.map SlotT.ty).getD (gK (an c.p t.df) x depth).toNat ty0)) env (depth - 1) s).1] (ak c n ((((an c.p t.df).slots.map SlotT.ty).getD (gK (an c.p t.df) x depth).toNat ty0)) env (depth - 1) s).2).2):=by
    unfold kq
    rw [if_neg h0,if_neg h1,if_neg h2,if_pos h3]
   rw [hr]
   refine ⟨Q0,bY [[bp env],[vI depth],[vI (gK (an c.p t.df) x depth)],mkL c s,ex0.enc,(an c.p t.df).enc,dfL c] ?_ ?_⟩
   ·simp only [pmg,bp]
    unfold gK
    exact ⟨fun h=>by rw [if_pos h];rfl,fun h=>by rw [if_neg h];rfl⟩
   ·generalize gK (an c.p t.df) x depth = kk at hk ⊢
    obtain ⟨k,rfl⟩ : ∃ k : Nat,kk = k:=⟨_,hk.1⟩
    rw [Int.toNat_natCast] at hk ⊢
    have hk2:=hk.2
    have eg : ((an c.p t.df).slots.map SlotT.ty).getD k ty0 = (an c.p t.df).slots[k].ty:=by simp [List.getD_eq_getElem?_getD,List.getElem?_eq_getElem hk2]
    rw [eg]
    simp only [pmr,pms,pmg,bp]
    rw [pe _ hk2]
    simp only [pms]
    have hm:=List.getElem_mem hk2
    refine ⟨Q0,Q4,ai (hg _ env (depth - 1) s (hf.kid (fun m hm'=>(lR hm' h0 h1 h2).2.2 _ hm) (CN hc _ hm)) (hb.mono Q0)) ?_⟩
    have hB':=cq hc.gen.short n (an c.p t.df).slots[k].ty env (depth - 1) s 1 Q0 (hb.mono Q0)
    generalize ak c n (an c.p t.df).slots[k].ty env (depth - 1) s = r at hB' ⊢
    simp only [pmr,pmg]
    refine ai (oB r.1 hB') ?_
    simp only [pmr,pmg]
    rfl
  ·generalize hz : dQ (ak c n) env (depth - 1) ((an c.p t.df).slots.map SlotT.ty) s = z
   have hr : kq c (ak c n) t env x depth s = ((aO 7 0 z.1 z.2).1.setRef (an c.p t.df).id,(aO 7 0 z.1 z.2).2):=by
    unfold kq
    rw [if_neg h0,if_neg h1,if_neg h2,if_neg h3]
    dsimp only
    rw [hz]
   rw [hr]
   have h3q:=le3 hs3 (show (0 : Int)<=9 ^ n by omega)
   have hzb : Bd 1 z.2:=by
    rw [<-hz]
    exact kX (cq hc.gen.short n) hq Q0 _ s (hb.mono (by rw [List.length_map];omega))
   refine bY [mkL c z.2,ex0.enc,(an c.p t.df).enc,[.sl z.1.length 15 (z.1.flatMap Ex.enc)],dfL c] ?_ ?_
   ·refine tQ hc hg (d:=depth - 1) (ts:=(an c.p t.df).slots.map SlotT.ty) (s:=s) (fun i dn s1=>[[bp env],[vI depth],[vI (i : Int)],mkL c s1,ex0.enc,(an c.p t.df).enc,[.sl dn.length 15 (dn.flatMap Ex.enc)],dfL c]) z hz (hb.mono (by rw [List.length_map];omega)) (fun u hu=>?_) rfl (fun i dn s1 next hi hlen hgo hend=>?_)
    ·obtain ⟨y,hy,rfl⟩:=List.mem_map.1 hu
     exact hf.kid (fun m hm'=>(lR hm' h0 h1 h2).2.2 _ hy) (CN hc _ hy)
    ·simp only [pmr,pms,pmg,bp]
     have hlm : ((an c.p t.df).slots.map SlotT.ty).length = (an c.p t.df).slots.length:=List.length_map ..
     refine ⟨fun h=>?_,fun h=>?_⟩
     ·have hk : i < (an c.p t.df).slots.length:=Q0
      obtain ⟨hi1,hi2⟩:=hgo Q0
      rw [pe _ hk]
      simp only [pms]
      rw [List.getElem_map] at hi1 hi2
      refine ⟨Q0,Q4,ai hi1 ?_⟩
      generalize ak c n (an c.p t.df).slots[i].ty env (depth - 1) s1 = r at hi2 ⊢
      simp only [pmr,pmg]
      rw [rS]
      refine ⟨Qa,Q4,?_⟩
      simpa [pmg,bp] using hi2
     ·obtain ⟨e1,e2⟩:=hend Q0
      rw [e1,e2]
   ·simp only [pmr,pmg]
    refine ai (eC hzb) ?_
    simp only [pmr,pmg,pms]
    rfl
end
theorem oQ : IS pV [[vI 0,vI 0,vI 0,vI 0,.sl 0 5 []]] [[vI 2,vI 0,vI 0,vI 0],[.sl 1 5 [vI 0,vI 0,vI 0,vI 0,.sl 0 5 []]]]:=by
 have:=Eb ty0
 rwa [fm] at this
section
variable {c : MkC} {R n : Nat} {t : Ty} {env : List Bnd} {x depth : Int} {s : MkS}
theorem qt.list0 (hg : qt c R n) {d : Int} (hf : Fit c R n (bN ty0) env d) (hb : Bd (9 ^ n) s) : IS s32 [[vI 2,vI 0,vI 0,vI 0,.sl 1 5 [vI 0,vI 0,vI 0,vI 0,.sl 0 5 []]],[bp env],[vI d],mkL c s,dfL c] (mkR c (ak c n (bN ty0) env d s)):=by
 have:=hg _ env d s hf hb
 rwa [rH] at this
theorem IB (g : GX) (u : Ty) (d : Int) (k : Int) : lI g k u env d s = aO 4 k [(g u env d s).1,(g u env d (g u env d s).2).1] (g u env d (g u env d s).2).2:=rfl
theorem wC (h : 0 < env.length) (hx : 0<=x) : ∃ k : Nat,x.tmod (env.length : Int) = k/\∃ hk : k < env.length,jy env x = env[k]:=by
 have e : x.tmod (env.length : Int) = x % (env.length : Int):=cv hx
 have h1:=Int.emod_nonneg x (show (env.length : Int) ≠ 0 by omega)
 have h2:=Int.emod_lt_of_pos x (show (0 : Int) < env.length by omega)
 refine ⟨(x % (env.length : Int)).toNat,Q0,Q0,?_⟩
 unfold jy
 rw [e,List.getD_eq_getElem?_getD,List.getElem?_eq_getElem Q0]
 rfl
theorem Dd (hc : Ctx c R) (hg : qt c R n) (hf : Fit c R (n+1) t env depth) (h0 : 0 < depth) (hx : 0<=x/\x<=1000000) (hb : Bd (3 * 9 ^ n+1) s) : IS u7 [t.enc,[bp env],[vI x],[vI depth],mkL c s,dfL c] (mkR c (Xe.opG c (ak c n) t env x depth s)):=by
 refine w126.is ?_
 unfold g126
 have hq:=q1 n
 have e6 : x.tmod 6 = x % 6:=cv hx.1
 have e5 : x.tmod 5 = x % 5:=cv hx.1
 have e2 : x.tmod 2 = x % 2:=cv hx.1
 have d6 : x.tdiv 6 = x / 6:=fu hx.1
 have d2 : x.tdiv 2 = x / 2:=fu hx.1
 have hdp:=hf.dp
 have hR2:=hc.gen.R2
 have bd:=cq hc.gen.short n
 simp only [pmr,pmg,bp]
 refine ⟨fun k0=>?_,fun k0=>⟨fun k1=>?_,fun k1=>?_⟩⟩
 ·refine ⟨Q1,fun h=>?_,fun h=>?_⟩
  ·refine ai oQ ?_
   simp only [pmr]
   have hf1:=hf.any h0 (kz (p:=c.p) hR2) (u:=bN ty0) Q1 (j:=1) Q0 Q0
   refine ⟨Q4,ai (hg.list0 hf1 (hb.mono Q0)) ?_⟩
   have hB:=bd (bN ty0) env (depth - 1) s 1 Q0 (hb.mono Q0)
   rw [show Xe.opG c (ak c n) t env x depth s = aO 4 11 [(ak c n (bN ty0) env (depth - 1) s).1] (ak c n (bN ty0) env (depth - 1) s).2 by unfold Xe.opG;rw [if_pos k0,if_pos h];rfl]
   generalize ak c n (bN ty0) env (depth - 1) s = r at hB ⊢
   simp only [pmr,pmg]
   refine ai (oB r.1 hB) ?_
   simp only [pmr,pmg]
  ·have hf1:=hf.any h0 (hf.wt h0) hf.ts (j:=1) Q0 Q0
   refine ⟨Q4,ai (hg _ env _ s hf1 (hb.mono Q0)) ?_⟩
   have hB:=bd t env (depth - 1) s (9 ^ n+1) Q0 (hb.mono Q0)
   rw [show Xe.opG c (ak c n) t env x depth s = lI (ak c n) (x.tmod 5) t env (depth - 1) s by unfold Xe.opG;rw [if_pos k0,if_neg h],IB]
   generalize ak c n t env (depth - 1) s = r at hB ⊢
   simp only [pmr,pmg]
   refine ⟨Q1,Q0,Q4,ai (hg _ env _ r.2 hf1 (hB.mono Q0)) ?_⟩
   have hB2:=bd t env (depth - 1) r.2 1 Q0 (hB.mono Q0)
   generalize ak c n t env (depth - 1) r.2 = r2 at hB2 ⊢
   simp only [pmr,pmg]
   have ec : cell (el [vI 0,vI 1,vI 2,vI 3,vI 4] 1 (x.tmod 5).toNat) 0 = vI (x.tmod 5):=by
    have : x.tmod 5 = 0\/x.tmod 5 = 1\/x.tmod 5 = 2\/x.tmod 5 = 3\/x.tmod 5 = 4:=Q0
    rcases this with e | e | e | e | e <;> rw [e] <;> rfl
   rw [ec]
   refine ai (tG r.1 r2.1 hB2) ?_
   simp only [pmr,pmg]
 ·refine ⟨Q1,fun h=>?_,fun h=>?_⟩
  ·have hf1:=hf.any h0 (hf.wt h0) hf.ts (j:=1) Q0 Q0
   refine ⟨Q4,ai (hg _ env _ s hf1 (hb.mono Q0)) ?_⟩
   have hB:=bd t env (depth - 1) s 1 Q0 (hb.mono Q0)
   rw [show Xe.opG c (ak c n) t env x depth s = aO 4 9 [(ak c n t env (depth - 1) s).1] (ak c n t env (depth - 1) s).2 by unfold Xe.opG;rw [if_neg k0,if_pos k1,if_pos h];rfl]
   generalize ak c n t env (depth - 1) s = r at hB ⊢
   simp only [pmr,pmg]
   refine ai (oB r.1 hB) ?_
   simp only [pmr,pmg]
  ·obtain ⟨ke,he1,he2,he3⟩:=wC (env:=env) hf.e0 (show 0<=x.tdiv 6 by omega)
   refine bY [[bp env],[vI x],[vI depth],[vI (if x.tmod 6 = 2 then 6 else 5)],mkL c s,t.enc,ex0.enc,ty0.enc,dfL c] ?_ ?_
   ·rw [fm]
    refine ⟨Q1,?_⟩
    simp only
    exact ⟨fun h=>by rw [if_pos h];rfl,fun h=>by rw [if_neg h];rfl⟩
   simp only [pmr,pmg,bp]
   refine bY [[bp env],[vI x],[vI depth],[vI (if x.tmod 6 = 3 then 6 else if x.tmod 6 = 2 then 6 else 5)],mkL c s,t.enc,ex0.enc,(if x.tmod 6 = 3 then (jy env (x.tdiv 6)).ty else ty0).enc,dfL c] ?_ ?_
   ·refine ⟨Q1,?_⟩
    simp only
    refine ⟨fun h=>⟨⟨Q1,Q4⟩,Q0,Q0,?_⟩,fun h=>by rw [if_neg h,if_neg h];rfl⟩
    rw [if_pos h,if_pos h,he1,Int.toNat_natCast,DX _ he2,he3]
    simp only [pms]
    rfl
   simp only [pmr,pmg,bp]
   refine bY [[bp env],[vI depth],[vI (uI x)],mkL c s,ex0.enc,(gF t env x).enc,dfL c] ?_ ?_
   ·refine ⟨Q1,?_⟩
    simp only
    unfold uI gF
    refine ⟨fun h=>⟨Q1,Q4,Q0,?_⟩,fun h=>by rw [if_neg h,if_neg h];rfl⟩
    have ec : cell (el [vI 7,vI 8] 1 (x.tmod 6 - 4).toNat) 0 = vI (7+(x.tmod 6 - 4)):=by
     have : x.tmod 6 - 4 = 0\/x.tmod 6 - 4 = 1:=Q0
     rcases this with e | e <;> rw [e] <;> rfl
    rw [ec,if_pos h,if_pos h]
    rfl
   simp only [pmr,pmg,bp]
   have hu : wfT c.p R (gF t env x)/\(gF t env x).size<=1000:=by
    unfold gF
    split
    ·exact ⟨hf.wt h0,hf.ts⟩
    split
    ·rw [he3];exact ⟨hf.ew _ (List.getElem_mem he2),hf.es _ (List.getElem_mem he2)⟩
    ·exact ⟨lQ hR2 (.inl rfl),Q1⟩
   rw [show Xe.opG c (ak c n) t env x depth s = lI (ak c n) (uI x) (gF t env x) env (depth - 1) s by unfold Xe.opG;rw [if_neg k0,if_pos k1,if_neg h],IB]
   generalize gF t env x = u at hu ⊢
   have hf1:=hf.any h0 hu.1 hu.2 (j:=1) Q0 Q0
   refine ⟨Q4,ai (hg _ env _ s hf1 (hb.mono Q0)) ?_⟩
   have hB:=bd u env (depth - 1) s (9 ^ n+1) Q0 (hb.mono Q0)
   generalize ak c n u env (depth - 1) s = r at hB ⊢
   simp only [pmr,pmg]
   refine ⟨Q4,ai (hg _ env _ r.2 hf1 (hB.mono Q0)) ?_⟩
   have hB2:=bd u env (depth - 1) r.2 1 Q0 (hB.mono Q0)
   generalize ak c n u env (depth - 1) r.2 = r2 at hB2 ⊢
   simp only [pmr,pmg]
   refine ai (tG r.1 r2.1 hB2) ?_
   simp only [pmr,pmg]
 ·by_cases h : t.kind = 2/\x.tmod 2 = 0
  ·refine dA ?_
   refine ⟨fun _=>⟨Q1,fun _=>?_,fun h'=>absurd h.2 h'⟩,fun h'=>absurd h.1 h'⟩
   have hf1:=hf.any h0 (hf.wt h0) hf.ts (j:=1) Q0 Q0
   refine ⟨Q4,ai (hg _ env _ s hf1 (hb.mono Q0)) ?_⟩
   have hB:=bd t env (depth - 1) s (9 ^ n+1) Q0 (hb.mono Q0)
   rw [show Xe.opG c (ak c n) t env x depth s = lI (ak c n) 10 t env (depth - 1) s by unfold Xe.opG;rw [if_neg k0,if_neg k1,if_pos h],IB]
   generalize ak c n t env (depth - 1) s = r at hB ⊢
   simp only [pmr,pmg]
   refine ⟨Q4,ai (hg _ env _ r.2 hf1 (hB.mono Q0)) ?_⟩
   have hB2:=bd t env (depth - 1) r.2 1 Q0 (hB.mono Q0)
   generalize ak c n t env (depth - 1) r.2 = r2 at hB2 ⊢
   simp only [pmr,pmg]
   refine ai (tG r.1 r2.1 hB2) ?_
   simp only [pmr,pmg]
  ·refine bY [[bp env],[vI x],[vI depth],mkL c s,t.enc,ex0.enc,dfL c] ?_ ?_
   ·refine ⟨fun h1=>⟨Q1,?_⟩,fun _=>rfl⟩
    exact ⟨fun h2=>absurd ⟨h1,h2⟩ h,fun _=>rfl⟩
   simp only [pmr,pmg,bp]
   refine ⟨⟨Q1,Q4⟩,ai (Hy hc hg hf (x:=x.tdiv 2) Q0 hb) ?_⟩
   rw [show Xe.opG c (ak c n) t env x depth s = kq c (ak c n) t env (x.tdiv 2) depth s by unfold Xe.opG;rw [if_neg k0,if_neg k1,if_neg h]]
   simp only [pmr,pmg]
end
section
variable {c : MkC} {R n : Nat} {t : Ty} {env : List Bnd} {x depth : Int} {s : MkS}
theorem vj {i : Nat} (h : i < c.p.defs.length) : eA c t i (c.p.defs.length - i) = if ((bk c i).kind = 2/\iK c i)/\(bk c i).result = t then some i else eA c t (i+1) (c.p.defs.length - (i+1)):=by
 obtain ⟨m,hm⟩ : ∃ m,c.p.defs.length - i = m+1:=⟨c.p.defs.length - i - 1,Q0⟩
 rw [hm,eA,show c.p.defs.length - (i+1) = m by omega]
theorem F6 (_ : Ctx c R) (hb : Bd (4 * 9 ^ n+4) s) {l : List SlotT} (hl : l.length<=3) : Bd ((l.map SlotT.ty).length * 9 ^ n+1) s:=by
 have hq:=q1 n
 have:=le3 hl (show (0 : Int)<=9 ^ n by omega)
 exact hb.mono (by rw [List.length_map];omega)
theorem D2 (hc : Ctx c R) (hg : qt c R n) (hf : Fit c R (n+1) t env depth) (h0 : 0 < depth) (hx : 0<=x/\x<=1000000) (hb : Bd (4 * 9 ^ n+4) s) : IS Gl [t.enc,[bp env],[vI x],[vI depth],mkL c s,dfL c] (mkR c (pq c (ak c n) t env x depth s)):=by
 refine w125.is ?_
 unfold g125
 have hq:=q1 n
 have hdp:=hf.dp
 have hdl:=hc.d1
 simp only [pmr,pmg,bp]
 refine dA ?_
 refine bl c.p.defs.length (fun i=>[[bp env],[vI x],[vI depth],[vI (i : Int)],mkL c s,t.enc,ex0.enc,dfL c]) (fun i=>eA c t 0 c.p.defs.length = eA c t i (c.p.defs.length - i)) rfl rfl fun i next hi hI hn=>?_
 simp only [pmr,pmg,bp]
 refine ⟨fun h=>?_,fun h=>?_⟩
 ·have hk : i < c.p.defs.length:=Q0
  rw [vj hk] at hI
  have fin : ¬ (((bk c i).kind = 2/\iK c i)/\(bk c i).result = t)->okI ((i : Int)+1)/\next [[bp env],[vI x],[vI depth],[vI ((i : Int)+1)],mkL c s,t.enc,ex0.enc,dfL c]:=fun e=>⟨Q4,hn hk (by rwa [if_neg e] at hI)⟩
  refine dA ?_
  rw [fR _ hk]
  have ed:=gb hk
  rw [<-ed]
  simp only [pmr,pms]
  refine ⟨Q0,fun h1=>ai (mZ hk hc.m0) ?_,fun h1=>fin fun e=>h1 e.1.1⟩
  simp only [pmr,pmg]
  refine ⟨fun h2=>?_,fun h2=>fin fun e=>h2 e.1.2⟩
  have hm : bk c i∈c.p.defs:=by rw [ed];exact List.getElem_mem hk
  refine ai (rX _ _ (by have:=hc.rty _ hm;omega)) ?_
  simp only [pmr]
  refine ⟨fun h3=>?_,fun h3=>fin fun e=>h3 e.2⟩
  rw [if_pos ⟨⟨h1,h2⟩,h3⟩] at hI
  have hs3:=hc.gen.short.at (c:=c) i
  generalize hz : dQ (ak c n) env (depth - 1) ((bk c i).slots.map SlotT.ty) s = z
  have hr : pq c (ak c n) t env x depth s = ((aO 3 0 z.1 z.2).1.setRef (bk c i).id,(aO 3 0 z.1 z.2).2):=by
   unfold pq
   rw [hI]
   dsimp only
   rw [hz]
  rw [hr]
  have hb1:=F6 hc hb hs3
  have hzb : Bd 1 z.2:=by
   rw [<-hz]
   exact kX (cq hc.gen.short n) hq Q0 _ s hb1
  refine bY [mkL c z.2,ex0.enc,(bk c i).enc,[.sl z.1.length 15 (z.1.flatMap Ex.enc)],dfL c] ?_ ?_
  ·refine tQ hc hg (d:=depth - 1) (ts:=(bk c i).slots.map SlotT.ty) (s:=s) (fun i' dn s1=>[[bp env],[vI depth],[vI (i' : Int)],mkL c s1,ex0.enc,(bk c i).enc,[.sl dn.length 15 (dn.flatMap Ex.enc)],dfL c]) z hz hb1 (fun u hu=>?_) rfl (fun j dn s1 next hi hlen hgo hend=>?_)
   ·obtain ⟨y,hy,rfl⟩:=List.mem_map.1 hu
    exact hf.any h0 (hc.gen.slot _ hm _ hy) (hc.sty _ hm _ hy) Q0 Q0
   ·simp only [pmr,pms,pmg,bp]
    have hlm : ((bk c i).slots.map SlotT.ty).length = (bk c i).slots.length:=List.length_map ..
    refine ⟨fun h=>?_,fun h=>?_⟩
    ·have hk : j < (bk c i).slots.length:=Q0
     obtain ⟨hi1,hi2⟩:=hgo Q0
     rw [pe _ hk]
     simp only [pms]
     rw [List.getElem_map] at hi1 hi2
     refine ⟨Q0,Q4,ai hi1 ?_⟩
     generalize ak c n (bk c i).slots[j].ty env (depth - 1) s1 = r at hi2 ⊢
     simp only [pmr,pmg]
     rw [rS]
     refine ⟨Qa,Q4,?_⟩
     simpa [pmg,bp] using hi2
    ·obtain ⟨e1,e2⟩:=hend Q0
     rw [e1,e2]
  ·simp only [pmr,pmg]
   refine ai (eC hzb) ?_
   simp only [pmr,pmg,pms]
   rfl
 ·obtain rfl : i = c.p.defs.length:=Q0
  refine ai (Dd hc hg hf h0 hx (hb.mono Q0)) ?_
  rw [show pq c (ak c n) t env x depth s = Xe.opG c (ak c n) t env x depth s by unfold pq;rw [hI,Nat.sub_self];rfl]
  simp only [pmr,pmg]
theorem uo {xn i : Nat} (h : i < c.p.defs.length) : dy c t xn i (c.p.defs.length - i) = match (if (bk c ((xn+i) % c.p.defs.length)).kind = 0/\iK c ((xn+i) % c.p.defs.length) then jH (bk c ((xn+i) % c.p.defs.length)).slots t else none) with
  | some j=>some ((xn+i) % c.p.defs.length,j)
  | none=>dy c t xn (i+1) (c.p.defs.length - (i+1)):=by
 obtain ⟨m,hm⟩ : ∃ m,c.p.defs.length - i = m+1:=⟨c.p.defs.length - i - 1,Q0⟩
 rw [hm,dy,show c.p.defs.length - (i+1) = m by omega]
 rfl
theorem Bb {l : List SlotT} {j : Nat} (hj : j < l.length) (h1 : ∀ k (hk : k < l.length),k < j->l[k].ty ≠ t) (h2 : l[j].ty = t) : jH l t = some j:=by
 unfold jH
 rw [List.findIdx?_eq_some_iff_getElem]
 exact ⟨hj,by simpa using h2,fun k hk=>by simpa using h1 k Q0 hk⟩
theorem yU {l : List SlotT} (h1 : ∀ k (hk : k < l.length),l[k].ty ≠ t) : jH l t = none:=by
 unfold jH
 rw [List.findIdx?_eq_none_iff]
 intro y hy
 obtain ⟨k,hk,rfl⟩:=List.mem_iff_getElem.1 hy
 simpa using h1 k hk
theorem Ia (hc : Ctx c R) (hg : qt c R n) (hf : Fit c R (n+1) t env depth) (h0 : 0 < depth) (hx : 0<=x/\x<=1000000) (hb : Bd (4 * 9 ^ n+4) s) : IS s124 [t.enc,[bp env],[vI x],[vI depth],mkL c s,dfL c] (mkR c (jZ c (ak c n) t env x depth s)):=by
 refine w124.is ?_
 unfold g124
 have hq:=q1 n
 have hdp:=hf.dp
 have hdl:=hc.d1
 have hd0:=hc.d0
 simp only [pmr,pmg,bp]
 obtain ⟨xn,rfl⟩ : ∃ k : Nat,x = k:=⟨x.toNat,Q0⟩
 refine dA ?_
 refine bl c.p.defs.length (fun i=>[[bp env],[vI xn],[vI depth],[vI (i : Int)],mkL c s,t.enc,ex0.enc,dfL c]) (fun i=>dy c t xn 0 c.p.defs.length = dy c t xn i (c.p.defs.length - i)) rfl rfl fun i next hi hI hn=>?_
 simp only [pmr,pmg,bp]
 refine ⟨fun h=>?_,fun h=>?_⟩
 ·have hk : i < c.p.defs.length:=Q0
  have ht : (((xn : Int)+i).tmod (c.p.defs.length : Int)) = ((xn+i) % c.p.defs.length : Nat):=by
   rw [cv Q0];simp
  have hlt : (xn+i) % c.p.defs.length < c.p.defs.length:=Nat.mod_lt _ hd0
  rw [uo hk] at hI
  rw [ht,Int.toNat_natCast,fR _ hlt,<-gb hlt]
  have hm : bk c ((xn+i) % c.p.defs.length)∈c.p.defs:=by rw [gb hlt];exact List.getElem_mem hlt
  generalize (xn+i) % c.p.defs.length = k at hI hlt hm ⊢
  have fin : (¬ ((bk c k).kind = 0/\iK c k)\/jH (bk c k).slots t = none)->okI ((i : Int)+1)/\next [[bp env],[vI xn],[vI depth],[vI ((i : Int)+1)],mkL c s,t.enc,ex0.enc,dfL c]:=fun e=>⟨Q4,hn hk (by
   rcases e with e | e
   ·rwa [if_neg e] at hI
   ·rw [e,ite_self] at hI;exact hI)⟩
  refine dA ?_
  refine ⟨Q4,Q0,Q0,?_⟩
  refine bl (bk c k).slots.length (fun j=>[[bp env],[vI xn],[vI depth],[vI (i : Int)],[vI (k : Int)],[vI (j : Int)],mkL c s,t.enc,ex0.enc,(bk c k).enc,dfL c]) (fun j=>∀ q (hq : q < (bk c k).slots.length),q < j->(bk c k).slots[q].ty ≠ t) (fun _ _ h=>absurd h (Nat.not_lt_zero _)) rfl fun j vV hj hJ hn2=>?_
  simp only [pmr,pmg,pms,bp]
  have hs3:=hc.gen.short.at (c:=c) k
  refine ⟨fun h2=>⟨fun h3=>ai (mZ hlt hc.m0) ?_,fun h3=>fin (.inl fun e=>h3 e.1)⟩,fun h2=>?_⟩
  ·have hjk : j < (bk c k).slots.length:=Q0
   simp only [pmr,pmg]
   refine ⟨fun h4=>?_,fun h4=>fin (.inl fun e=>h4 e.2)⟩
   have hmem:=List.getElem_mem hjk
   rw [pe _ hjk]
   simp only [pms]
   refine ⟨Q0,ai (rX _ _ (by have:=hc.sty _ hm _ hmem;omega)) ?_⟩
   simp only [pmr]
   refine ⟨fun h5=>?_,fun h5=>⟨Q4,hn2 hjk fun q hq hlt=>?_⟩⟩
   ·rw [if_pos ⟨h3,h4⟩,Bb hjk hJ h5] at hI
    dsimp only at hI
    have hr : jZ c (ak c n) t env xn depth s = ((aO 8 j [(ak c n (ofT (bk c k).id) env (depth - 1) s).1] (ak c n (ofT (bk c k).id) env (depth - 1) s).2).1.setRef (bk c k).id,(aO 8 j [(ak c n (ofT (bk c k).id) env (depth - 1) s).1] (ak c n (ofT (bk c k).id) env (depth - 1) s).2).2):=by
     unfold jZ
     rw [Int.toNat_natCast,hI]
    rw [hr]
    refine ai (wU _) ?_
    simp only [pmr]
    have hf1 : Fit c R n (ofT (bk c k).id) env (depth - 1):=hf.any h0 (hc.gen.own _ hm (.inl h3)) (show (ofT (bk c k).id).size<=1000 by simp [ofT,Ty.size,Ty.sizes]) Q0 Q0
    refine ⟨Q4,ai (hg _ env _ s hf1 (hb.mono Q0)) ?_⟩
    have hB:=cq hc.gen.short n (ofT (bk c k).id) env (depth - 1) s 1 Q0 (hb.mono Q0)
    generalize ak c n (ofT (bk c k).id) env (depth - 1) s = r at hB ⊢
    simp only [pmr,pmg]
    refine ai (oB r.1 hB) ?_
    simp only [pmr,pmg]
    rfl
   ·by_cases e : q = j
    ·subst e;exact h5
    ·exact hJ q hq Q0
  ·obtain rfl : j = (bk c k).slots.length:=Q0
   exact fin (.inr (yU fun q hq=>hJ q hq hq))
 ·obtain rfl : i = c.p.defs.length:=Q0
  refine ai (Dd hc hg hf h0 hx (hb.mono Q0)) ?_
  rw [show jZ c (ak c n) t env xn depth s = Xe.opG c (ak c n) t env xn depth s by unfold jZ;rw [Int.toNat_natCast,hI,Nat.sub_self];rfl]
  simp only [pmr,pmg]
end
section
variable {c : MkC} {R n : Nat} {t : Ty} {env : List Bnd} {x depth : Int} {s : MkS}
theorem tD {kind : Int} {frm : Nat} (hd : 0 < c.p.defs.length) : ∀ m i,eN c kind frm i m = -1\/∃ k : Nat,eN c kind frm i m = k/\k < c.p.defs.length/\(bk c k).kind = kind/\iK c k
 | 0,i=>.inl rfl
 | m+1,i=>by
   rw [eN]
   split
   · rename_i h
     exact .inr ⟨_,rfl,Nat.mod_lt _ hd,h⟩
   · exact tD hd m (i+1)
theorem E3 (l : List ByteArray) (e : ByteArray) : l.map bA++[vS e] = (l++[e]).map bA:=by simp [bA]
theorem zK (hc : Ctx c R) (hg : qt c R n) (hf : Fit c R (n+1) t env depth) (h0 : 0 < depth) (hx : 0<=x/\x<=1000000) (hb : Bd (4 * 9 ^ n+4) s) : IS Gm [t.enc,[bp env],[vI x],[vI depth],mkL c s,dfL c] (mkR c (jU c (ak c n) t env x depth s)):=by
 refine w123.is ?_
 unfold g123
 have hq:=q1 n
 have hdp:=hf.dp
 have hdl:=hc.d1
 have hd0:=hc.d0
 simp only [pmr,pmg,bp]
 obtain ⟨xn,rfl⟩ : ∃ k : Nat,x = k:=⟨x.toNat,Q0⟩
 refine ai (of_is hc.m0 hc.d0 Q0 Q0) ?_
 simp only [pmr,pmg]
 refine ⟨fun h=>?_,fun h=>?_⟩
 · refine ai (Dd hc hg hf h0 hx (hb.mono Q0)) ?_
   rw [show jU c (ak c n) t env xn depth s = Xe.opG c (ak c n) t env xn depth s by unfold jU;rw [Int.toNat_natCast,if_pos h]]
   simp only [pmr,pmg]
 · obtain ⟨k,hk,hlt,hkind,hvis⟩ : ∃ k : Nat,ofG c 1 xn = k/\k < c.p.defs.length/\(bk c k).kind = 1/\iK c k:=by
     rcases tD (kind:=1) (frm:=xn) hd0 c.p.defs.length 0 with e | e
     · exact absurd e (by intro e;apply h;unfold ofG;omega)
     · exact e
   have hm : bk c k∈c.p.defs:=by rw [gb hlt];exact List.getElem_mem hlt
   have hs3:=hc.gen.short.at (c:=c) k
   rw [show jU c (ak c n) t env xn depth s = (let d:=bk c k
    let r:=ak c n (ofT d.id) env (depth - 2) s
    let q:=aO 10 0 [] r.2
    let z:=aP (ak c n) t env (depth - 1) q.1.id d.slots 0 q.2
    ((q.1.setRef d.id).gM (r.1::z.1.1) z.1.2,z.2)) by unfold jU;rw [Int.toNat_natCast,if_neg h,hk,Int.toNat_natCast]]
   rw [hk,Int.toNat_natCast,fR _ hlt,<-gb hlt]
   generalize bk c k = d at hm hs3 hkind ⊢
   dsimp only
   simp only [pms]
   refine ⟨Q0,ai (wU _) ?_⟩
   simp only [pmr]
   have hf1 : Fit c R n (ofT d.id) env (depth - 2):=hf.any h0 (hc.gen.own _ hm (.inr hkind)) (show (ofT d.id).size<=1000 by simp [ofT,Ty.size,Ty.sizes]) Q0 Q0
   refine ⟨Q4,ai (hg _ env _ s hf1 (hb.mono Q0)) ?_⟩
   have h3q:=le3 hs3 (show (0 : Int)<=9 ^ n+1 by omega)
   have hB:=cq hc.gen.short n (ofT d.id) env (depth - 2) s (3 * (9 ^ n+1)+1) Q0 (hb.mono Q0)
   generalize ak c n (ofT d.id) env (depth - 2) s = r at hB ⊢
   simp only [pmr,pmg]
   refine ai (eC (kids:=[]) (hB.mono Q0)) ?_
   have hB2 : Bd (3 * (9 ^ n+1)) (aO 10 0 [] r.2).2:=hB.node Q0
   have hfl : (aO 10 0 [] r.2).1.kids = []/\(aO 10 0 [] r.2).1.names = []:=⟨rfl,rfl⟩
   generalize aO 10 0 [] r.2 = q at hB2 hfl ⊢
   simp only [pmr,pmg]
   generalize hz : aP (ak c n) t env (depth - 1) q.1.id d.slots 0 q.2 = z
   refine bY [mkL c z.2,ex0.enc,[.sl (r.1::z.1.1).length 15 ((r.1::z.1.1).flatMap Ex.enc)],exL (q.1.setRef d.id),dfL c,[.sl z.1.2.length 1 (z.1.2.map bA)]] ?_ ?_
   · refine iX (σ:=Nat×List Ex×List ByteArray×MkS) (fun y=>[[bp env],[vI depth],[vI (y.1 : Int)],mkL c y.2.2.2,t.enc,ex0.enc,d.enc,[.sl (r.1::y.2.1).length 15 ((r.1::y.2.1).flatMap Ex.enc)],exL (q.1.setRef d.id),dfL c,[.sl y.2.2.1.length 1 (y.2.2.1.map bA)]]) (fun y=>d.slots.length - y.1)
       (fun y=>y.1<=d.slots.length/\y.2.1.length = y.1/\y.2.2.1.length = y.1/\z = bJ y.2.1 y.2.2.1 (aP (ak c n) t env (depth - 1) q.1.id (d.slots.drop y.1) y.1 y.2.2.2)/\Bd ((d.slots.length - y.1 : Nat) * (9 ^ n+1)) y.2.2.2) (0,[],[],q.2) ⟨Nat.zero_le _,rfl,rfl,by rw [List.drop_zero,hz];exact bJ_nil z,hB2.mono (by rw [Nat.sub_zero];omega)⟩ ?_ ?_
     · simp only [List.flatMap_cons,List.flatMap_nil,List.append_nil,<-j0]
       rw [hfl.2]
       rfl
     rintro ⟨i,dn,ns,s1⟩ next ⟨hi,hlen,hlen2,hI,hB3⟩ hn
     dsimp only at hi hlen hlen2 hI hB3 hn ⊢
     simp only [pmr,pmg,pms,bp]
     refine ⟨fun h5=>?_,fun h5=>?_⟩
     · have hkk : i < d.slots.length:=Q0
       obtain ⟨m,hm1⟩ : ∃ m,d.slots.length - i = m+1:=⟨d.slots.length - i - 1,Q0⟩
       rw [hm1] at hB3
       have e1 : ((m+1 : Nat) : Int) * (9 ^ n+1) = m * (9 ^ n+1)+(9 ^ n+1):=by rw [Int.natCast_add,Int.add_mul];simp
       have h6 : (0 : Int)<=m * (9 ^ n+1):=Int.mul_nonneg Q0 Q0
       have hmem:=List.getElem_mem hkk
       rw [pe _ hkk]
       simp only [pmr,pms]
       have hel:=hf.e1
       refine ⟨Q0,ai (rj (env:=env) (b:=⟨q.1.id,i,d.slots[i].ty⟩) Q0) ?_⟩
       simp only [pmr,bp]
       have hf2 : Fit c R n t (env++[⟨q.1.id,i,d.slots[i].ty⟩]) (depth - 1):=(hf.any h0 (hf.wt h0) hf.ts Q0 Q0).more (hc.gen.slot _ hm _ hmem) (hc.sty _ hm _ hmem) Q0
       refine ⟨Q4,ai (hg _ _ _ s1 hf2 (hB3.mono Q0)) ?_⟩
       have hB':=cq hc.gen.short n t (env++[⟨q.1.id,i,d.slots[i].ty⟩]) (depth - 1) s1 (m * (9 ^ n+1)+1) Q0 (hB3.mono Q0)
       have hI':=vk hkk hI
       generalize ak c n t (env++[⟨q.1.id,i,d.slots[i].ty⟩]) (depth - 1) s1 = r2 at hI' hB' ⊢
       simp only [pmr,pmg]
       refine ⟨by unfold room;simp;omega,ai (rE (hB'.mono Q0)) ?_⟩
       simp only [pmr,pmg]
       refine ⟨Qa,Q4,?_⟩
       have:=hn (i+1,dn++[r2.1],ns++[(cR r2.2).1],(cR r2.2).2) (by dsimp only;omega) ⟨by dsimp only;omega,by simp [hlen],by simp [hlen2],hI',by dsimp only;rw [show d.slots.length - (i+1) = m by omega];exact hB'.name' Q0⟩
       rw [rS,E3]
       simpa [pmg,bp] using this
     · have:=yp Q0 hI
       rw [this]
   · simp only [pmr,pmg]
     rfl
theorem dptF (h : Fit c R n t env depth) (s1 : MkS) : Fit c R n t env (dpt s1 depth) :=
 ⟨h.e0,h.e1,h.ew,h.es,h.ts,Ii h.ok,by have:=h.dp;have:=h.e1;unfold dpt;split <;> omega⟩
end
section
variable {c : MkC} {R n : Nat} {t : Ty} {env : List Bnd} {x depth : Int} {s : MkS}
theorem qt.bool (hg : qt c R n) {d : Int} (hf : Fit c R n (Ty.mk 1 id0 []) env d) (hb : Bd (9 ^ n) s) : IS s32 [[vI 1,vI 0,vI 0,vI 0,.sl 0 5 []],[bp env],[vI d],mkL c s,dfL c] (mkR c (ak c n (Ty.mk 1 id0 []) env d s)):=by
 have:=hg _ env d s hf hb
 rwa [ru] at this
theorem Fx (hc : Ctx c R) (hg : qt c R n) : qt c R (n+1):=by
 intro t env depth s hf hb
 refine w32.is ?_
 unfold g32
 have hq:=q1 n
 have bd:=cq hc.gen.short n
 have h9 : (9 : Int) ^ (n+1) = 9 * 9 ^ n:=by rw [Int.pow_succ,Int.mul_comm]
 rw [h9] at hb
 have hel:=hf.e1
 simp only [pmr,pmg,bp]
 refine ai (num_is Q1 hc.li (hb.mono Q0)) ?_
 rw [uv]
 have hb1 : Bd (4 * 9 ^ n+4) (fF c 65536 s).2:=hb.num Q0
 have hx : 0<=(fF c 65536 s).1/\(fF c 65536 s).1 < 65536:=dc c.l s.pos 65536 Q0
 generalize fF c 65536 s = y at hb1 hx ⊢
 obtain ⟨x,s1⟩:=y
 dsimp only at hb1 hx ⊢
 simp only [pmr,pmg]
 have hfl : (cW env t).length<=env.length:=by have:=Ah (l:=env) (t:=t) env.length;rwa [List.take_length] at this
 refine ai (B6 (t:=t) (fun b hb=>by have:=hf.es b hb;omega) Q0) ?_
 simp only [pmr,bp]
 have hf1:=dptF hf s1
 refine bY [[bp env],[vI (dpt s1 depth)],[vI x],mkL c s1,t.enc,ex0.enc,[bp (cW env t)],dfL c] ?_ ?_
 ·unfold dpt
  exact ⟨fun h=>by rw [if_pos h];rfl,fun h=>by rw [if_neg h];rfl⟩
 generalize dpt s1 depth = d at hf1 ⊢
 have hdp:=hf1.dp
 simp only [pmr,pmg,bp]
 have d3 : x.tdiv 3 = x / 3:=fu hx.1
 have m3 : x.tmod 3 = x % 3:=cv hx.1
 by_cases hv : 0 < (cW env t).length/\(d<=0\/x.tmod 3 = 0)
 ·rw [if_pos hv]
  refine dA ?_
  obtain ⟨k,hk1,hk2⟩ : ∃ k : Nat,(x.tdiv 3).tmod ((cW env t).length : Int) = k/\k < (cW env t).length:=by
   have e : (x.tdiv 3).tmod ((cW env t).length : Int) = x.tdiv 3 % ((cW env t).length : Int):=cv Q0
   have h1:=Int.emod_nonneg (x.tdiv 3) (show ((cW env t).length : Int) ≠ 0 by omega)
   have h2:=Int.emod_lt_of_pos (x.tdiv 3) (show (0 : Int) < (cW env t).length by omega)
   exact ⟨(x.tdiv 3 % ((cW env t).length : Int)).toNat,Q0,Q0⟩
  have fin : ((3 : Int) ≠ 0/\okI (x.tdiv 3))/\((cW env t).length : Int) ≠ 0/\(0<=(x.tdiv 3).tmod ((cW env t).length : Int)/\(x.tdiv 3).tmod ((cW env t).length : Int) < ((cW env t).length : Int))/\IS Ez [el ((cW env t).flatMap Bnd.enc) 9 ((x.tdiv 3).tmod ((cW env t).length : Int)).toNat,mkL c s1,dfL c] (mkR c (FO ((cW env t).getD (((x.tdiv 3).tmod ((cW env t).length : Int)).toNat) default) s1)):=by
   refine ⟨⟨Q1,Q4⟩,Q0,Q0,?_⟩
   rw [hk1,Int.toNat_natCast,DX _ hk2,List.getD_eq_getElem?_getD,List.getElem?_eq_getElem hk2]
   exact var_is (hb1.mono Q0)
  obtain ⟨f1,f2,f3,f4⟩:=fin
  refine ⟨fun _=>⟨fun h1=>⟨f1,f2,f3,ai f4 ?_⟩,fun h1=>⟨Q1,fun h2=>⟨f1,f2,f3,ai f4 ?_⟩,fun h2=>?_⟩⟩,fun h=>absurd hv.1 Q0⟩
  ·simp only [pmr,pmg]
  ·simp only [pmr,pmg]
  ·rcases hv.2 with h | h
   ·exact absurd h h1
   ·exact absurd h h2
 ·rw [if_neg hv]
  refine bY [[bp env],[vI d],[vI x],mkL c s1,t.enc,ex0.enc,dfL c] ?_ ?_
  ·refine ⟨fun h=>⟨fun h1=>absurd ⟨Q0,.inl h1⟩ hv,fun h1=>⟨Q1,?_⟩⟩,fun _=>rfl⟩
   exact ⟨fun h2=>absurd ⟨Q0,.inr h2⟩ hv,fun _=>rfl⟩
  simp only [pmr,pmg,bp]
  refine ⟨fun h0=>?_,fun h0=>?_⟩
  ·rw [if_pos h0]
   refine ⟨⟨Q1,Q4⟩,ai (Hy hc hg hf1 (x:=x.tdiv 3) Q0 (hb1.mono Q0)) ?_⟩
   simp only [pmr,pmg]
  ·rw [if_neg h0]
   have h0' : 0 < d:=Q0
   have d36 : x.tdiv 36 = x / 36:=fu hx.1
   have m12 : (x.tdiv 3).tmod 12 = x.tdiv 3 % 12:=cv Q0
   refine ⟨⟨Q1,Q4⟩,Q1,⟨Q1,Q4⟩,?_⟩
   have hx36 : 0<=x.tdiv 36/\x.tdiv 36<=1000000:=Q0
   generalize x.tdiv 36 = xx at hx36 ⊢
   generalize (x.tdiv 3).tmod 12 = k
   have hkid : ∀ u,wfT c.p R u->u.size<=1000->Fit c R n u env (d - 1):=fun u h1 h2=>hf1.any h0' h1 h2 Q0 Q0
   have ht : wfT c.p R t/\t.size<=1000:=⟨hf1.wt h0',hf1.ts⟩
   have hdm : okI (d - 1):=by unfold okI;omega
   unfold qx
   refine ⟨fun k0=>?_,fun k0=>⟨fun k1=>?_,fun k1=>⟨fun k2=>?_,fun k2=>⟨fun k3=>?_,fun k3=>⟨fun k4=>?_,fun k4=>⟨fun k5=>?_,fun k5=>⟨fun k6=>?_,fun k6=>⟨fun k7=>?_,fun k7=>⟨fun k8=>?_,fun k8=>?_⟩⟩⟩⟩⟩⟩⟩⟩⟩
   ·rw [if_pos Q0]
    unfold ifG
    dsimp only
    have hf0:=hkid (Ty.mk 1 id0 []) (lQ hc.gen.R2 (.inr rfl)) Q1
    have hft:=hkid t ht.1 ht.2
    refine ⟨hdm,ai (hg.bool hf0 (hb1.mono Q0)) ?_⟩
    have hB:=bd (Ty.mk 1 id0 []) env (d - 1) s1 (2 * 9 ^ n+1) Q0 (hb1.mono Q0)
    generalize ak c n (Ty.mk 1 id0 []) env (d - 1) s1 = r at hB ⊢
    simp only [pmr,pmg]
    refine ⟨hdm,ai (hg _ env _ r.2 hft (hB.mono Q0)) ?_⟩
    have hB2:=bd t env (d - 1) r.2 (9 ^ n+1) Q0 (hB.mono Q0)
    generalize ak c n t env (d - 1) r.2 = r2 at hB2 ⊢
    simp only [pmr,pmg]
    refine ⟨hdm,ai (hg _ env _ r2.2 hft (hB2.mono Q0)) ?_⟩
    have hB3:=bd t env (d - 1) r2.2 1 Q0 (hB2.mono Q0)
    generalize ak c n t env (d - 1) r2.2 = r3 at hB3 ⊢
    simp only [pmr,pmg]
    refine ai (zA r.1 r2.1 r3.1 hB3) ?_
    simp only [pmr,pmg]
   ·rw [if_pos Q0]
    unfold ifG
    dsimp only
    have hf0:=hkid (Ty.mk 1 id0 []) (lQ hc.gen.R2 (.inr rfl)) Q1
    have hft:=hkid t ht.1 ht.2
    refine ⟨hdm,ai (hg.bool hf0 (hb1.mono Q0)) ?_⟩
    have hB:=bd (Ty.mk 1 id0 []) env (d - 1) s1 (2 * 9 ^ n+1) Q0 (hb1.mono Q0)
    generalize ak c n (Ty.mk 1 id0 []) env (d - 1) s1 = r at hB ⊢
    simp only [pmr,pmg]
    refine ⟨hdm,ai (hg _ env _ r.2 hft (hB.mono Q0)) ?_⟩
    have hB2:=bd t env (d - 1) r.2 (9 ^ n+1) Q0 (hB.mono Q0)
    generalize ak c n t env (d - 1) r.2 = r2 at hB2 ⊢
    simp only [pmr,pmg]
    refine ⟨hdm,ai (hg _ env _ r2.2 hft (hB2.mono Q0)) ?_⟩
    have hB3:=bd t env (d - 1) r2.2 1 Q0 (hB2.mono Q0)
    generalize ak c n t env (d - 1) r2.2 = r3 at hB3 ⊢
    simp only [pmr,pmg]
    refine ai (zA r.1 r2.1 r3.1 hB3) ?_
    simp only [pmr,pmg]
   ·rw [if_neg Q0,if_pos k2]
    obtain ⟨ke,he1,he2,he3⟩:=wC (env:=env) hf.e0 hx36.1
    unfold letG
    dsimp only
    rw [he1,Int.toNat_natCast,DX _ he2,he3]
    simp only [pms]
    have hm:=List.getElem_mem he2
    have hwu:=hf.ew _ hm
    have hsu:=hf.es _ hm
    generalize env[ke].ty = u at hwu hsu ⊢
    have hfu:=hkid u hwu hsu
    refine ⟨Q0,Q0,hdm,ai (hg _ env _ s1 hfu (hb1.mono Q0)) ?_⟩
    have hB:=bd u env (d - 1) s1 (9 ^ n+3) Q0 (hb1.mono Q0)
    generalize ak c n u env (d - 1) s1 = r at hB ⊢
    simp only [pmr,pmg]
    refine ai (eC (kids:=[]) (hB.mono Q0)) ?_
    have hB2 : Bd (9 ^ n+2) (aO 6 0 [] r.2).2:=hB.node Q0
    generalize aO 6 0 [] r.2 = q at hB2 ⊢
    simp only [pmr,pmg]
    refine ai (rE (hB2.mono Q0)) ?_
    have hB3 : Bd (9 ^ n+1) (cR q.2).2:=hB2.name' Q0
    generalize cR q.2 = m at hB3 ⊢
    simp only [pmr,pmg]
    refine ai (rj (env:=env) (b:=⟨q.1.id,0,u⟩) Q0) ?_
    simp only [pmr,bp]
    have hf2 : Fit c R n t (env++[⟨q.1.id,0,u⟩]) (d - 1):=(hkid t ht.1 ht.2).more hwu hsu Q0
    refine ⟨hdm,ai (hg _ _ _ m.2 hf2 (hB3.mono Q0)) ?_⟩
    generalize ak c n t (env++[⟨q.1.id,0,u⟩]) (d - 1) m.2 = r2
    simp only [pmr,pmg]
    simp only [Ex.gM,Ex.id,Ex.kind,Ex.n,Ex.ref,Ex.ty,Ex.kids,Ex.names,List.flatMap_cons,List.flatMap_nil,Ex.aT,List.append_nil,List.cons_append,List.nil_append]
    rfl
   ·rw [if_neg Q0,if_neg Q0,if_pos Q0]
    refine ai (zK hc hg hf1 h0' hx36 hb1) ?_
    simp only [pmr,pmg]
   ·rw [if_neg Q0,if_neg Q0,if_pos Q0]
    refine ai (zK hc hg hf1 h0' hx36 hb1) ?_
    simp only [pmr,pmg]
   ·rw [if_neg Q0,if_neg Q0,if_neg Q0,if_pos Q0]
    refine ai (Ia hc hg hf1 h0' hx36 hb1) ?_
    simp only [pmr,pmg]
   ·rw [if_neg Q0,if_neg Q0,if_neg Q0,if_neg Q0,if_pos Q0]
    refine ai (D2 hc hg hf1 h0' hx36 hb1) ?_
    simp only [pmr,pmg]
   ·rw [if_neg Q0,if_neg Q0,if_neg Q0,if_neg Q0,if_pos Q0]
    refine ai (D2 hc hg hf1 h0' hx36 hb1) ?_
    simp only [pmr,pmg]
   ·rw [if_neg Q0,if_neg Q0,if_neg Q0,if_neg Q0,if_neg Q0,if_pos k8]
    unfold HV
    dsimp only
    refine ai oQ ?_
    simp only [pmr]
    have hfl0:=hkid (bN ty0) (kz (p:=c.p) hc.gen.R2) Q1
    refine ⟨hdm,ai (hg.list0 hfl0 (hb1.mono Q0)) ?_⟩
    have hB:=bd (bN ty0) env (d - 1) s1 (2 * 9 ^ n+4) Q0 (hb1.mono Q0)
    generalize ak c n (bN ty0) env (d - 1) s1 = r at hB ⊢
    simp only [pmr,pmg]
    refine ⟨hdm,ai (hg _ env _ r.2 (hkid t ht.1 ht.2) (hB.mono Q0)) ?_⟩
    have hB1:=bd t env (d - 1) r.2 (9 ^ n+4) Q0 (hB.mono Q0)
    generalize ak c n t env (d - 1) r.2 = r1 at hB1 ⊢
    simp only [pmr,pmg]
    refine ai (eC (kids:=[]) (hB1.mono Q0)) ?_
    have hB2 : Bd (9 ^ n+3) (aO 12 0 [] r1.2).2:=hB1.node Q0
    generalize aO 12 0 [] r1.2 = q at hB2 ⊢
    simp only [pmr,pmg]
    refine ai (rE (hB2.mono Q0)) ?_
    have hB3 : Bd (9 ^ n+2) (cR q.2).2:=hB2.name' Q0
    generalize cR q.2 = m at hB3 ⊢
    simp only [pmr,pmg]
    refine ai (rE (hB3.mono Q0)) ?_
    have hB4 : Bd (9 ^ n+1) (cR m.2).2:=hB3.name' Q0
    generalize cR m.2 = m2 at hB4 ⊢
    simp only [pmr,pmg]
    have e0:=fm
    refine ai (rj (env:=env) (b:=⟨q.1.id,0,ty0⟩) Q0) ?_
    simp only [pmr,bp]
    have hw:=rj (env:=env++[(⟨q.1.id,0,ty0⟩ : Bnd)]) (b:=(⟨q.1.id,1,t⟩ : Bnd)) Qc
    refine ai hw ?_
    simp only [pmr,bp]
    have hf2 : Fit c R n t (env++[⟨q.1.id,0,ty0⟩]) (d - 1):=(hkid t ht.1 ht.2).more (lQ hc.gen.R2 (.inl rfl)) (show ty0.size<=1000 by decide) Q0
    have hf3:=hf2.more (b:=⟨q.1.id,1,t⟩) ht.1 ht.2 Qc
    refine ⟨hdm,ai (hg _ _ _ m2.2 hf3 (hB4.mono Q0)) ?_⟩
    generalize ak c n t (env++[⟨q.1.id,0,ty0⟩]++[⟨q.1.id,1,t⟩]) (d - 1) m2.2 = r2
    simp only [pmr,pmg]
    simp only [Ex.gM,Ex.id,Ex.kind,Ex.n,Ex.ref,Ex.ty,Ex.kids,Ex.names,List.flatMap_cons,List.flatMap_nil,Ex.aT,List.append_nil,List.cons_append,List.nil_append]
    rfl
   ·rw [if_neg Q0,if_neg Q0,if_neg Q0,if_neg Q0,if_neg Q0,if_neg Q0]
    refine ai (Dd hc hg hf1 h0' hx36 (hb1.mono Q0)) ?_
    simp only [pmr,pmg]
theorem ur (hc : Ctx c R) : ∀ n,qt c R n
 | 0=>fun _ _ _ _ hf _=>absurd hf.ok.pos (Nat.lt_irrefl _)
 | n+1=>Fx hc (ur hc n)
end
theorem nZ : ∀ l : List Ex,l.length<=Ex.sizes l
 | []=>Nat.zero_le _
 | t::l=>by
  have:=nZ l
  have : 1<=t.size:=by cases t;simp [Ex.size]
  simp only [List.length_cons,Ex.sizes]
  omega
theorem zz (e : Ex) (hs : e.size<=1000000000000) : IS s33 [e.enc] [[vI e.size]]:=by
 refine w33.is ?_
 unfold g33
 refine bl e.kids.length (fun i=>[[vI (1+Ex.sizes (e.kids.take i) : Nat)],[vI (i : Int)],e.enc]) (fun _=>True) trivial rfl fun i next hi _ hn=>?_
 simp only [pmr]
 have h3:=Ex.ir e.kids (i+1)
 have h4:=Ex.size_eq e
 have h5:=nZ e.kids
 refine ⟨fun h=>?_,fun h=>?_⟩
 ·have hk : i < e.kids.length:=Q0
  rw [lE _ hk]
  have:=Ex.iu (List.getElem_mem hk)
  have h2:=Ex.nk _ _ hk
  refine ⟨Q0,ai (zz _ Q0) ?_⟩
  simp only [pmr]
  unfold okI
  refine ⟨Q0,Q0,?_⟩
  have:=hn hk trivial
  rw [h2] at this
  rw [show ((1+Ex.sizes (e.kids.take i) : Nat) : Int)+(e.kids[i].size : Nat) = (1+(Ex.sizes (e.kids.take i)+e.kids[i].size) : Nat) by omega]
  exact this
 ·obtain rfl : i = e.kids.length:=Q0
  rw [List.take_length,Ex.size_eq]
 termination_by e.size
theorem vR (e : Ex) (l : List Int) (hs : e.size+l.length<=1000000000000) : IS s34 [e.enc,[aY l]] [[aY (l++e.post)]]:=by
 refine w34.is ?_
 unfold g34 aY
 simp only [pmr]
 refine bl e.kids.length (fun i=>[[vI (i : Int)],[aY (l++Ex.er (e.kids.take i))],e.enc]) (fun _=>True) trivial (by simp [Ex.er,aY]) fun i next hi _ hn=>?_
 unfold aY
 simp only [pmr]
 have h4:=Ex.size_eq e
 have h5:=Ex.pZ (e.kids.take i)
 have h6 : (l++Ex.er (e.kids.take i)).length = l.length+Ex.sizes (e.kids.take i):=by rw [List.length_append,h5]
 refine ⟨fun h=>?_,fun h=>?_⟩
 ·have hk : i < e.kids.length:=Q0
  rw [lE _ hk]
  have h2:=Ex.nk _ _ hk
  have h3:=Ex.ir e.kids (i+1)
  have:=Ex.iu (List.getElem_mem hk)
  refine ⟨Q0,ai (vR _ _ Q0) ?_⟩
  unfold aY
  simp only [pmr]
  have:=hn hk trivial
  rw [Ex.Bq _ _ hk,<-List.append_assoc] at this
  exact ⟨by unfold okI;have:=nZ e.kids;omega,this⟩
 ·obtain rfl : i = e.kids.length:=Q0
  rw [List.take_length] at h6 ⊢
  rw [Ex.post_eq]
  refine ⟨Qa,?_⟩
  simp [Nat.add_assoc]
 termination_by e.size
def rnR (ids : List IdT) (e : Ex) : St':=[[aj e.id.shop,aj e.id.seq,aj e.id.index,aj e.kind,aj e.n,aj e.ref.shop,aj e.ref.seq,aj e.ref.index,aj e.ty.kind,aj e.ty.df.shop,aj e.ty.df.seq,aj e.ty.df.index,
  .sl e.ty.kids.length 5 (e.ty.kids.flatMap Ty.enc),.sl e.names.length 1 (e.names.map bA)],[.sl e.kids.length 15 (e.kids.flatMap Ex.enc)],[.sl ids.length 3 (ids.flatMap IdT.enc)]]
theorem DA {ids : List IdT} {z : Int} (h : 0<=z/\z < ids.length) : el (ids.flatMap IdT.enc) 3 z.toNat = (tV ids z).enc:=by
 have hk : z.toNat < ids.length:=Q0
 rw [dB _ hk,idAt_eq (k:=z.toNat) Q0 hk]
theorem sY (ids : List IdT) (e : Ex) (hi : inB ids.length e) (hs : e.size<=100000000000) : IS s35 [e.enc,[.sl ids.length 3 (ids.flatMap IdT.enc)]] (rnR ids (jJ ids e)):=by
 refine w35.is ?_
 unfold g35
 rw [inB_eq] at hi
 obtain ⟨h1,h2,h3⟩:=hi
 simp only [pmr]
 refine ⟨h1,?_⟩
 rw [DA h1]
 refine bY [[.sl ids.length 3 (ids.flatMap IdT.enc)],e.enc,ex0.enc,exC (.mk (tV ids e.id.index) e.kind e.n (qy ids e.kind e.ref) e.ty e.kids e.names)] ?_ ?_
 ·unfold qy
  refine ⟨fun hk=>⟨fun hq=>?_,fun hq=>?_⟩,fun hk=>?_⟩
  ·have h4:=h2 ⟨hk,hq⟩
   refine ⟨h4,?_⟩
   rw [DA h4,if_pos ⟨hk,hq⟩]
   simp only [pmr,pms]
   rfl
  ·rw [if_neg (fun h=>hq h.2)]
   rfl
  ·rw [if_neg (fun h=>hk h.1)]
   rfl
 simp only [pmr,exC]
 refine bl e.kids.length (fun i=>[[vI (i : Int)],[.sl ids.length 3 (ids.flatMap IdT.enc)],e.enc,ex0.enc,[aj (tV ids e.id.index).shop,aj (tV ids e.id.index).seq,aj (tV ids e.id.index).index,aj e.kind,aj e.n,aj (qy ids e.kind e.ref).shop,aj (qy ids e.kind e.ref).seq,aj (qy ids e.kind e.ref).index,aj e.ty.kind,aj e.ty.df.shop,aj e.ty.df.seq,aj e.ty.df.index,
  .sl e.ty.kids.length 5 (e.ty.kids.flatMap Ty.enc),.sl e.names.length 1 (e.names.map bA)],[.sl i 15 (((e.kids.take i).map (jJ ids)).flatMap Ex.enc)]]) (fun _=>True) trivial rfl fun i next hi _ hn=>?_
 simp only [pmr]
 have h4:=Ex.size_eq e
 have h5:=nZ e.kids
 refine ⟨fun h=>?_,fun h=>?_⟩
 ·have hk : i < e.kids.length:=Q0
  rw [lE _ hk]
  have:=Ex.iu (List.getElem_mem hk)
  refine ⟨Q0,ai (sY ids _ (zW h3 (List.getElem_mem hk)) Q0) ?_⟩
  simp only [pmr,rnR]
  have:=hn hk trivial
  refine ⟨Qa,Q4,?_⟩
  rw [List.take_succ_eq_append_getElem hk,List.map_append,List.flatMap_append] at this
  rw [oU]
  simpa using this
 ·obtain rfl : i = e.kids.length:=Q0
  rw [List.take_length,renE_eq,zh]
  simp only [rnR,Ex.id,Ex.kind,Ex.n,Ex.ref,Ex.ty,Ex.kids,Ex.names,List.length_map]
 termination_by e.size
theorem Es {n : Int} (hn : InI n) (a b : Ty) : IS pW [[vI n],a.enc,b.enc] [(bu n a b).enc]:=by
 refine w113.is ?_
 unfold g113
 simp only [pmr]
 have e0:=Eb ty0
 rw [fm] at e0
 refine ai e0 ?_
 simp only [pmr]
 refine ai (bB Q1 hn) ?_
 simp only [pmr]
 have hr:=bM n 6 Q0
 refine ⟨hr,?_⟩
 have hk : (around n 6).toNat < (Eu a b).length:=by simp [Eu];omega
 have:=qO (Eu a b) hk
 have e1 : (Eu a b).flatMap Ty.enc = [vI 0,vI 0,vI 0,vI 0,.sl 0 5 []]++([vI 1,vI 0,vI 0,vI 0,.sl 0 5 []]++([vI 2,vI 0,vI 0,vI 0,.sl 1 5 [vI 0,vI 0,vI 0,vI 0,.sl 0 5 []]]++(a.enc++(b.enc++[vI 0,vI 0,vI 0,vI 0,.sl 0 5 []])))):=by
  simp only [Eu,List.flatMap_cons,List.flatMap_nil,fm,ru,rH,List.append_nil]
 rw [e1] at this
 rw [this]
 unfold bu
 rw [List.getD_eq_getElem?_getD,List.getElem?_eq_getElem hk]
 rfl
theorem upd5 (t u : Ty) : upd t.enc 0 u.enc = u.enc:=by
 unfold upd
 rw [List.take_zero,List.nil_append,Ty.aM,List.drop_eq_nil_of_le (by rw [Ty.aM];decide),List.append_nil]
theorem jr {z : Int} (h : 0<=z/\z<=1000000000000) : InI z:=by unfold InI;omega
theorem PlanT.fJ (k : Int) (nm : ByteArray) (ts : List Ty) (ns : List ByteArray) (bs : List Int) (r : Ty) (m : Int) : (PlanT.mk k nm ts ns bs r m).enc = [aj k,bA nm,.sl ts.length 5 (ts.flatMap Ty.enc),DY ns,aY bs,aj r.kind,aj r.df.shop,aj r.df.seq,aj r.df.index,.sl r.kids.length 5 (r.kids.flatMap Ty.enc),aj m]:=by
 rw [PlanT.enc,Ty.aT]
 rfl
section
variable {l : List Int} (hl : ∀ x∈l,InI x)
theorem atS (hl : ∀ x∈l,InI x) {i n : Int} (hn : 1<=n) : IS s29 [[aY l],[vI i],[vI n]] [[vI (atL l i n)]]:=IW hn hl
theorem xu (_ : ∀ x∈l,InI x) {i n : Int} (a b : Ty) (hn : 1<=n) (h6 : n<=1000) : IS pW [[vI (atL l i n)],a.enc,b.enc] [(bu (atL l i n) a b).enc]:=by
 have:=dc l i n hn
 exact Es (jr Q0) a b
theorem Fj (hl : ∀ x∈l,InI x) {i : Int} (hi : 0<=i/\i<=1000) (T : Ty) : IS s115 [[aY l],[vI i],T.enc] [[.sl (x7 l i T).length 5 ((x7 l i T).flatMap Ty.enc)],[aY (Fm l i)]]:=by
 refine w115.is ?_
 unfold g115
 simp only [pmr]
 have r5:=dc l i 5 Q0
 have r3:=dc l (i+1) 3 Q0
 have r2:=dc l (i+1) 2 Q0
 have r23:=dc l (i+2) 3 Q0
 refine ai (atS hl Q1) ?_
 simp only [pmr]
 refine ⟨Q4,ai (atS hl Q1) ?_⟩
 simp only [pmr]
 have hz:=inZ_rng l i (atL l i 5)
 refine ⟨Q4,bY [[aY l],[vI i],[vI (atL l i 5)],T.enc,[.sl 1 5 (inT1 (atL l i 5)).enc],[.sl 1 1 [vI (inZ1 l i (atL l i 5))]]] ?_ ?_⟩
 ·unfold inT1 inZ1
  refine ⟨fun h=>⟨Q1,Q1,?_⟩,fun h=>?_⟩
  ·rw [if_pos h,if_pos h,ru];rfl
  ·rw [if_neg h,if_neg h,fm]
 simp only [pmr]
 have e0:=oQ
 refine bY [[aY l],[vI i],[vI (atL l i 5)],T.enc,[.sl 1 5 (inT2 (atL l i 5)).enc],[.sl 1 1 [vI (inZ2 l i (atL l i 5))]]] ?_ ?_
 ·unfold inT2 inZ2
  refine ⟨fun h=>ai e0 ?_,fun h=>?_⟩
  ·simp only [pmr]
   refine ⟨Q1,Q4,ai (atS hl Q1) ?_⟩
   simp only [pmr]
   refine ⟨Q4,Q1,?_⟩
   rw [if_pos h,if_pos h,<-rH,upd5]
   rfl
  ·rw [if_neg h,if_neg h]
 simp only [pmr]
 refine bY [[aY l],[vI i],[.sl 1 5 (inT (atL l i 5) T).enc],[.sl 1 1 [vI (inZ l i (atL l i 5))]]] ?_ ?_
 ·unfold inT inZ
  refine ⟨fun h=>⟨Q1,Q1,?_⟩,fun h=>?_⟩
  ·rw [if_pos h,if_pos h,upd5];rfl
  ·rw [if_neg h,if_neg h]
 simp only [pmr]
 refine ⟨Q4,ai (atS hl Q1) ?_⟩
 simp only [pmr]
 unfold x7 Fm
 generalize inT (atL l i 5) T = t0
 generalize inZ l i (atL l i 5) = z0
 generalize atL l (i+2) 3 = cc
 refine bY [[vI cc],[.sl (t0::in1 cc).length 5 ((t0::in1 cc).flatMap Ty.enc)],[aY (z0::zY cc)]] ?_ ?_
 ·unfold in1 zY
  refine ⟨fun h=>⟨by unfold room;decide,by unfold room;decide,?_⟩,fun h=>?_⟩
  ·rw [if_pos h,if_pos h]
   simp [fm,aY]
  ·rw [if_neg h,if_neg h]
   simp [aY]
 simp only [pmr,aY]
 have hl1 : (t0::in1 cc).length<=2/\(z0::zY cc).length<=2:=by unfold in1 zY;split <;> simp
 refine bY [[.sl (t0::in2 cc).length 5 ((t0::in2 cc).flatMap Ty.enc)],[aY (z0::HL cc)]] ?_ ?_
 ·unfold in2 HL
  refine ⟨fun h=>⟨Qa,Qa,?_⟩,fun h=>?_⟩
  ·have e1 : in1 cc = []:=by unfold in1;rw [if_neg Q0]
   have e2 : zY cc = []:=by unfold zY;rw [if_neg Q0]
   rw [if_pos h,if_pos h,e1,e2]
   simp [ru,tyL,aY]
  ·rw [if_neg h,if_neg h]
   rfl
 simp only [pmr,aY]
theorem zk (hl : ∀ x∈l,InI x) {n : Int} (hn : 1<=n/\n<=1000) : IS s31 [[aY l],[vI n]] [[.sl (aN l n).length 11 ((aN l n).flatMap PlanT.enc)]]:=by
 refine w31.is ?_
 unfold g31
 simp only [pmr]
 have a2:=dc l 2 3 Q0
 have a6:=dc l 6 2 Q0
 have a9:=dc l 9 3 Q0
 have e0:=oQ
 refine ai (atS hl Q1) ?_
 simp only [pmr]
 refine ai (iY Q0 (jr Q0)) ?_
 simp only [pmr]
 refine ai (wU _) ?_
 simp only [pmr]
 refine ⟨Q4,ai (iY Q0 (jr Q0)) ?_⟩
 simp only [pmr]
 refine ai (wU _) ?_
 simp only [pmr]
 refine bY [[aY l],[vI n],[vB (dz l)],(tyD n).enc,(tyD (n+1)).enc,[.sl (1+(atL l 2 3).toNat) 5 ((fN l 3 3 (tyD n) (1+(atL l 2 3).toNat)).flatMap Ty.enc)]] ?_ ?_
 ·refine bl (1+(atL l 2 3).toNat) (fun i=>[[aY l],[vI n],[vB (dz l)],[vI (i : Int)],(tyD n).enc,(tyD (n+1)).enc,[.sl i 5 ((fN l 3 3 (tyD n) i).flatMap Ty.enc)]]) (fun _=>True) trivial rfl fun i next hi _ hgo=>?_
  simp only [pmr]
  refine ai (atS hl Q1) ?_
  simp only [pmr]
  refine ⟨Q4,fun h=>⟨Q4,ai (atS hl Q1) ?_⟩,fun h=>?_⟩
  ·simp only [pmr]
   refine ai (xu hl (tyD n) (tyD n) Q1 Q1) ?_
   simp only [pmr,List.append_nil]
   have:=hgo Q0 trivial
   rw [nr,List.flatMap_append,List.flatMap_cons,List.flatMap_nil,List.append_nil] at this
   exact ⟨Qa,Q4,this⟩
  ·obtain rfl : i = 1+(atL l 2 3).toNat:=Q0
   rfl
 simp only [pmr]
 refine bl (1+(atL l 6 2).toNat) (fun i=>[[aY l],[vI n],[vB (dz l)],[vI (i : Int)],(tyD n).enc,(tyD (n+1)).enc,[.sl (1+i) 5 ((ty0::fN l 7 4 (tyD n) i).flatMap Ty.enc)],[.sl 1 11 (jN l n).enc]]) (fun _=>True) trivial ?_ fun i next hi _ hgo=>?_
 ·unfold jN
  rw [PlanT.fJ,gV,List.flatMap_cons,fm]
  rfl
 simp only [pmr]
 refine ai (atS hl Q1) ?_
 simp only [pmr]
 refine ⟨Q4,fun h=>⟨Q4,ai (atS hl Q1) ?_⟩,fun h=>?_⟩
 ·simp only [pmr]
  refine ai (xu hl (tyD n) (tyD n) Q1 Q1) ?_
  simp only [pmr,List.append_nil]
  have:=hgo Q0 trivial
  rw [nr,<-List.cons_append,List.flatMap_append,List.flatMap_cons (x:=bu _ _ _),List.flatMap_nil,List.append_nil] at this
  exact ⟨Qa,Q4,this⟩
 obtain rfl : i = 1+(atL l 6 2).toNat:=Q0
 refine ⟨Qa,Q4,?_⟩
 have p2 : (jN l n).enc++[vI 1,vS BE,.sl (1+(1+(atL l 6 2).toNat)) 5 ((ty0::fN l 7 4 (tyD n) (1+(atL l 6 2).toNat)).flatMap Ty.enc),.sl 3 1 [vS G8,vS He,vS nSet],.sl 0 1 [],vI 0,vI 0,vI 0,vI 0,.sl 0 5 [],vI 0] = (jL l n).flatMap PlanT.enc:=by
  have e : (kR l n).enc = [vI 1,vS BE,.sl (1+(1+(atL l 6 2).toNat)) 5 ((ty0::fN l 7 4 (tyD n) (1+(atL l 6 2).toNat)).flatMap Ty.enc),.sl 3 1 [vS G8,vS He,vS nSet],.sl 0 1 [],vI 0,vI 0,vI 0,vI 0,.sl 0 5 [],vI 0]:=by
   unfold kR
   rw [PlanT.fJ,List.length_cons,gV,Nat.add_comm 1 (1+_)]
   rfl
  rw [<-e]
  simp [jL]
 rw [p2]
 have l2 : (jL l n).length = 2:=rfl
 have l3 : (dK l n).length<=4:=by unfold dK;split <;> simp [jL]
 refine bY [[aY l],[vI n],[vB (dz l)],[vI (n - 1)],(tyD n).enc,(tyD (n+1)).enc,[.sl (dK l n).length 11 ((dK l n).flatMap PlanT.enc)],(tyS l n).enc] ?_ ?_
 ·by_cases hf : dz l = true
  ·rw [hf]
   simp only [pmr]
   refine bl (atL l 9 3).toNat (fun i=>[[aY l],[vI n],[vB true],[vI (n - 1)],[vI (i : Int)],(tyD n).enc,(tyD (n+1)).enc,[.sl (1+i) 5 ((ty0::fN l 10 4 (tyD n) i).flatMap Ty.enc)],[.sl 2 11 ((jL l n).flatMap PlanT.enc)],(tyD n).enc]) (fun _=>True) trivial (by rw [List.flatMap_cons,fm];rfl) fun i next hi _ hgo=>?_
   simp only [pmr]
   refine ai (atS hl Q1) ?_
   simp only [pmr]
   refine ⟨fun h=>⟨Q4,ai (atS hl Q1) ?_⟩,fun h=>?_⟩
   ·simp only [pmr]
    refine ai (xu hl (tyD n) (tyD n) Q1 Q1) ?_
    simp only [pmr,List.append_nil]
    have:=hgo Q0 trivial
    rw [nr,<-List.cons_append,List.flatMap_append,List.flatMap_cons (x:=bu _ _ _),List.flatMap_nil,List.append_nil] at this
    exact ⟨Qa,Q4,this⟩
   ·obtain rfl : i = (atL l 9 3).toNat:=Q0
    refine ⟨Q4,ai (iY Q0 (jr Q0)) ?_⟩
    simp only [pmr]
    refine ai (wU _) ?_
    simp only [pmr]
    refine ⟨Qa,ai e0 ?_⟩
    simp only [pmr]
    refine ⟨Qa,?_⟩
    have e3 : (iy l n).enc = [vI 0,vS G9,.sl (1+(atL l 9 3).toNat) 5 ((ty0::fN l 10 4 (tyD n) (atL l 9 3).toNat).flatMap Ty.enc),.sl 3 1 [vS Hf,vS nLog,vS nMore],.sl 0 1 [],vI 0,vI 0,vI 0,vI 0,.sl 0 5 [],vI 0]:=by
     unfold iy
     rw [PlanT.fJ,List.length_cons,gV,Nat.add_comm 1 _]
     rfl
    have e4 : (nD n).enc = [vI 0,vS nOut,.sl 3 5 ((tyD (n+2)).enc++[vI 2,vI 0,vI 0,vI 0,.sl 1 5 [vI 0,vI 0,vI 0,vI 0,.sl 0 5 []],vI 0,vI 0,vI 0,vI 0,.sl 0 5 []]),.sl 3 1 [vS G1,vS zI,vS nNext],.sl 0 1 [],vI 0,vI 0,vI 0,vI 0,.sl 0 5 [],vI 0]:=by
     unfold nD
     rw [PlanT.fJ]
     simp only [List.flatMap_cons,List.flatMap_nil,fm,rH]
     rfl
    unfold dK tyS
    rw [if_pos hf,if_pos hf,<-e3,<-e4]
    simp only [List.flatMap_append,List.flatMap_cons,List.flatMap_nil,List.append_nil,List.append_assoc]
    rfl
  ·rw [Bool.not_eq_true] at hf
   rw [hf]
   simp only [pmr]
   unfold dK tyS
   rw [if_neg (by rw [hf];simp),if_neg (by rw [hf];simp),List.append_nil]
   rfl
 simp only [pmr]
 refine ai (atS hl Q1) ?_
 simp only [pmr]
 refine ai (xu hl (tyD n) (tyD (n+1)) Q1 Q1) ?_
 refine bY [[aY l],[vI n],[vB (dz l)],[vI (n - 1)],(tyD n).enc,(tyD (n+1)).enc,[.sl (An l n).length 5 ((An l n).flatMap Ty.enc)],[.sl (dK l n).length 11 ((dK l n).flatMap PlanT.enc)],(tyS l n).enc] ?_ ?_
 ·simp only [pmr]
  refine ai (atS hl Q1) ?_
  simp only [pmr]
  unfold An
  refine ⟨fun h=>ai (atS hl Q1) ?_,fun h=>?_⟩
  ·simp only [pmr]
   refine ai (xu hl (tyD n) (tyD (n+1)) Q1 Q1) ?_
   refine ⟨by unfold room;decide,?_⟩
   rw [if_pos h]
   simp only [pmr,List.flatMap_cons,List.flatMap_nil,List.append_nil]
   rfl
  ·rw [if_neg h]
   simp only [List.flatMap_cons,List.flatMap_nil,List.append_nil]
   rfl
 simp only [pmr]
 refine ai (atS hl hn.1) ?_
 simp only [pmr]
 refine ai (atS hl Q1) ?_
 simp only [pmr]
 refine ai (xu hl (tyD n) (tyD n) Q1 Q1) ?_
 have l5 : (dZ l n).length<=6:=by unfold dZ;simp;omega
 have m5 : (dZ l n).length = (dK l n).length+1+1:=by unfold dZ;simp
 have e5 : (pF l n).enc = [vI 2,vS n_f,.sl (An l n).length 5 ((An l n).flatMap Ty.enc),.sl 2 1 [vS n_a,vS n_b],.sl 0 1 [],aj (kr l n).kind,aj (kr l n).df.shop,aj (kr l n).df.seq,aj (kr l n).df.index,.sl (kr l n).kids.length 5 ((kr l n).kids.flatMap Ty.enc),vI (atL l 15 n)]:=by
  unfold pF
  rw [PlanT.fJ]
  rfl
 refine ⟨Qa,bY [[aY l],[vI (n - 1)],(tyD n).enc,[.sl (dZ l n).length 11 ((dZ l n).flatMap PlanT.enc)],(tyS l n).enc,(kr l n).enc] ?_ ?_⟩
 ·by_cases hf : dz l = true
  ·rw [hf]
   simp only [pmr]
   refine ⟨Q4,ai (iY Q0 (jr Q0)) ?_⟩
   simp only [pmr]
   refine ai (wU _) ?_
   refine ⟨Qa,?_⟩
   simp only [pmr]
   have e6 : (kQ n).enc = [vI 3,vS nStep,.sl 2 5 ((tyD (n+2)).enc++((tyD (n+1)).enc++[])),.sl 2 1 [vS n_s,vS n_e],.sl 0 1 [],aj (tyD (n+3)).kind,aj (tyD (n+3)).df.shop,aj (tyD (n+3)).df.seq,aj (tyD (n+3)).df.index,.sl (tyD (n+3)).kids.length 5 ((tyD (n+3)).kids.flatMap Ty.enc),vI (n - 1)]:=by
    unfold kQ
    rw [PlanT.fJ]
    rfl
   have et : tyS l n = tyD (n+2):=by unfold tyS;rw [if_pos hf]
   have e5':=e5
   unfold kr at e5'
   rw [et,<-e5',<-e6,m5]
   unfold dZ
   rw [if_pos hf]
   simp only [List.flatMap_append,List.flatMap_cons,List.flatMap_nil,List.append_nil]
   rfl
  ·rw [Bool.not_eq_true] at hf
   rw [hf]
   simp only [pmr]
   refine ai (atS hl Q1) ?_
   simp only [pmr]
   refine ai (xu hl (tyD n) (tyD (n+1)) Q1 Q1) ?_
   refine ⟨Qa,?_⟩
   simp only [pmr]
   have e6 : (pG l n).enc = [vI 2,vS n_g,.sl 1 5 ((tyD (n+1)).enc++[]),.sl 1 1 [vS n_e],.sl 0 1 [],aj (bu (atL l 17 6) (tyD n) (tyD (n+1))).kind,aj (bu (atL l 17 6) (tyD n) (tyD (n+1))).df.shop,aj (bu (atL l 17 6) (tyD n) (tyD (n+1))).df.seq,aj (bu (atL l 17 6) (tyD n) (tyD (n+1))).df.index,.sl (bu (atL l 17 6) (tyD n) (tyD (n+1))).kids.length 5 ((bu (atL l 17 6) (tyD n) (tyD (n+1))).kids.flatMap Ty.enc),vI (n - 1)]:=by
    unfold pG
    rw [PlanT.fJ]
    rfl
   have e5':=e5
   unfold kr at e5'
   rw [<-e5',<-e6,m5]
   unfold dZ
   rw [if_neg (by rw [hf];simp)]
   simp only [List.flatMap_append,List.flatMap_cons,List.flatMap_nil,List.append_nil]
   rfl
 simp only [pmr]
 refine ai (Fj hl Q1 (tyD n)) ?_
 simp only [pmr,aY]
 refine ai (atS hl Q1) ?_
 simp only [pmr]
 refine ai (xu hl (tyD n) (kr l n) Q1 Q1) ?_
 refine ⟨Qa,ai (atS hl Q1) ?_⟩
 simp only [pmr]
 have e7 : (pT l n).enc = [vI 4,vS n_t,.sl (x7 l 18 (tyD n)).length 5 ((x7 l 18 (tyD n)).flatMap Ty.enc),.sl 2 1 [vS n_a,vS n_b],.sl (Fm l 18).length 1 ((Fm l 18).map aj),aj (bu (atL l 21 6) (tyD n) (kr l n)).kind,aj (bu (atL l 21 6) (tyD n) (kr l n)).df.shop,aj (bu (atL l 21 6) (tyD n) (kr l n)).df.seq,aj (bu (atL l 21 6) (tyD n) (kr l n)).df.index,.sl (bu (atL l 21 6) (tyD n) (kr l n)).kids.length 5 ((bu (atL l 21 6) (tyD n) (kr l n)).kids.flatMap Ty.enc),vI (n - 1)]:=by
  unfold pT
  rw [PlanT.fJ]
  rfl
 have e8 : (pC l n).enc = [vI 5,vS n_c,.sl 1 5 ((tyS l n).enc++[]),.sl 1 1 [vS nOld],.sl 0 1 [],aj (bu (atL l 23 6) (tyD n) (tyS l n)).kind,aj (bu (atL l 23 6) (tyD n) (tyS l n)).df.shop,aj (bu (atL l 23 6) (tyD n) (tyS l n)).df.seq,aj (bu (atL l 23 6) (tyD n) (tyS l n)).df.index,.sl (bu (atL l 23 6) (tyD n) (tyS l n)).kids.length 5 ((bu (atL l 23 6) (tyD n) (tyS l n)).kids.flatMap Ty.enc),vI (n - 1)]:=by
  unfold pC
  rw [PlanT.fJ]
  rfl
 rw [<-e7]
 unfold aN
 refine ⟨fun h=>ai (atS hl Q1) ?_,fun h=>?_⟩
 ·simp only [pmr]
  refine ai (xu hl (tyD n) (tyS l n) Q1 Q1) ?_
  refine ⟨Qa,?_⟩
  simp only [pmr]
  rw [if_pos h,<-e8]
  simp only [List.flatMap_append,List.flatMap_cons,List.flatMap_nil,List.append_nil,List.length_append,List.length_cons,List.length_nil]
 ·rw [if_neg h]
  simp only [List.flatMap_append,List.flatMap_cons,List.flatMap_nil,List.append_nil,List.length_append,List.length_cons,List.length_nil]
end
def kW (Is : Cx) (K : St'->Prop) : St'->Prop:=Lp (fun gO bX=>ah (cell (ent bX 0) 0) fun z234=>ah (cell (ent bX 1) 0) fun z235=>aa 31 (cell (ent bX 5) 0) fun n236 c237
 => ifK (decide (z235 < (n236 : Int))) (ckK (0<=z235/\z235 < (n236 : Int)) (ah (cell (el c237 31 (Int.toNat z235)) 3) fun z238=>ifK (decide
 (z238 = (0 : Int))) (ckK (okI (z235+1)) (gO [[vI z234],[vI (z235+1)],ent bX 2,[cell (ent bX 3) 0],cls (ent bX 4) 0 10 [],[.sl
 n236 31 c237]])) (ah (cell (el c237 31 (Int.toNat z235)) 3) fun z239=>ifK (decide (z239 = (1 : Int))) (ckK (okI (z235+1)) (gO [[vI z234],
 [vI (z235+1)],ent bX 2,[cell (ent bX 3) 0],cls (ent bX 4) 0 10 [],[.sl n236 31 c237]])) (Lp (fun xT bw=>ah (cell (ent
 bw 0) 0) fun z242=>ah (cell (ent bw 1) 0) fun z243=>ah (cell (ent bw 2) 0) fun z244=>aa 9 (cell (ent bw 7) 0) fun n245 c246
 => aa 31 (cell (ent bw 8) 0) fun n247 c248=>aa 11 (cell (ent bw 6) 8) fun n249 _=>ifK (decide (z244 < (n249 : Int))) (aa 11 (cell
 (ent bw 6) 8) fun n251 c252=>ckK (0<=z244/\z244 < (n251 : Int)) (aa 11 (cell (ent bw 6) 8) fun n253 c254=>ckK (0<=z244/\z244 < (n253
 : Int)) (ckK (room (n245+1) 89) (ckK (okI (z244+1)) (xT [[vI z242],[vI z243],[vI (z244+1)],ent bw 3,[cell (ent bw 4) 0],cls
 (ent bw 5) 0 10 [],ent bw 6,[.sl (n245+1) 9 (c246++(cls (sub (el c252 11 (Int.toNat z244)) 0 3) 0 3 (vI 0::cls (sub (el c254 11
 (Int.toNat z244)) 4 5) 0 5 [])))],[.sl n247 31 c248]]))))) (caK Is s32 [sub (ent bw 6) 9 5,[.sl n245 9 c246],[vI 4],cls (ent bw 5) 0 4 (vI
 14::vI z243::cls (sub (ent bw 6) 4 3) 0 3 [vI 0]),[.sl n247 31 c248]] fun r255=>aa 1 (cell (ent r255 1) 0) fun n256 c257=>aa 31
 (cell (ent r255 3) 0) fun n258 c259=>ckK (0<=z243/\z243 < (n258 : Int)) (ckK (0<=z243/\z243 < (n258 : Int)) (caK Is s33 [sub (el (upd c259
 ((Int.toNat z243) * 31+14) (cls (ent r255 0) 0 14 [.sl n256 1 c257])) 31 (Int.toNat z243)) 14 15] fun r260=>ah (cell (ent r260 0) 0) fun z261
 => ifK (decide ((30 : Int) < z261)) (caK Is s32 [sub (ent bw 6) 9 5,[.sl n245 9 c246],[vI 0],cls (ent r255 2) 0 4 (vI 0::cls (ent r255 2) 5
 5 []),[.sl n258 31 (upd c259 ((Int.toNat z243) * 31+14) (cls (ent r255 0) 0 14 [.sl n256 1 c257]))]] fun r262=>aa 1 (cell (ent r262 1) 0) fun
 n263 c264=>aa 31 (cell (ent r262 3) 0) fun n265 c266=>ckK (0<=z243/\z243 < (n265 : Int)) (ckK (okI (z243+1)) (gO [[vI z242],[vI
 (z243+1)],ent bw 3,[cell (ent bw 4) 0],cls (ent r262 2) 0 10 [],[.sl n265 31 (upd c266 ((Int.toNat z243) * 31+14) (cls (ent r262 0) 0
 14 [.sl n263 1 c264]))]]))) (ckK (okI (z243+1)) (gO [[vI z242],[vI (z243+1)],ent bw 3,[cell (ent bw 4) 0],cls (ent r255 2) 0 10
 [],[.sl n258 31 (upd c259 ((Int.toNat z243) * 31+14) (cls (ent r255 0) 0 14 [.sl n256 1 c257]))]])))))) [[vI z234],[vI z235],[vI 0],ent bX
 2,[cell (ent bX 3) 0],cls (ent bX 4) 0 10 [],el c237 31 (Int.toNat z235),[.sl 0 9 []],[.sl n236 31 c237]])))) (ah (cell (ent bX 4)
 3) fun z267=>ah (cell (ent bX 4) 3) fun z268=>ckK (0<=z267/\z267 = z268/\room (Int.toNat z267) 25) (Lp (fun jS dH=>ah (cell
 (ent dH 0) 0) fun z271=>ah (cell (ent dH 1) 0) fun z272=>aa 3 (cell (ent dH 4) 0) fun n273 c274=>aa 31 (cell (ent dH 5) 0)
 fun n275 c276=>ifK (decide (z272 < (n275 : Int))) (ckK (0<=z272/\z272 < (n275 : Int)) (ah (cell (el c276 31 (Int.toNat z272)) 3) fun z277 =>
 ifK (decide (z277 = (0 : Int))) (ckK (okI (z272+1)) (jS [[vI z271],[vI (z272+1)],ent dH 2,[cell (ent dH 3) 0],[.sl n273 3 c274],
 [.sl n275 31 c276]])) (ckK (0<=z272/\z272 < (n275 : Int)) (ah (cell (el c276 31 (Int.toNat z272)) 3) fun z278=>ifK (decide (z278 = (1 : Int)))
 (ckK (okI (z272+1)) (jS [[vI z271],[vI (z272+1)],ent dH 2,[cell (ent dH 3) 0],[.sl n273 3 c274],[.sl n275 31 c276]])) (ckK (0 <=
 z272/\z272 < (n275 : Int)) (caK Is s34 [sub (el c276 31 (Int.toNat z272)) 14 15,[.sl 0 1 []]] fun r279=>aa 1 (cell (ent r279 0) 0) fun n280
 c281=>Lp (fun xS en=>ah (cell (ent en 0) 0) fun z284=>ah (cell (ent en 1) 0) fun z285=>ah (cell (ent en 2) 0) fun
 z286=>aa 3 (cell (ent en 5) 0) fun n287 c288=>aa 1 (cell (ent en 6) 0) fun n289 c290=>aa 31 (cell (ent en 7) 0) fun n291 c292
 => ifK (decide (z286 < (n289 : Int))) (ckK (0<=z286/\z286 < (n289 : Int)) (caK Is s30 [[vI z284]] fun r293=>ah (cell (el c290 1 (Int.toNat
 z286)) 0) fun z294=>ckK (0<=z294/\z294 < (n287 : Int)) (ckK (okI (z284+1)) (ckK (okI (z286+1)) (xS [[vI (z284+1)],[vI z285],[vI
 (z286+1)],ent en 3,[cell (ent en 4) 0],[.sl n287 3 (upd c288 ((Int.toNat z294) * 3+0) (ent r293 0))],[.sl n289 1 c290],[.sl n291 31
 c292]]))))) (ckK (0<=z285/\z285 < (n291 : Int)) (caK Is s35 [sub (el c292 31 (Int.toNat z285)) 14 15,[.sl n287 3 c288]] fun r295=>aa 15 (cell
 (ent r295 1) 0) fun n296 c297=>aa 3 (cell (ent r295 2) 0) fun n298 c299=>ckK (0<=z285/\z285 < (n291 : Int)) (ckK (okI (z285+1)) (jS
 [[vI z284],[vI (z285+1)],ent en 3,[cell (ent en 4) 0],[.sl n298 3 c299],[.sl n291 31 (upd c292 ((Int.toNat z285) * 31+14) (cls (ent
 r295 0) 0 13 [.sl n296 15 c297,cell (ent r295 0) 13]))]]))))) [[vI z271],[vI z272],[vI 0],ent dH 2,[cell (ent dH 3) 0],[.sl n273 3
 c274],[.sl n280 1 c281],[.sl n275 31 c276]])))))) (K [[cell (ent dH 3) 0,.sl n275 31 c276]])) [[vI z234],[vI 0],ent bX 2,[cell (ent
 bX 3) 0],[.sl (Int.toNat z267) 3 (List.flatten (List.replicate (Int.toNat z267) [vI 0,vI 0,vI 0]))],[.sl n236 31 c237]])))
theorem fG {α : Type} {enc : α->List D} {sz : Nat} (he : ∀ x,(enc x).length = sz) (xs : List α) {k : Nat} (hk : k < xs.length) {o : Nat} {vs : List D} {x' : α} (hx : enc x' = (enc xs[k]).take o++vs++(enc xs[k]).drop (o+vs.length)) (ho : o+vs.length<=sz) : upd (xs.flatMap enc) (k * sz+o) vs = (xs.set k x').flatMap enc:=by
 have e : xs = xs.take k++xs[k]::xs.drop (k+1):=by rw [<-List.drop_eq_getElem_cons hk,List.take_append_drop]
 have hl : (xs.take k).length = k:=by rw [List.length_take];omega
 have hA : ((xs.take k).flatMap enc).length = k * sz:=by
  rw [List.length_flatMap,List.map_congr_left (g:=fun _=>sz) (fun x _=>he x),List.map_const',List.sum_replicate_nat,hl]
 have e2 : xs.set k x' = xs.take k++x'::xs.drop (k+1):=by rw [List.set_eq_take_append_cons_drop,if_pos hk]
 have e3 : xs.flatMap enc = (xs.take k).flatMap enc++(enc xs[k]++(xs.drop (k+1)).flatMap enc):=by
  conv=>lhs;rw [e]
  rw [List.flatMap_append,List.flatMap_cons]
 rw [e2,List.flatMap_append,List.flatMap_cons,e3,hx]
 generalize (xs.take k).flatMap enc = A at hA ⊢
 generalize (xs.drop (k+1)).flatMap enc = B
 have hk':=he xs[k]
 generalize enc xs[k] = X at hk' ⊢
 unfold upd
 rw [List.take_append,List.drop_append,hA,List.take_of_length_le (show A.length<=k * sz+o by omega),List.drop_eq_nil_of_le (show A.length<=k * sz+o+vs.length by omega),show k * sz+o - k * sz = o by omega,show k * sz+o+vs.length - k * sz = o+vs.length by omega,
  List.take_append_of_le_length Q0,List.drop_append_of_le_length Q0]
 simp
theorem sq (ds : List DefT) {k : Nat} (hk : k < ds.length) (e : Ex) : upd (ds.flatMap DefT.enc) (k * 31+14) e.enc = (ds.set k (ds[k].setBody e)).flatMap DefT.enc:=by
 refine fG DefT.aM ds hk ?_ (by rw [Ex.aM];decide)
 rw [Ex.aT]
 rfl
theorem upd_id (ids : List IdT) {k : Nat} (hk : k < ids.length) (i : IdT) : upd (ids.flatMap IdT.enc) (k * 3+0) i.enc = (ids.set k i).flatMap IdT.enc :=
 fG (enc:=IdT.enc) (fun _=>rfl) ids hk rfl (show 0+3<=3 by decide)
theorem HN (n : Nat) : List.flatten (List.replicate n [vI 0,vI 0,vI 0]) = (List.replicate n id0).flatMap IdT.enc:=by
 rw [List.flatMap_def,List.map_replicate]
 rfl
theorem o4 {α : Type} {l : List α} {k : Nat} {d : α} (h : k < l.length) : l.getD k d = l[k]:=by rw [List.getD_eq_getElem?_getD,List.getElem?_eq_getElem h];rfl
section
variable {l : List Int} {K : St'->Prop}
structure BI (l : List Int) (ms : List ModT) (ds0 : List DefT) (z : List DefT×MkS) (i : Nat) (ds : List DefT) (s : MkS) : Prop where
 le : i<=ds0.length
 lk : dm ds ds0
 go : bg ms l (ds0.length - i) i ds s = z
 us : 0<=s.pos/\s.pos+(ds0.length - i : Nat) * (2 * 9 ^ 9)<=100000000000/\0<=s.temp/\s.temp+(ds0.length - i : Nat) * (2 * 9 ^ 9)<=100000000000
 nm : ∀ k (hk : k < ds.length),k < i->¬ bare ds[k]->inB s.temp ds[k].body/\ds[k].body.size<=100000000000
theorem FI (_ : ∀ x∈l,InI x) {ms : List ModT} {ds0 : List DefT} {z : List DefT×MkS} (_ : 0 < ms.length) (_ : Base ⟨ms,ds0⟩ 5) (_ : Names ⟨ms,ds0⟩) (hd8 : ds0.length<=8) {nx : Int} {zp : List D} (_ : ∀ d∈ds0,∀ x∈d.slots,x.id.seq ≠ 0)
  (hgo : bg ms l ds0.length 0 ds0 ⟨24,0,0,0⟩ = z) {B : (St'->Prop)->St'->Prop} {s0 : St'} (e0 : s0 = [[vI nx],[vI 0],zp,[.sl ms.length 6 (ms.flatMap ModT.enc)],mkL ⟨⟨ms,ds0⟩,l,0,id0⟩ ⟨24,0,0,0⟩,[.sl ds0.length 31 (ds0.flatMap DefT.enc)]])
  (h : ∀ (i : Nat) (ds : List DefT) (s : MkS) (own : Int) (home : IdT) (next : St'->Prop),BI l ms ds0 z i ds s ->
   (∀ ds' s' own' home',BI l ms ds0 z (i+1) ds' s'->next [[vI nx],[vI (i+1 : Nat)],zp,[.sl ms.length 6 (ms.flatMap ModT.enc)],mkL ⟨⟨ms,ds'⟩,l,own',home'⟩ s',[.sl ds'.length 31 (ds'.flatMap DefT.enc)]]) ->
   B next [[vI nx],[vI (i : Nat)],zp,[.sl ms.length 6 (ms.flatMap ModT.enc)],mkL ⟨⟨ms,ds⟩,l,own,home⟩ s,[.sl ds.length 31 (ds.flatMap DefT.enc)]]) : Lp B s0:=by
 refine iX (σ:=Nat×List DefT×MkS×Int×IdT) (fun y=>[[vI nx],[vI (y.1 : Nat)],zp,[.sl ms.length 6 (ms.flatMap ModT.enc)],mkL ⟨⟨ms,y.2.1⟩,l,y.2.2.2.1,y.2.2.2.2⟩ y.2.2.1,[.sl y.2.1.length 31 (y.2.1.flatMap DefT.enc)]]) (fun y=>ds0.length - y.1) (fun y=>BI l ms ds0 z y.1 y.2.1 y.2.2.1)
  (0,ds0,⟨24,0,0,0⟩,0,id0) ⟨Nat.zero_le _,dm.refl _,hgo,⟨by show (0 : Int)<=24;decide,by show (24 : Int)+_<=_;rw [show (9 : Int) ^ 9 = 387420489 by decide];omega,by show (0 : Int)<=0;decide,by show (0 : Int)+_<=_;rw [show (9 : Int) ^ 9 = 387420489 by decide];omega⟩,fun k _ hk=>absurd hk (Nat.not_lt_zero _)⟩ e0 ?_
 rintro ⟨i,ds,s,own,home⟩ next hI hnx
 dsimp only at hI hnx ⊢
 refine h i ds s own home next hI fun ds' s' own' home' hI'=>?_
 have:=hI'.le
 exact hnx (i+1,ds',s',own',home') (by dsimp only;omega) hI'
theorem BI.skip {ms : List ModT} {ds0 ds : List DefT} {z : List DefT×MkS} {i : Nat} {s : MkS} (h : BI l ms ds0 z i ds s) (hi : i < ds.length) (hb : bare ds[i]) : BI l ms ds0 z (i+1) ds s:=by
 have hlen:=h.lk.len
 have hle:=h.le
 obtain ⟨m,hm⟩ : ∃ m,ds0.length - i = m+1:=⟨ds0.length - i - 1,Q0⟩
 have hgo:=h.go
 have hus:=h.us
 rw [hm] at hgo hus
 rw [bg,o4 hi,if_pos hb] at hgo
 have e1 : ((m+1 : Nat) : Int) * (2 * 9 ^ 9) = m * (2 * 9 ^ 9)+2 * 9 ^ 9:=by rw [Int.natCast_add,Int.add_mul];simp
 have h9 : (9 : Int) ^ 9 = 387420489:=Q1
 refine ⟨Q0,h.lk,by rw [show ds0.length - (i+1) = m by omega];exact hgo,by rw [show ds0.length - (i+1) = m by omega];omega,fun k hk hlt hnb=>?_⟩
 by_cases e : k = i
 ·subst e;exact absurd hb hnb
 ·exact h.nm k hk Q0 hnb
theorem BI.step {ms : List ModT} {ds0 ds : List DefT} {z : List DefT×MkS} {i : Nat} {s : MkS} (h : BI l ms ds0 z i ds s) (hd8 : ds0.length<=8) (hi : i < ds.length) (hnb : ¬ bare ds[i]) (hb : Base ⟨ms,ds⟩ 5) (hn : Names ⟨ms,ds⟩) (hsl : ∀ d∈ds,∀ x∈d.slots,x.id.seq ≠ 0) :
  BI l ms ds0 z (i+1) (ds.set i (ds[i].setBody (iI ⟨⟨ms,ds⟩,l,i,ds[i].mod⟩ ds[i] ⟨s.pos,s.temp,14,0⟩).1)) (iI ⟨⟨ms,ds⟩,l,i,ds[i].mod⟩ ds[i] ⟨s.pos,s.temp,14,0⟩).2:=by
 have hlen:=h.lk.len
 have hle:=h.le
 obtain ⟨m,hm⟩ : ∃ m,ds0.length - i = m+1:=⟨ds0.length - i - 1,Q0⟩
 have hgo:=h.go
 have hus:=h.us
 rw [hm] at hgo hus
 rw [bg,o4 hi,if_neg hnb] at hgo
 have e1 : ((m+1 : Nat) : Int) * (2 * 9 ^ 9) = m * (2 * 9 ^ 9)+2 * 9 ^ 9:=by rw [Int.natCast_add,Int.add_mul];simp
 have h9 : (9 : Int) ^ 9 = 387420489:=Q1
 have hmn : (0 : Int)<=m * (2 * 9 ^ 9):=Int.mul_nonneg Q0 Q0
 have hu : Us (100000000000 - (m * (2 * 9 ^ 9)+2 * 9 ^ 9)) ⟨s.pos,s.temp,14,0⟩:=by
  have : (m : Int) * (2 * 9 ^ 9)<=8 * (2 * 9 ^ 9):=Int.mul_le_mul_of_nonneg_right Q0 Q0
  unfold Us;dsimp only;omega
 obtain ⟨hu2,T,hT,hmk⟩:=D4 (c:=⟨⟨ms,ds⟩,l,i,ds[i].mod⟩) hb hn hi rfl rfl hu Q0
 generalize iI ⟨⟨ms,ds⟩,l,i,ds[i].mod⟩ ds[i] ⟨s.pos,s.temp,14,0⟩ = r at hgo hu2 hmk ⊢
 dsimp only at hT
 have hin : inB r.2.temp r.1:=hmk.inB Q0 fun b hb' hs=>by
  obtain ⟨x,hx,rfl⟩:=jx hb'
  exact absurd hs (hsl _ (List.getElem_mem hi) x hx)
 have hlt:=hmk.lt
 have hsz:=hmk.size
 unfold Us at hu2
 refine ⟨Q0,h.lk.set hi _,by rw [show ds0.length - (i+1) = m by omega];exact hgo,by rw [show ds0.length - (i+1) = m by omega];omega,fun k hk hlt2 hnb'=>?_⟩
 by_cases e : k = i
 ·subst e
  simp only [List.getElem_set_self]
  refine ⟨hin,?_⟩
  show r.1.size<=100000000000
  omega
 ·have hk' : k < ds.length:=by simpa using hk
  have eg : (ds.set i (ds[i].setBody r.1))[k] = ds[k]:=by rw [List.getElem_set_ne Q0]
  rw [eg] at hnb' ⊢
  have:=h.nm k hk' Q0 hnb'
  exact ⟨bt Q0 this.1,this.2⟩
end
theorem wV : ∀ (l : List Ex) (k : Nat) (x : Ex) (h : k < l.length),Ex.wts (l.set k x)+l[k].wt = Ex.wts l+x.wt
 | y::l,0,x,_=>by simp [Ex.wts];omega
 | y::l,k+1,x,h=>by
  have:=wV l k x (by simpa using h)
  simp only [List.set_cons_succ,List.getElem_cons_succ,Ex.wts]
  omega
theorem Ib (l : List Ex) {k : Nat} (hk : k < l.length) (x : Ex) : upd (l.flatMap Ex.enc) (k * 15+0) x.enc = (l.set k x).flatMap Ex.enc :=
 fG Ex.aM l hk (by rw [List.take_zero,List.nil_append,Ex.aM,Nat.zero_add,List.drop_of_length_le (by rw [Ex.aM];exact Nat.le_refl _),List.append_nil]) (by rw [Ex.aM];decide)
theorem ex_len (l : List Ex) : (l.flatMap Ex.enc).length = l.length * 15:=iS Ex.aM l
theorem ex_tail (x : Ex) (xs : List Ex) : sub ((x::xs).flatMap Ex.enc) (1 * 15) (xs.length * 15) = xs.flatMap Ex.enc:=by
 unfold sub
 rw [List.flatMap_cons,show 1 * 15 = x.enc.length by rw [Ex.aM],List.drop_left,List.take_of_length_le (by rw [ex_len];exact Nat.le_refl _)]
theorem xh {z k : Int} (hk : 1<=k) (h : InI z) : InI (z.tdiv k):=by
 unfold InI at *
 have key : ∀ m : Int,0<=m->0<=m.tdiv k/\m.tdiv k<=m:=fun m hm=>by
  rw [fu hm]
  exact ⟨Int.ediv_nonneg hm Q0,Int.ediv_le_self _ hm⟩
 rcases Int.le_total 0 z with h0 | h0
 ·have:=key z h0;omega
 ·have:=key (-z) Q0
  rw [Int.neg_tdiv] at this
  omega
def Ec (e : Ex) (at' : Int) (r : St') : Prop:=∃ (e' : Ex) (z : Int),r = [e'.enc,[vI z]]/\-1<=z/\z<=at'/\(z < 0->e'.wt<=e.wt+3)/\(0<=z->e'.wt<=e.wt)
theorem bent_is (e : Ex) : ∀ (at' by' : Int) (i : IdT),0<=at'->InI at'->InI by'->e.wt<=700000000000->∃ r,Ec e at' r/\IS Bi [e.enc,[vI at'],[vI by'],i.enc] r:=by
 have key : ∀ (n : Nat) (e : Ex),e.size = n->∀ (at' by' : Int) (i : IdT),0<=at'->InI at'->InI by'->e.wt<=700000000000->∃ r,Ec e at' r/\IS Bi [e.enc,[vI at'],[vI by'],i.enc] r:=by
  intro n
  induction n using Nat.strongRecOn with
  | _ n ih =>
  intro e hn at' by' i h0 ha hb hw
  subst hn
  have hwe:=Ex.bQ e
  have hkl : e.kids.length<=Ex.wts e.kids:=by
   have : ∀ l : List Ex,l.length<=Ex.wts l:=by
    intro l
    induction l with
    | nil=>exact Nat.le_refl _
    | cons x l ih=>have:=Ex.bQ x;rw [Ex.wts,List.length_cons];omega
   exact this _
  have hb9 : InI (by'.tdiv 9):=xh Q1 hb
  refine w127.some ?_ (by rintro r ⟨e',z,rfl,_⟩;exact trivial)
  unfold g127
  simp only [pmr,pms,Nat.zero_add]
  have fin : ∀ (l : List D) (e' : Ex),at' = 0->l = e'.enc->e'.wt<=e.wt+3->Ec e at' [l,[vI (-1)]]:=fun l e' hz hl h=>⟨e',-1,by rw [hl],Q0,Q0,fun _=>h,fun h=>absurd h Q1⟩
  refine ⟨fun hz=>⟨Qa,dA ?_⟩,fun hz=>⟨by unfold okI InI at *;omega,?_⟩⟩
  ·refine ai (bB Q0 hb) ?_
   simp only [pmr]
   have same : Ec e at' [e.enc,[vI (-1)]]:=fin _ e hz rfl Q0
   have a16:=bM (by'.tdiv 9) 16 Q1
   have a15:=bM (by'.tdiv 9) 15 Q1
   have a3:=bM (by'.tdiv 9) 3 Q1
   refine ⟨fun _=>⟨⟨Q1,hb9⟩,ai (bB Q0 hb9) ?_⟩,fun _=>⟨fun _=>⟨⟨Q1,hb9⟩,ai (bB Q0 hb9) ?_⟩,fun _=>⟨fun _=>?_,fun _=>⟨fun _=>⟨Qa,Qa,?_⟩,fun _=>⟨fun _=>⟨fun h=>⟨Q0,Qa,?_⟩,fun _=>same⟩,
    fun _=>⟨fun _=>⟨fun h=>⟨Q0,?_⟩,fun _=>same⟩,fun _=>⟨fun _=>⟨⟨Q1,hb9⟩,ai (bB Q0 hb9) ?_⟩,fun _=>⟨fun _=>?_,fun _=>⟨fun _=>⟨fun h=>⟨Q4,Q4,Q0,Q0,Q0,Q0,?_⟩,fun _=>same⟩,fun _=>same⟩⟩⟩⟩⟩⟩⟩⟩⟩
   ·simp only [pmr]
    exact ⟨Q4,fin _ (.mk e.id e.kind (around (by'.tdiv 9) 16 - 2) e.ref e.ty e.kids e.names) hz (by rw [Ex.aT];rfl) (by rw [Ex.bQ,hwe];show 1+e.ty.size+e.names.length+Ex.wts e.kids<=_;omega)⟩
   ·simp only [pmr]
    exact ⟨Q4,fin _ (.mk e.id (around (by'.tdiv 9) 15 - 1) e.n e.ref e.ty e.kids e.names) hz (by rw [Ex.aT];rfl) (by rw [Ex.bQ,hwe];show 1+e.ty.size+e.names.length+Ex.wts e.kids<=_;omega)⟩
   ·exact fin _ (.mk e.id e.kind e.n i e.ty e.kids e.names) hz (by rw [Ex.aT];rfl) (by rw [Ex.bQ,hwe];show 1+e.ty.size+e.names.length+Ex.wts e.kids<=_;omega)
   ·refine fin _ (.mk e.id e.kind e.n e.ref e.ty e.kids (e.names++[⟨#[120]⟩])) hz ?_ (by rw [Ex.bQ,hwe];show 1+e.ty.size+(e.names++[(⟨#[120]⟩ : ByteArray)]).length+Ex.wts e.kids<=_;rw [List.length_append,List.length_singleton];omega)
    rw [Ex.aT]
    show _ = [_,_,_,_,_,_,_,_,_,_,_,_,_,_,D.sl (e.names++[_]).length 1 ((e.names++[_]).map bA)]
    rw [List.length_append,List.map_append]
    rfl
   ·obtain ⟨x,xs,hx⟩ : ∃ x xs,e.names = x::xs:=by
     cases hk : e.names with
     | nil=>rw [hk] at h;simp at h
     | cons x xs=>exact ⟨x,xs,rfl⟩
    refine fin _ (.mk e.id e.kind e.n e.ref e.ty e.kids (⟨#[100,111]⟩::xs)) hz ?_ (by rw [Ex.bQ,hwe,hx];show 1+e.ty.size+(xs.length+1)+Ex.wts e.kids<=1+e.ty.size+(xs.length+1)+Ex.wts e.kids+3;omega)
    rw [Ex.aT,hx]
    show _ = [_,_,_,_,_,_,_,_,_,_,_,_,_,_,D.sl (_::xs).length 1 (_::xs.map bA)]
    have e1 : sub ((x::xs).map bA) (Int.toNat 1 * 1) (((x::xs).length - Int.toNat 1) * 1) = xs.map bA:=by
     show List.take ((xs.length+1 - 1) * 1) (xs.map bA) = _
     rw [Nat.add_sub_cancel,Nat.mul_one,List.take_of_length_le Q2]
    have e2 : 1+((x::xs).length - Int.toNat 1) = ((⟨#[100,111]⟩ : ByteArray)::xs).length:=by
     show 1+(xs.length+1 - 1) = xs.length+1
     omega
    rw [e1,e2]
    rfl
   ·obtain ⟨x,xs,hx⟩ : ∃ x xs,e.kids = x::xs:=by
     cases hk : e.kids with
     | nil=>rw [hk] at h;simp at h
     | cons x xs=>exact ⟨x,xs,rfl⟩
    have hwx : Ex.wts (x::xs) = x.wt+Ex.wts xs:=rfl
    refine fin _ (.mk e.id e.kind e.n e.ref e.ty xs e.names) hz ?_ (by rw [Ex.bQ,hwe,hx,hwx];show 1+e.ty.size+e.names.length+Ex.wts xs<=_;omega)
    rw [Ex.aT,hx]
    have e2 : (x::xs).length - Int.toNat 1 = xs.length:=by
     show xs.length+1 - 1 = xs.length
     omega
    rw [e2,show Int.toNat 1 = 1 from rfl,ex_tail]
    rfl
   ·simp only [pmr]
    refine ⟨Qa,fin _ (.mk e.id e.kind e.n e.ref e.ty (e.kids++[.mk ⟨6,2,around (by'.tdiv 9) 3⟩ 0 0 id0 ty0 [] []]) e.names) hz ?_ ?_⟩
    ·rw [Ex.aT]
     show _ = [_,_,_,_,_,_,_,_,_,_,_,_,_,D.sl (e.kids++[_]).length 15 ((e.kids++[_]).flatMap Ex.enc),_]
     rw [List.length_append,List.flatMap_append,List.flatMap_cons,List.flatMap_nil,List.append_nil,Ex.aT (.mk _ _ _ _ _ _ _),show (Ex.mk ⟨6,2,around (by'.tdiv 9) 3⟩ 0 0 id0 ty0 [] []).ty = ty0 from rfl]
     rfl
    ·rw [Ex.bQ,hwe]
     show 1+e.ty.size+e.names.length+Ex.wts (e.kids++[_])<=_
     rw [Ex.lP]
     show 1+e.ty.size+e.names.length+(Ex.wts e.kids+2)<=_
     omega
   ·have h1 : 1<=e.ty.size:=by rw [Ty.oc];omega
    refine fin _ (.mk e.id e.kind e.n e.ref (.mk 3 i []) e.kids e.names) hz (by rw [Ex.aT];rfl) (by rw [Ex.bQ,hwe];show 1+1+e.names.length+Ex.wts e.kids<=_;omega)
   ·have hk0 : 0 < e.kids.length:=Q0
    have hk1 : e.kids.length - 1 < e.kids.length:=Q0
    have e1 : ((e.kids.length : Int) - 1).toNat = e.kids.length - 1:=Q0
    have w1:=wV e.kids 0 (e.kids[e.kids.length - 1]) hk0
    have w2:=wV (e.kids.set 0 e.kids[e.kids.length - 1]) (e.kids.length - 1) e.kids[0] (by rw [List.length_set];exact hk1)
    have e3 : (e.kids.set 0 e.kids[e.kids.length - 1])[e.kids.length - 1]'(by rw [List.length_set];exact hk1) = e.kids[e.kids.length - 1]:=by
     rw [List.getElem_set]
     split
     ·rfl
     ·rfl
    rw [e3] at w2
    refine fin _ (.mk e.id e.kind e.n e.ref e.ty ((e.kids.set 0 e.kids[e.kids.length - 1]).set (e.kids.length - 1) e.kids[0]) e.names) hz ?_ (by rw [Ex.bQ,hwe];show 1+e.ty.size+e.names.length+Ex.wts ((e.kids.set 0 e.kids[e.kids.length - 1]).set (e.kids.length - 1) e.kids[0])<=_;omega)
    rw [Ex.aT,e1,lE _ hk1,lE _ hk0,Ib _ hk0,Ib _ (by rw [List.length_set];exact hk1)]
    show _ = [_,_,_,_,_,_,_,_,_,_,_,_,_,D.sl ((e.kids.set 0 _).set _ _).length 15 (((e.kids.set 0 _).set _ _).flatMap Ex.enc),_]
    rw [List.length_set,List.length_set]
    rfl
  ·refine dA ?_
   refine iX (σ:=Int×Nat×List Ex) (fun s=>[[vI s.1],[vI by'],[vI (s.2.1 : Int)],e.enc,i.enc,(Ex.mk id0 0 0 id0 ty0 [] []).enc,[.sl s.2.2.length 15 (s.2.2.flatMap Ex.enc)]]) (fun s=>e.kids.length - s.2.1)
    (fun s=>s.2.1<=e.kids.length/\s.2.2.length = s.2.1/\-1<=s.1/\s.1<=at' - 1/\(s.1 < 0->Ex.wts s.2.2<=Ex.wts (e.kids.take s.2.1)+3)/\(0<=s.1->Ex.wts s.2.2<=Ex.wts (e.kids.take s.2.1))) (at' - 1,0,[]) ⟨Nat.zero_le _,rfl,by dsimp only;omega,Int.le_refl _,fun _=>by simp [Ex.wts],fun _=>by simp [Ex.wts]⟩ (by
     dsimp only
     rw [Ex.aT (.mk id0 0 0 id0 ty0 [] [])]
     rfl) ?_
   rintro ⟨z,j,B⟩ next ⟨h1,h2,h3,h4,h5,h6⟩ hnext
   dsimp only at h1 h2 h3 h4 h5 h6 hnext ⊢
   simp only [pmr]
   refine ⟨fun h=>?_,fun h=>?_⟩
   ·have hk : j < e.kids.length:=Q0
    have hsz:=Ex.iu (List.getElem_mem hk)
    have hwm:=Ex.wW (List.getElem_mem hk)
    have hws:=Ex.sj hk
    rw [lE _ hk]
    refine ⟨Q0,dA ⟨fun h0z=>?_,fun h0z=>?_⟩⟩
    ·obtain ⟨r,⟨e',z',rfl,q1,q2,q3,q4⟩,hr⟩:=ih _ hsz e.kids[j] rfl z by' i h0z (by unfold InI at *;omega) hb Q0
     refine ai hr ?_
     simp only [pmr]
     have:=hnext (z',j+1,B++[e']) (by show e.kids.length - (j+1) < e.kids.length - j;omega) ⟨hk,by simp [h2],q1,by dsimp only;omega,fun hz'=>by
      dsimp only at hz' ⊢
      rw [Ex.lP,hws]
      have:=h6 h0z
      have:=q3 hz'
      show Ex.wts B+(e'.wt+0)<=_
      omega,fun hz'=>by
      dsimp only at hz' ⊢
      rw [Ex.lP,hws]
      have:=h6 h0z
      have:=q4 hz'
      show Ex.wts B+(e'.wt+0)<=_
      omega⟩
     refine ⟨Qa,Q4,?_⟩
     dsimp only at this
     rw [List.length_append,List.flatMap_append,List.flatMap_cons,List.flatMap_nil] at this
     exact this
    ·have hz1 : z = -1:=Q0
     simp only [pmr]
     have:=hnext (z,j+1,B++[e.kids[j]]) (by show e.kids.length - (j+1) < e.kids.length - j;omega) ⟨hk,by simp [h2],h3,h4,fun hz'=>by
      dsimp only at hz' ⊢
      rw [Ex.lP,hws]
      have:=h5 hz'
      show Ex.wts B+(e.kids[j].wt+0)<=_
      omega,fun hz'=>absurd hz' h0z⟩
     refine ⟨Qa,Q4,?_⟩
     dsimp only at this
     rw [List.length_append,List.flatMap_append,List.flatMap_cons,List.flatMap_nil] at this
     exact this
   ·obtain rfl : j = e.kids.length:=Q0
    rw [List.take_length] at h5 h6
    refine ⟨.mk e.id e.kind e.n e.ref e.ty B e.names,z,?_,h3,Q0,fun hz'=>?_,fun hz'=>?_⟩
    ·rw [Ex.aT (.mk _ _ _ _ _ _ _)]
     rfl
    ·rw [Ex.bQ,hwe]
     have:=h5 hz'
     show 1+e.ty.size+e.names.length+Ex.wts B<=_
     omega
    ·rw [Ex.bQ,hwe]
     have:=h6 hz'
     show 1+e.ty.size+e.names.length+Ex.wts B<=_
     omega
 exact key _ e rfl
end Go.Proofs.YtmbboaapillefaaGreatDoor

namespace Xe
open Go
theorem vo {Ts : Nat->Int} : ∀ (l : List Ex) (k : Nat),(∀ i (h : i < l.length),(l[i].wt : Int)+1+5 * Ts (k+i)<=5 * Ts (k+i+1))->(Ex.wts l : Int)+l.length+5 * Ts k<=5 * Ts (k+l.length)
 | [],k,_=>by simp [Ex.wts]
 | e::l,k,h=>by
  have h0:=h 0 Q2
  have h1:=vo l (k+1) fun i hi=>by
   have:=h (i+1) (by simpa using hi)
   simpa [Nat.add_assoc,Nat.add_comm 1 i] using this
  simp only [List.getElem_cons_zero,Nat.add_zero] at h0
  simp only [Ex.wts,List.length_cons]
  rw [show k+(l.length+1) = k+1+l.length by omega]
  omega
theorem Mk.wt {c : MkC} {t : Ty} {env : List Bnd} {T T' : Int} {e : Ex} (h : Mk c t env T e T') : (e.wt : Int)+1+5 * T<=5 * T':=by
 have row : ∀ {l : List Ex} {Ts : Nat->Int},(∀ i (h : i < l.length),(l[i].wt : Int)+1+5 * Ts i<=5 * Ts (i+1))->(Ex.wts l : Int)+l.length+5 * Ts 0<=5 * Ts l.length:=fun {l Ts} h=>by
  have:=vo (Ts:=Ts) l 0 fun i hi=>by rw [Nat.zero_add];exact h i hi
  simpa using this
 induction h with
 | int _=>rw [Ex.bQ];show ((1+1+0+0 : Nat) : Int)+1+_<=_;omega
 | bool _=>rw [Ex.bQ];show ((1+1+0+0 : Nat) : Int)+1+_<=_;omega
 | var _=>rw [Ex.bQ];show ((1+1+0+0 : Nat) : Int)+1+_<=_;omega
 | @list env T kids Ts _ h0 _ ih=>rw [Ex.bQ];have:=row ih;show ((1+1+0+Ex.wts kids : Nat) : Int)+1+_<=_;omega
 | @kase env T T1 d k e _ _ _ hm ih=>rw [Ex.bQ];show ((1+1+0+(e.wt+0) : Nat) : Int)+1+_<=_;omega
 | @recd env T d kids _ _ Ts _ h0 hm ih=>rw [Ex.bQ];have:=row ih;show ((1+1+0+Ex.wts kids : Nat) : Int)+1+_<=_;omega
 | @len env T T1 a hm ih=>rw [Ex.bQ];show ((1+1+0+(a.wt+0) : Nat) : Int)+1+_<=_;omega
 | @not env T T1 a hm ih=>rw [Ex.bQ];show ((1+1+0+(a.wt+0) : Nat) : Int)+1+_<=_;omega
 | @both t u env T T1 T2 n a b _ ha hb ih1 ih2=>rw [Ex.bQ];show ((1+1+0+(a.wt+(b.wt+0)) : Nat) : Int)+1+_<=_;omega
 | @ife t env T T1 T2 T3 a b e ha hb he ih1 ih2 ih3=>rw [Ex.bQ];show ((1+1+0+(a.wt+(b.wt+(e.wt+0))) : Nat) : Int)+1+_<=_;omega
 | @lete t u env T T1 T2 a b m ha hb ih1 ih2=>rw [Ex.bQ];show ((1+1+1+(a.wt+(b.wt+0)) : Nat) : Int)+1+_<=_;omega
 | @fold t env T T1 T2 T3 a b e m m2 ha hb he ih1 ih2 ih3=>rw [Ex.bQ];show ((1+1+2+(a.wt+(b.wt+(e.wt+0))) : Nat) : Int)+1+_<=_;omega
 | @mat t env T T1 d a kids ms _ _ Ts hl hms ha h0 hm ih1 ih=>rw [Ex.bQ];have:=row ih;show ((1+1+ms.length+(a.wt+Ex.wts kids) : Nat) : Int)+1+_<=_;omega
 | @field env T T1 d j a _ _ _ hm ih=>rw [Ex.bQ];show ((1+1+0+(a.wt+0) : Nat) : Int)+1+_<=_;omega
 | @call env T k kids _ _ _ Ts _ h0 hm ih=>rw [Ex.bQ];have:=row ih;show ((1+1+0+Ex.wts kids : Nat) : Int)+1+_<=_;omega
mutual
theorem C4 (ids : List IdT) : ∀ e : Ex,(jJ ids e).wt = e.wt
 | .mk i k n r t l s=>by rw [jJ,Ex.wt,Ex.wt,C3 ids l]
theorem C3 (ids : List IdT) : ∀ l : List Ex,Ex.wts (og ids l) = Ex.wts l
 | []=>rfl
 | e::es=>by rw [og,Ex.wts,Ex.wts,C4 ids e,C3 ids es]
end
theorem yY {ds : List DefT} {i k : Nat} {e : Ex} {d : DefT} (hi : ¬ bare (ds.getD i gQ)) (hk : ds[k]? = some d) (h : bare d) : (ds.set i ((ds.getD i gQ).setBody e))[k]? = some d:=by
 by_cases e' : i = k
 ·subst e'
  rw [List.getD_eq_getElem?_getD,hk] at hi
  exact absurd h hi
 ·rw [List.getElem?_set_ne e',hk]
theorem lJ (ms : List ModT) (l : List Int) {k : Nat} {d : DefT} (h : bare d) : ∀ (m i : Nat) (ds : List DefT) (s : MkS),ds[k]? = some d->(bg ms l m i ds s).1[k]? = some d
 | 0,_,_,_,hk=>hk
 | m+1,i,ds,s,hk=>by
  rw [bg]
  split
  ·exact lJ ms l h m (i+1) ds s hk
  ·rename_i hb
   exact lJ ms l h m (i+1) _ _ (yY hb hk h)
theorem sZ {k : Nat} {d : DefT} (h : bare d) : ∀ (m i : Nat) (ds : List DefT) (ids : List IdT) (nx : Int),ds[k]? = some d->(fM m i ds ids nx)[k]? = some d
 | 0,_,_,_,_,hk=>hk
 | m+1,i,ds,ids,nx,hk=>by
  rw [fM]
  split
  ·exact sZ h m (i+1) ds ids nx hk
  ·rename_i hb
   exact sZ h m (i+1) _ _ _ (yY hb hk h)
theorem tu : ∀ (ps : List PlanT) (i nx : Int),∀ d∈aF ps i nx,d.body = ex0
 | p::ps,i,nx,d,h=>by
  rw [aF] at h
  rcases List.mem_cons.1 h with rfl | h
  ·rfl
  ·exact tu ps _ _ d h
theorem wh {p : ProgT} {t : Ty} (h : gTy p t) : t.size<=2:=by
 rcases h with rfl | rfl | rfl | ⟨d,_,_,rfl⟩ <;> first | decide | exact (show (1 : Nat)<=2 by decide)
structure Fair (p : ProgT) : Prop where
 d : p.defs.length<=1000
 m : p.mods.length<=1000
 u : ∀ m∈p.mods,m.uses.length<=1000/\m.defs.length<=1000
 w : ∀ d∈p.defs,d.wt<=600000000000
theorem F7 {l : List SlotT} (h : ∀ s∈l,s.ty.size<=2) : bx l<=3 * l.length:=by
 induction l with
 | nil=>simp [bx]
 | cons s l ih =>
  have:=ih fun x hx=>h x (List.mem_cons_of_mem _ hx)
  have:=h s (List.mem_cons_self ..)
  rw [bx,List.length_cons];omega
theorem l6 (l : List Int) : Fair (fP l):=by
 obtain ⟨N,hN,hlk,hnm⟩:=nw l
 have hn:=(Bp l).nm
 have hlen:=hlk.len
 have h8 : (aL l).length<=8:=by unfold aL;rw [bV];exact (dw l (aq l)).2
 refine ⟨Q0,?_,?_,fun d hd=>?_⟩
 ·show (cg l).length<=1000
  unfold cg
  split <;> simp
 ·have h5 : ∀ (m : Int) (ps : List PlanT) (i : Int),(aV m ps i).length<=ps.length:=by
   intro m ps
   induction ps with
   | nil=>intro i;simp [aV]
   | cons p ps ih =>
    intro i
    have:=ih (i+1)
    rw [aV,List.length_append,List.length_cons]
    split <;> simp <;> omega
  have h6:=(dw l 1).2
  have h7:=(dw l 2).2
  show ∀ m∈cg l,m.uses.length<=1000/\m.defs.length<=1000
  unfold cg
  split
  ·intro m hm
   rw [List.mem_singleton.1 hm]
   have:=h5 0 (aN l 1) 1
   exact ⟨Q2,by show (aV 0 (aN l 1) 1).length<=1000;omega⟩
  ·intro m hm
   rcases List.mem_cons.1 hm with rfl | hm
   ·have:=h5 0 (aN l 2) 2
    exact ⟨Q2,by show (aV 0 (aN l 2) 2).length<=1000;omega⟩
   ·rw [List.mem_singleton.1 hm]
    have:=h5 1 (aN l 2) 2
    exact ⟨Q2,by show (aV 1 (aN l 2) 2).length<=1000;omega⟩
 ·obtain ⟨e,he,hsh⟩:=hlk.mem hd
  have hsl : d.slots.length<=100:=by
   have:=few0 l e he
   rw [(cw hsh).2.2.2.2.1];omega
  have h1:=F7 fun s hs=>wh (hn.gs d hd s hs)
  have h2:=wh (hn.gr d hd)
  have hb : d.body.wt<=500000000000:=by
   obtain ⟨k,hk,rfl⟩:=List.mem_iff_getElem.1 hd
   by_cases hb : bare (fP l).defs[k]
   ·have hk0 : k < (aL l).length:=Q0
    have hb0 : bare (aL l)[k]:=(bare_sh (cw (hlk.get hk hk0)).2.1).1 hb
    have h8 : (iD l).1[k]? = some (aL l)[k]:=lJ (cg l) l hb0 (aL l).length 0 (aL l) ⟨24,0,0,0⟩ (List.getElem?_eq_getElem hk0)
    have h9 : (fP l).defs[k]? = some (aL l)[k]:=sZ hb0 (aL l).length 0 (iD l).1 (List.replicate (iD l).2.temp.toNat id0) (gJ l) h8
    rw [List.getElem?_eq_getElem hk,Option.some.injEq] at h9
    rw [h9,tu _ _ _ _ (List.getElem_mem hk0)]
    have : ex0.wt = 2:=rfl
    omega
   ·obtain ⟨e,T,T',ids,nx,⟨c,_,_,_,_,_,h0,hmk⟩,hT,_,_,_,hbd⟩:=hnm k hk hb
    rw [hbd,C4]
    have:=hmk.wt
    omega
  unfold DefT.wt
  omega
end Xe

namespace Go.Proofs.YtmbboaapillefaaGreatDoor
open Xe Pm
theorem AM (e : Ex) (at' by' : Int) (i : IdT) (h0 : 0<=at') (ha : InI at') (hb : InI by') (hw : e.wt<=700000000000) : ∃ e' : Ex,e'.wt<=e.wt+3/\IS s36 [e.enc,[vI at'],[vI by'],i.enc] [e'.enc]:=by
 obtain ⟨r,⟨e',z,rfl,h1,h2,h3,h4⟩,h⟩:=bent_is e at' by' i h0 ha hb hw
 refine ⟨e',?_,w36.is ?_⟩
 ·by_cases hz : z < 0
  ·exact h3 hz
  ·have:=h4 Q0;omega
 ·unfold g36
  simp only [pmr]
  refine ai h ?_
  simp only [pmr]
abbrev dMs (l : List ModT) : D:=.sl l.length 6 (l.flatMap ModT.enc)
abbrev dDs (l : List DefT) : D:=.sl l.length 31 (l.flatMap DefT.enc)
theorem Eg (p : ProgT) (i : IdT) : an p i∈p.defs\/an p i = gQ:=by
 unfold an
 cases h : p.defs.find? fun d=>decide (d.id = i) with
 | none=>exact .inr rfl
 | some d=>exact .inl (List.mem_of_find?_eq_some h)
theorem kH {p : ProgT} (hd : p.defs.length<=1000) (hw : ∀ d∈p.defs,d.wt<=800000000000) : Small p:=⟨hd,fun j=>by
 rcases Eg p j with h | h
 ·exact hw _ h
 ·rw [h];have : gQ.wt = 3:=rfl;omega⟩
def SpR (p : ProgT) (r : St') : Prop:=∃ q : ProgT,Small q/\(∀ d∈q.defs,∃ d0∈p.defs,d.id = d0.id)/\r = [[dMs q.mods],[dDs q.defs]]
theorem def_upd (l : List DefT) {k : Nat} (hk : k < l.length) (x : DefT) : upd (l.flatMap DefT.enc) (k * 31+0) x.enc = (l.set k x).flatMap DefT.enc :=
 fG DefT.aM l hk (by rw [List.take_zero,List.nil_append,DefT.aM,Nat.zero_add,List.drop_of_length_le (by rw [DefT.aM];exact Nat.le_refl _),List.append_nil]) (by rw [DefT.aM];decide)
theorem pR : ∀ (l : List SlotT) (k : Nat) (x : SlotT) (h : k < l.length),bx (l.set k x)+l[k].ty.size = bx l+x.ty.size
 | y::l,0,x,_=>by simp [bx];omega
 | y::l,k+1,x,h=>by
  have:=pR l k x (by simpa using h)
  simp only [List.set_cons_succ,List.getElem_cons_succ,bx]
  omega
mutual
theorem nL : ∀ e : Ex,e.size<=e.wt
 | .mk i k n r t l ns=>by have:=qL l;rw [Ex.size,Ex.wt];omega
theorem qL : ∀ l : List Ex,Ex.sizes l<=Ex.wts l
 | []=>Nat.le_refl _
 | e::l=>by have:=nL e;have:=qL l;rw [Ex.sizes,Ex.wts];omega
end
theorem B5 (a b c d e : ByteArray) {z : Int} (h : 0<=z/\z < 5) : ∃ s,cell (el [bA a,bA b,bA c,bA d,bA e] 1 z.toNat) 0 = bA s:=by
 have hk : z.toNat < [a,b,c,d,e].length:=by show z.toNat < 5;omega
 have:=lD (f:=bA) [a,b,c,d,e] hk
 exact ⟨_,by rw [show [bA a,bA b,bA c,bA d,bA e] = [a,b,c,d,e].map bA from rfl,this];rfl⟩
theorem four' (a b c d : ByteArray) {z : Int} (h : 0<=z/\z < 4) : ∃ s,cell (el [bA a,bA b,bA c,bA d] 1 z.toNat) 0 = bA s:=by
 have hk : z.toNat < [a,b,c,d].length:=by show z.toNat < 4;omega
 have:=lD (f:=bA) [a,b,c,d] hk
 exact ⟨_,by rw [show [bA a,bA b,bA c,bA d] = [a,b,c,d].map bA from rfl,this];rfl⟩
theorem Ep (l : List SlotT) {k : Nat} (hk : k < l.length) (s : ByteArray) : upd (l.flatMap SlotT.enc) (k * 11+3) [bA s] = (l.set k ⟨l[k].id,s,l[k].ty,l[k].most,l[k].place⟩).flatMap SlotT.enc:=fG SlotT.aM l hk rfl (by show 3+1<=11;decide)
theorem Eo (l : List SlotT) {k : Nat} (hk : k < l.length) (i : IdT) : upd (l.flatMap SlotT.enc) (k * 11+4) [vI 3,aj i.shop,aj i.seq,aj i.index,.sl 0 5 []] = (l.set k ⟨l[k].id,l[k].name,.mk 3 i [],l[k].most,l[k].place⟩).flatMap SlotT.enc:=fG SlotT.aM l hk rfl (by show 4+5<=11;decide)
theorem A9 (l : List SlotT) {k : Nat} (hk : k < l.length) (s : ByteArray) : ∃ L : List SlotT,upd (l.flatMap SlotT.enc) (k * 11+3) [bA s] = L.flatMap SlotT.enc/\L.length = l.length/\bx L<=bx l+1:=by
 refine ⟨_,Ep l hk s,by rw [List.length_set],?_⟩
 have:=pR l k ⟨l[k].id,s,l[k].ty,l[k].most,l[k].place⟩ hk
 dsimp only at this
 omega
theorem A8 (l : List SlotT) {k : Nat} (hk : k < l.length) (i : IdT) : ∃ L : List SlotT,upd (l.flatMap SlotT.enc) (k * 11+4) [vI 3,aj i.shop,aj i.seq,aj i.index,.sl 0 5 []] = L.flatMap SlotT.enc/\L.length = l.length/\bx L<=bx l+1:=by
 refine ⟨_,Eo l hk i,by rw [List.length_set],?_⟩
 have:=pR l k ⟨l[k].id,l[k].name,.mk 3 i [],l[k].most,l[k].place⟩ hk
 have hty : (Ty.mk 3 i []).size = 1:=rfl
 dsimp only at this
 omega
theorem Hh (l : List ModT) {k : Nat} (hk : k < l.length) (s : ByteArray) : upd (l.flatMap ModT.enc) (k * 6+3) [bA s] = (l.set k ⟨l[k].id,s,l[k].uses,l[k].defs⟩).flatMap ModT.enc:=fG ModT.aM l hk rfl (by show 3+1<=6;decide)
theorem zJ (l : List ModT) {k : Nat} (hk : k < l.length) (u : List IdT) : upd (l.flatMap ModT.enc) (k * 6+4) [dI u] = (l.set k ⟨l[k].id,l[k].name,u,l[k].defs⟩).flatMap ModT.enc:=fG ModT.aM l hk rfl (by show 4+1<=6;decide)
theorem Hi (l : List ModT) {k : Nat} (hk : k < l.length) (u : List IdT) : upd (l.flatMap ModT.enc) (k * 6+5) [dI u] = (l.set k ⟨l[k].id,l[k].name,l[k].uses,u⟩).flatMap ModT.enc:=fG ModT.aM l hk rfl (by show 5+1<=6;decide)
theorem A6 (l : List SlotT) (n : Nat) : sub (l.flatMap SlotT.enc) (0 * 11) (n * 11) = (l.take n).flatMap SlotT.enc:=by
 unfold sub
 rw [Nat.zero_mul,List.drop_zero]
 induction l generalizing n with
 | nil=>simp
 | cons x l ih =>
  cases n with
  | zero=>simp
  | succ n =>
   rw [List.flatMap_cons,List.take_succ_cons,List.flatMap_cons,<-ih n,Nat.add_mul,Nat.one_mul,Nat.add_comm,show 11 = x.enc.length from rfl,List.take_length_add_append]
theorem Ba (l : List SlotT) (n : Nat) : bx (l.take n)<=bx l:=by
 induction l generalizing n with
 | nil=>simp
 | cons t l ih =>
  cases n with
  | zero=>simp [bx]
  | succ k=>have:=ih k;simp only [List.take_succ_cons,bx];omega
theorem wF (l : List DefT) (n : Nat) : (l.flatMap DefT.enc).take (n * 31) = (l.take n).flatMap DefT.enc:=by
 induction l generalizing n with
 | nil=>simp
 | cons x l ih =>
  cases n with
  | zero=>simp
  | succ n =>
   rw [List.flatMap_cons,List.take_succ_cons,List.flatMap_cons,<-ih n,Nat.add_mul,Nat.one_mul,Nat.add_comm,show 31 = x.enc.length from rfl,List.take_length_add_append]
theorem FD (l : List DefT) (n : Nat) : (l.flatMap DefT.enc).drop (n * 31) = (l.drop n).flatMap DefT.enc:=by
 induction l generalizing n with
 | nil=>simp
 | cons x l ih =>
  cases n with
  | zero=>simp
  | succ n =>
   rw [List.flatMap_cons,List.drop_succ_cons,<-ih n,Nat.add_mul,Nat.one_mul,Nat.add_comm,show 31 = x.enc.length from rfl,List.drop_length_add_append]
theorem vw {p : ProgT} (hp : Xe.Fair p) {at' how by' : Int} (ha : InI at') (hh : InI how) (hb : InI by') : ∃ r,SpR p r/\IS s9 [p.enc,[vI at'],[vI how],[vI by']] r:=by
 have hd:=hp.d
 have hm:=hp.m
 refine w9.someG ?_ (by rintro r ⟨q,_,_,rfl⟩;exact trivial)
 unfold g9
 have hc0 : cell p.enc 0 = dMs p.mods:=rfl
 have hc1 : cell p.enc 1 = dDs p.defs:=rfl
 simp only [pmr,Nat.zero_add,hc0,hc1]
 have same : SpR p [[dMs p.mods],[dDs p.defs]]:=⟨p,kH hd fun d h=>by have:=hp.w d h;omega,fun d h=>⟨d,h,rfl⟩,rfl⟩
 have h8 : InI (by'.tdiv 8):=xh Q1 hb
 have h9 : InI (at'.tdiv 9):=xh Q1 ha
 refine ⟨Qa,Qa,fun _=>same,fun hd0=>⟨fun _=>same,fun hm0=>ai (bB Q0 ha) ?_⟩⟩
 simp only [pmr]
 refine ai (bB Q0 ha) ?_
 simp only [pmr]
 have b1:=bM at' p.defs.length Q0
 have b2:=bM at' p.mods.length Q0
 have b4:=bM by' p.defs.length Q0
 obtain ⟨k,hk,ek⟩ : ∃ k : Nat,k < p.defs.length/\around at' p.defs.length = (k : Int):=⟨(around at' p.defs.length).toNat,Q0,Q0⟩
 obtain ⟨m,hmk,em⟩ : ∃ k : Nat,k < p.mods.length/\around at' p.mods.length = (k : Int):=⟨(around at' p.mods.length).toNat,Q0,Q0⟩
 obtain ⟨o,ho,eo⟩ : ∃ k : Nat,k < p.defs.length/\around by' p.defs.length = (k : Int):=⟨(around by' p.defs.length).toNat,Q0,Q0⟩
 rw [ek,em]
 rw [Int.toNat_natCast,fR _ hk]
 have hwd:=hp.w _ (List.getElem_mem hk)
 have hwe : (p.defs[k]).wt = p.defs[k].result.size+bx p.defs[k].slots+p.defs[k].body.wt:=rfl
 have hslw:=lU p.defs[k].slots
 simp only [pmr,pms]
 have b3:=bM (at'.tdiv 9) (max 1 (p.defs[k].slots.length : Int)) Q0
 refine ⟨Q0,Qa,⟨Q1,h9⟩,ai (bB Q0 h9) ?_⟩
 simp only [pmr]
 refine ai (bB Q0 hb) ?_
 simp only [pmr]
 rw [eo,Int.toNat_natCast,fR _ ho]
 refine ⟨Q0,dA (ai (bB Q0 hh) ?_)⟩
 simp only [pmr]
 have k0 : 0<=(k : Int)/\(k : Int) < (p.defs.length : Int):=Q0
 have m0 : 0<=(m : Int)/\(m : Int) < (p.mods.length : Int):=Q0
 have fin : ∀ (D' : List D) (d' : DefT) (ms : List ModT) (MD : D),MD = dMs ms->D' = d'.enc->d'.wt<=700000000000->(∃ d0∈p.defs,d'.id = d0.id)->SpR p [[MD],[.sl p.defs.length 31 (upd (p.defs.flatMap DefT.enc) (k * 31+0) D')]]:=fun D' d' ms MD h1 h2 h3 h4=>by
  refine ⟨⟨ms,p.defs.set k d'⟩,kH (by rw [List.length_set];exact hd) fun d h=>?_,fun d h=>?_,?_⟩
  ·rcases List.mem_or_eq_of_mem_set h with h | h
   ·have:=hp.w d h;omega
   ·rw [h];omega
  ·rcases List.mem_or_eq_of_mem_set h with h | h
   ·exact ⟨d,h,rfl⟩
   ·rw [h];exact h4
  ·rw [h1,h2,def_upd _ hk]
   show _ = [[dMs ms],[.sl (p.defs.set k d').length 31 ((p.defs.set k d').flatMap DefT.enc)]]
   rw [List.length_set]
 generalize hdk : p.defs[k] = d at hwd hwe hslw b3 ⊢
 have hid : ∃ d0∈p.defs,d.id = d0.id:=⟨p.defs[k],List.getElem_mem hk,by rw [hdk]⟩
 have fin0 : ∀ (D' : List D) (d' : DefT),D' = d'.enc->d'.wt<=700000000000->(hi : (∃ d0∈p.defs,d'.id = d0.id):=by exact hid)->(0<=(k : Int)/\(k : Int) < (p.defs.length : Int))/\SpR p [[dMs p.mods],[.sl p.defs.length 31 (upd (p.defs.flatMap DefT.enc) (k * 31+0) D')]]:=fun D' d' h1 h2 h4=>⟨k0,fin D' d' p.mods _ rfl h1 h2 h4⟩
 have finM : ∀ (D' : List D) (ms : List ModT) (MD : D),MD = dMs ms->D' = d.enc->(0<=(k : Int)/\(k : Int) < (p.defs.length : Int))/\SpR p [[MD],[.sl p.defs.length 31 (upd (p.defs.flatMap DefT.enc) (k * 31+0) D')]]:=fun D' ms MD h1 h2=>⟨k0,fin D' d ms _ h1 h2 Q0 hid⟩
 have a85:=bM (by'.tdiv 8) 5 Q1
 have a4:=bM by' 4 Q1
 have a7:=bM by' 7 Q1
 refine ⟨fun _=>?_,fun _=>⟨fun _=>?_,fun _=>⟨fun _=>?_,fun _=>⟨fun _=>?_,fun _=>⟨fun _=>?_,fun _=>⟨fun _=>?_,fun _=>⟨fun _=>?_,fun _=>⟨fun _=>?_,fun _=>⟨fun _=>?_,fun _=>⟨fun _=>?_,fun _=>⟨fun _=>?_,fun _=>⟨fun _=>?_,fun _=>⟨fun _=>?_,fun _=>⟨fun _=>?_,fun _=>⟨fun _=>?_,fun _=>⟨fun _=>?_,fun _=>?_⟩⟩⟩⟩⟩⟩⟩⟩⟩⟩⟩⟩⟩⟩⟩⟩
 ·refine ⟨⟨Q1,h8⟩,ai (bB Q0 h8) ?_⟩
  simp only [pmr]
  obtain ⟨s,hs⟩ : ∃ s,cell (el [vS (ByteArray.mk #[]),vS (ByteArray.mk #[105,102]),cell p.defs[o].enc 7,vS (ByteArray.mk #[97,32,98]),vS (ByteArray.mk #[102,105,110,101,55])] 1 (around (by'.tdiv 8) 5).toNat) 0 = bA s:=B5 _ _ p.defs[o].name _ _ a85
  rw [hs]
  exact ⟨a85,fin0 _ ⟨d.id,d.kind,d.mod,s,d.slots,d.result,d.body,d.place,d.layout⟩ rfl (by show d.result.size+bx d.slots+d.body.wt<=_;omega)⟩
 ·refine ⟨Q0,⟨Q1,h8⟩,ai (bB Q0 h8) ?_⟩
  simp only [pmr]
  rw [Ax _ (show 0 < p.mods.length by omega)]
  obtain ⟨s,hs⟩ : ∃ s,cell (el [vS (ByteArray.mk #[]),vS (ByteArray.mk #[105,110]),cell (p.mods[0]'Q0).enc 3,vS (ByteArray.mk #[57]),vS (ByteArray.mk #[102,105,110,101,55])] 1 (around (by'.tdiv 8) 5).toNat) 0 = bA s:=B5 _ _ (p.mods[0]'Q0).name _ _ a85
  rw [hs,Hh _ hmk]
  exact ⟨a85,m0,finM _ _ _ (by unfold dMs;rw [List.length_set]) rfl⟩
 ·refine ⟨fun h=>⟨Q0,ai (bB Q0 hb) ?_⟩,fun _=>fin0 _ d rfl Q0⟩
  simp only [pmr]
  rw [pe _ (show 0 < d.slots.length by omega)]
  obtain ⟨s,hs⟩ : ∃ s,cell (el [vS (ByteArray.mk #[]),vS (ByteArray.mk #[108,101,116]),cell (d.slots[0]'Q0).enc 3,vS (ByteArray.mk #[95])] 1 (around by' 4).toNat) 0 = bA s:=four' _ _ (d.slots[0]'Q0).name _ a4
  have hsk : (around (at'.tdiv 9) (max 1 (d.slots.length : Int))).toNat < d.slots.length:=Q0
  obtain ⟨L,q1,q2,q3⟩:=A9 d.slots hsk s
  rw [hs,q1]
  exact ⟨a4,Q0,fin0 _ ⟨d.id,d.kind,d.mod,d.name,L,d.result,d.body,d.place,d.layout⟩ (by rw [<-q2];rfl) (by
   show d.result.size+bx L+d.body.wt<=_
   omega)⟩
 ·refine ⟨m0,finM _ _ _ (show _ = dMs (p.mods.set m ⟨p.mods[m].id,p.mods[m].name,[],p.mods[m].defs⟩) from ?_) rfl⟩
  have:=zJ p.mods hmk []
  unfold dMs
  rw [List.length_set,<-this]
  rfl
 ·have hcu : cell (p.mods[m]).enc 4 = dI p.mods[m].uses:=rfl
  have hu:=(hp.u _ (List.getElem_mem hmk)).1
  rw [Ax _ hmk,Ax _ (show 0 < p.mods.length by omega)]
  simp only [pmr,pms,hcu]
  refine ⟨m0,Qa,Q0,Qa,m0,finM _ _ _ (show _ = dMs (p.mods.set m ⟨p.mods[m].id,p.mods[m].name,p.mods[m].uses++[(p.mods[0]'Q0).id],p.mods[m].defs⟩) from ?_) rfl⟩
  rw [gd,zJ _ hmk]
  unfold dMs
  rw [List.length_set]
 ·refine ⟨fun h=>?_,fun _=>fin0 _ d rfl Q0⟩
  have hsk : (around (at'.tdiv 9) (max 1 (d.slots.length : Int))).toNat < d.slots.length:=Q0
  have e1 : [vI 3,cell (sub p.defs[o].enc 0 3) 0,cell (sub p.defs[o].enc 0 3) 1,cell (sub p.defs[o].enc 0 3) (1+1),D.sl 0 5 []] = [vI 3,aj p.defs[o].id.shop,aj p.defs[o].id.seq,aj p.defs[o].id.index,.sl 0 5 []]:=rfl
  obtain ⟨L,q1,q2,q3⟩:=A8 d.slots hsk p.defs[o].id
  rw [e1,q1]
  exact ⟨Q0,fin0 _ ⟨d.id,d.kind,d.mod,d.name,L,d.result,d.body,d.place,d.layout⟩ (by rw [<-q2];rfl) (by
   show d.result.size+bx L+d.body.wt<=_
   omega)⟩
 ·exact fin0 _ ⟨d.id,d.kind,d.mod,d.name,d.slots,.mk 3 p.defs[o].id [],d.body,d.place,d.layout⟩ rfl (by show 1+bx d.slots+d.body.wt<=_;omega)
 ·refine ai (bB Q0 hb) ?_
  simp only [pmr]
  exact ⟨Q4,fin0 _ ⟨d.id,around by' 7 - 1,d.mod,d.name,d.slots,d.result,d.body,d.place,d.layout⟩ rfl (by show d.result.size+bx d.slots+d.body.wt<=_;omega)⟩
 ·have e1 : ((d.slots.length : Int).tdiv 2) = ((d.slots.length / 2 : Nat) : Int):=by rw [fu Q0];omega
  rw [e1]
  have e2 : (((d.slots.length / 2 : Nat) : Int).toNat - Int.toNat 0) = d.slots.length / 2:=by show _ - 0 = _;omega
  have e3 : Int.toNat 0 = 0:=rfl
  rw [e2,e3,A6]
  have hw2:=Ba d.slots (d.slots.length / 2)
  refine ⟨⟨Q1,Q4⟩,Q0,fin0 _ ⟨d.id,d.kind,d.mod,d.name,d.slots.take (d.slots.length / 2),d.result,d.body,d.place,d.layout⟩ ?_ (by show d.result.size+bx (d.slots.take (d.slots.length / 2))+d.body.wt<=_;omega)⟩
  show _ = [_,_,_,_,_,_,_,_,D.sl (d.slots.take (d.slots.length / 2)).length 11 ((d.slots.take (d.slots.length / 2)).flatMap SlotT.enc),_,_,_,_,_,_,_,_,_,_,_,_,_,_,_,_,_,_,_,_,_,_]
  rw [List.length_take,Nat.min_eq_left Q0]
  rfl
 ·exact fin0 _ ⟨p.defs[o].id,d.kind,d.mod,d.name,d.slots,d.result,d.body,d.place,d.layout⟩ rfl (by show d.result.size+bx d.slots+d.body.wt<=_;omega) ⟨p.defs[o],List.getElem_mem ho,rfl⟩
 ·exact fin0 _ ⟨d.id,d.kind,⟨6,1,0⟩,d.name,d.slots,d.result,d.body,d.place,d.layout⟩ rfl (by show d.result.size+bx d.slots+d.body.wt<=_;omega)
 ·have e1 : ((k : Int)+1).toNat = k+1:=Q0
  have t1 : (p.defs.drop (k+1)).take (p.defs.length - (k+1)) = p.defs.drop (k+1):=List.take_of_length_le Q2
  have e2 : sub (p.defs.flatMap DefT.enc) (0 * 31) ((k - 0) * 31)++sub (p.defs.flatMap DefT.enc) ((k+1) * 31) ((p.defs.length - (k+1)) * 31) = (p.defs.eraseIdx k).flatMap DefT.enc:=by
   unfold sub
   rw [Nat.zero_mul,List.drop_zero,Nat.sub_zero,wF,FD,wF,t1,List.eraseIdx_eq_take_drop_succ,List.flatMap_append]
  have e3 : k - 0+(p.defs.length - (k+1)) = (p.defs.eraseIdx k).length:=by rw [List.length_eraseIdx,if_pos hk];omega
  have e4 : (p.defs.eraseIdx k).length<=1000:=by rw [List.length_eraseIdx,if_pos hk];omega
  rw [e1,e2,e3]
  exact ⟨Q0,Qa,Q4,Q0,Qa,⟨p.mods,p.defs.eraseIdx k⟩,kH e4 fun x hx=>by have:=hp.w x (List.mem_of_mem_eraseIdx hx);omega,fun x hx=>⟨x,List.mem_of_mem_eraseIdx hx,rfl⟩,rfl⟩
 ·have hcu : cell (p.mods[m]).enc 5 = dI p.mods[m].defs:=rfl
  have hu:=(hp.u _ (List.getElem_mem hmk)).2
  rw [Ax _ hmk]
  simp only [pmr,hcu]
  have e1 : ((p.mods[m].defs.length : Int).tdiv 2) = ((p.mods[m].defs.length / 2 : Nat) : Int):=by rw [fu Q0];omega
  rw [e1]
  have e2 : (((p.mods[m].defs.length / 2 : Nat) : Int).toNat - Int.toNat 0) = p.mods[m].defs.length / 2:=by show _ - 0 = _;omega
  have e3 : Int.toNat 0 = 0:=rfl
  have e4 : D.sl (p.mods[m].defs.length / 2) 3 (sub (p.mods[m].defs.flatMap IdT.enc) (0 * 3) (p.mods[m].defs.length / 2 * 3)) = dI (p.mods[m].defs.take (p.mods[m].defs.length / 2)):=by
   unfold sub dI
   rw [Nat.zero_mul,List.drop_zero,js,List.length_take,Nat.min_eq_left Q0]
  rw [e2,e3,e4,Hi _ hmk]
  exact ⟨m0,m0,⟨Q1,Q4⟩,Q0,m0,finM _ _ _ (by unfold dMs;rw [List.length_set]) rfl⟩
 ·have hbE : cls d.enc 14 15 [] = d.body.enc:=by rw [Ex.aT];rfl
  have hbs:=nL d.body
  have hbp:=Ex.size_pos d.body
  have hio : sub p.defs[o].enc 0 3 = p.defs[o].id.enc:=rfl
  simp only [pmr] at hbE
  rw [hbE,hio]
  refine ⟨⟨Q1,h9⟩,ai (xq d.body Q0) ?_⟩
  simp only [pmr]
  refine ai (bB Q0 h9) ?_
  simp only [pmr]
  have ab:=bM (at'.tdiv 9) (d.body.size : Int) Q0
  obtain ⟨e',q1,q2⟩:=AM d.body (around (at'.tdiv 9) (d.body.size : Int)) by' p.defs[o].id ab.1 (by unfold InI;omega) hb Q0
  refine ai q2 ?_
  simp only [pmr]
  exact fin0 _ ⟨d.id,d.kind,d.mod,d.name,d.slots,d.result,e',d.place,d.layout⟩ rfl (by show d.result.size+bx d.slots+e'.wt<=_;omega)
 ·have hbE : cls d.enc 14 15 [] = d.body.enc:=by rw [Ex.aT];rfl
  have hbs:=nL d.body
  have hbp:=Ex.size_pos d.body
  have hio : cls d.enc 0 3 [] = d.id.enc:=rfl
  simp only [pmr] at hio
  simp only [pmr] at hbE
  rw [hbE,hio]
  refine ⟨⟨Q1,h9⟩,ai (xq d.body Q0) ?_⟩
  simp only [pmr]
  refine ai (bB Q0 h9) ?_
  simp only [pmr]
  have ab:=bM (at'.tdiv 9) (d.body.size : Int) Q0
  obtain ⟨e',q1,q2⟩:=AM d.body (around (at'.tdiv 9) (d.body.size : Int)) by' d.id ab.1 (by unfold InI;omega) hb Q0
  refine ai q2 ?_
  simp only [pmr]
  exact fin0 _ ⟨d.id,d.kind,d.mod,d.name,d.slots,d.result,e',d.place,d.layout⟩ rfl (by show d.result.size+bx d.slots+e'.wt<=_;omega)
 ·exact fin0 _ ⟨d.id,d.kind,d.mod,d.name,d.slots,d.result,d.body,by',d.layout⟩ rfl (by show d.result.size+bx d.slots+d.body.wt<=_;omega)
 ·exact fin0 _ d rfl Q0
set_option maxHeartbeats 1000000
section
variable {l : List Int} {K : St'->Prop}
structure RI (ds0 : List DefT) (N : Nat) (out : List DefT) (i : Nat) (ds : List DefT) (ids : List IdT) (nx : Int) : Prop where
 le : i<=ds0.length
 lk : dm ds ds0
 go : fM (ds0.length - i) i ds ids nx = out
 len : ids.length = N
 nx0 : 0<=nx
 nx1 : nx+(ds0.length - i : Nat) * 1000000000000<=100000000000000
 nm : ∀ k (hk : k < ds.length),i<=k->¬ bare ds[k]->inB N ds[k].body/\ds[k].body.size<=100000000000
theorem RI.skip {ds0 ds out : List DefT} {N i : Nat} {ids : List IdT} {nx : Int} (h : RI ds0 N out i ds ids nx) (hi : i < ds.length) (hb : bare ds[i]) : RI ds0 N out (i+1) ds ids nx:=by
 have hlen:=h.lk.len
 have hle:=h.le
 obtain ⟨m,hm⟩ : ∃ m,ds0.length - i = m+1:=⟨ds0.length - i - 1,Q0⟩
 have hgo:=h.go
 have hnx:=h.nx1
 rw [hm] at hgo hnx
 rw [fM,o4 hi,if_pos hb] at hgo
 exact ⟨Q0,h.lk,by rw [show ds0.length - (i+1) = m by omega];exact hgo,h.len,h.nx0,by rw [show ds0.length - (i+1) = m by omega];omega,fun k hk hlt=>h.nm k hk Q0⟩
theorem RI.step {ds0 ds out : List DefT} {N i : Nat} {ids : List IdT} {nx : Int} (h : RI ds0 N out i ds ids nx) (hi : i < ds.length) (hnb : ¬ bare ds[i]) :
  RI ds0 N out (i+1) (ds.set i (ds[i].setBody (jJ (b8 ids ds[i].body.post nx) ds[i].body))) (b8 ids ds[i].body.post nx) (nx+ds[i].body.post.length):=by
 have hlen:=h.lk.len
 have hle:=h.le
 obtain ⟨m,hm⟩ : ∃ m,ds0.length - i = m+1:=⟨ds0.length - i - 1,Q0⟩
 have hgo:=h.go
 have hnx:=h.nx1
 have hn0:=h.nx0
 have hsz:=(h.nm i hi (Nat.le_refl _) hnb).2
 have hpl:=Ex.oq ds[i].body
 rw [hm] at hgo hnx
 rw [fM,o4 hi,if_neg hnb] at hgo
 refine ⟨Q0,h.lk.set hi _,by rw [show ds0.length - (i+1) = m by omega];exact hgo,by rw [iw];exact h.len,Q0,by rw [show ds0.length - (i+1) = m by omega];omega,fun k hk hlt hnb'=>?_⟩
 have hk' : k < ds.length:=by simpa using hk
 have eg : (ds.set i (ds[i].setBody (jJ (b8 ids ds[i].body.post nx) ds[i].body)))[k] = ds[k]:=by rw [List.getElem_set_ne Q0]
 rw [eg] at hnb' ⊢
 exact h.nm k hk' Q0 hnb'
theorem G6 {ds0 ds out : List DefT} {ids : List IdT} {nx : Int} {N : Nat} (hI0 : RI ds0 N out 0 ds ids nx) {zp md : List D} {B : (St'->Prop)->St'->Prop} {s0 : St'} (e0 : s0 = [[vI nx],[vI 0],zp,md,[.sl N 3 (ids.flatMap IdT.enc)],[.sl ds.length 31 (ds.flatMap DefT.enc)]])
  (h : ∀ (i : Nat) (ds : List DefT) (ids : List IdT) (nx : Int) (next : St'->Prop),RI ds0 N out i ds ids nx ->
   (∀ ds' ids' nx',RI ds0 N out (i+1) ds' ids' nx'->next [[vI nx'],[vI (i+1 : Nat)],zp,md,[.sl N 3 (ids'.flatMap IdT.enc)],[.sl ds'.length 31 (ds'.flatMap DefT.enc)]]) ->
   B next [[vI nx],[vI (i : Nat)],zp,md,[.sl N 3 (ids.flatMap IdT.enc)],[.sl ds.length 31 (ds.flatMap DefT.enc)]]) : Lp B s0:=by
 refine iX (σ:=Nat×List DefT×List IdT×Int) (fun y=>[[vI y.2.2.2],[vI (y.1 : Nat)],zp,md,[.sl N 3 (y.2.2.1.flatMap IdT.enc)],[.sl y.2.1.length 31 (y.2.1.flatMap DefT.enc)]]) (fun y=>ds0.length - y.1) (fun y=>RI ds0 N out y.1 y.2.1 y.2.2.1 y.2.2.2) (0,ds,ids,nx) hI0 e0 ?_
 rintro ⟨i,ds,ids,nx⟩ next hI hnx
 dsimp only at hI hnx ⊢
 refine h i ds ids nx next hI fun ds' ids' nx' hI'=>?_
 have:=hI'.le
 exact hnx (i+1,ds',ids',nx') (by dsimp only;omega) hI'
theorem qG (hl : ∀ x∈l,InI x) {ms : List ModT} {ds0 : List DefT} (hm : 0 < ms.length) (hb : Base ⟨ms,ds0⟩ 5) (hn : Names ⟨ms,ds0⟩) (hd8 : ds0.length<=8) {nx : Int} (hnx0 : 0<=nx/\nx<=1000000) (hsl : ∀ d∈ds0,∀ x∈d.slots,x.id.seq ≠ 0) {zp : List D}
  (hK : K [[.sl ms.length 6 (ms.flatMap ModT.enc),.sl (fM ds0.length 0 (bg ms l ds0.length 0 ds0 ⟨24,0,0,0⟩).1 (List.replicate (bg ms l ds0.length 0 ds0 ⟨24,0,0,0⟩).2.temp.toNat id0) nx).length 31 ((fM ds0.length 0 (bg ms l ds0.length 0 ds0 ⟨24,0,0,0⟩).1 (List.replicate (bg ms l ds0.length 0 ds0 ⟨24,0,0,0⟩).2.temp.toNat id0) nx).flatMap DefT.enc)]]) :
  kW (CxP Tryz.prog) K [[vI nx],[vI 0],zp,[.sl ms.length 6 (ms.flatMap ModT.enc)],mkL ⟨⟨ms,ds0⟩,l,0,id0⟩ ⟨24,0,0,0⟩,[.sl ds0.length 31 (ds0.flatMap DefT.enc)]]:=by
 unfold kW
 generalize hz : bg ms l ds0.length 0 ds0 ⟨24,0,0,0⟩ = z at hK
 refine FI hl hm hb hn hd8 hsl hz rfl fun i ds s own home next hI hnx=>?_
 have hlen:=hI.lk.len
 have hle:=hI.le
 have hbd : Base ⟨ms,ds⟩ 5:=hb.like hI.lk
 have hnd : Names ⟨ms,ds⟩:=hn.like hI.lk
 simp only [pmr,pmg]
 refine ⟨fun h=>?_,fun h=>?_⟩
 ·have hi : i < ds.length:=Q0
  rw [fR _ hi]
  simp only [pmr,pms]
  have hmem:=List.getElem_mem hi
  refine ⟨Q0,fun k0=>⟨Q4,hnx ds s own home (hI.skip hi (.inl k0))⟩,fun k0=>⟨fun k1=>⟨Q4,hnx ds s own home (hI.skip hi (.inr k1))⟩,fun k1=>?_⟩⟩
  have hnb : ¬ bare ds[i]:=fun h=>h.elim k0 k1
  have h3:=hbd.gen.short _ hmem
  refine bl ds[i].slots.length (fun k=>[[vI nx],[vI (i : Nat)],[vI (k : Nat)],zp,[.sl ms.length 6 (ms.flatMap ModT.enc)],mkL ⟨⟨ms,ds⟩,l,own,home⟩ s,ds[i].enc,[.sl k 9 (((bF ds[i]).take k).flatMap Bnd.enc)],[.sl ds.length 31 (ds.flatMap DefT.enc)]]) (fun _=>True) trivial rfl fun k vV hk _ hn2=>?_
  simp only [pmr,pmg,pms]
  refine ⟨fun hk1=>?_,fun hk1=>?_⟩
  ·have hk2 : k < ds[i].slots.length:=Q0
   rw [pe _ hk2]
   simp only [pmr,pms]
   have:=hn2 hk2 trivial
   have he : k < (bF ds[i]).length:=by rw [qk];exact hk2
   rw [List.take_succ_eq_append_getElem he,List.flatMap_append,List.flatMap_cons,List.flatMap_nil,List.append_nil] at this
   have eb : (bF ds[i])[k] = ⟨ds[i].slots[k].id,0,ds[i].slots[k].ty⟩:=by simp [bF]
   rw [eb] at this
   exact ⟨Q0,Q0,Qa,Q4,this⟩
  ·obtain rfl : k = ds[i].slots.length:=Q0
   have el : ds[i].slots.length = (bF ds[i]).length:=(qk _).symm
   rw [List.take_of_length_le Q0]
   have hc : Ctx ⟨⟨ms,ds⟩,l,i,ds[i].mod⟩ 5:=⟨hbd.gen,hl,hm,hbd.d0,hbd.d1,hbd.sty,hbd.rty⟩
   have fit : ∀ dp : Int,okT ⟨ms,ds⟩ 5 9 ds[i].result dp->(0<=dp/\dp<=4)->Fit ⟨⟨ms,ds⟩,l,i,ds[i].mod⟩ 5 9 ds[i].result (bF ds[i]) dp:=fun dp ho hr=>⟨by have:=hbd.e0 _ hmem;omega,Q0,fun b hb'=>by
     obtain ⟨x,hx,rfl⟩:=jx hb'
     exact hbd.gen.slot _ hmem x hx,fun b hb'=>by
     obtain ⟨x,hx,rfl⟩:=jx hb'
     exact hbd.sty _ hmem x hx,hbd.rty _ hmem,ho,Q0⟩
   have hus:=hI.us
   have h9 : (9 : Int) ^ 9 = 387420489:=Q1
   have hm0 : (0 : Int)<=(ds0.length - i : Nat) * (2 * 9 ^ 9):=Int.mul_nonneg Q0 Q0
   have hu : Us 100000000000 ⟨s.pos,s.temp,14,0⟩:=by unfold Us;dsimp only;omega
   have hw:=hbd.resA _ hmem
   refine ai (by rw [el];exact ur hc 9 ds[i].result (bF ds[i]) 4 ⟨s.pos,s.temp,14,0⟩ (fit 4 (GY hw) Q0) (hu.bd Q0)) ?_
   have hu1:=AZ (cq (c:=⟨⟨ms,ds⟩,l,i,ds[i].mod⟩) hbd.gen.short 9) (show (0 : Int)<=9 ^ 9 by omega) (t:=ds[i].result) (env:=bF ds[i]) (d:=4) hu Q0
   have hmk:=o6 (c:=⟨⟨ms,ds⟩,l,i,ds[i].mod⟩) (hbd.gctx hnd) 9 ds[i].result (bF ds[i]) 4 ⟨s.pos,s.temp,14,0⟩ (by have:=hbd.e0 _ hmem;omega) (fun b hb'=>by
     obtain ⟨x,hx,rfl⟩:=jx hb'
     exact ⟨hbd.gen.slot _ hmem x hx,hnd.gs _ hmem x hx⟩) (GY hw) (hnd.gr _ hmem)
   have hst:=hI.step hd8 hi hnb hbd hnd (A7 hI.lk hsl)
   have hbo : iI ⟨⟨ms,ds⟩,l,i,ds[i].mod⟩ ds[i] ⟨s.pos,s.temp,14,0⟩ = if 30 < (ak ⟨⟨ms,ds⟩,l,i,ds[i].mod⟩ 9 ds[i].result (bF ds[i]) 4 ⟨s.pos,s.temp,14,0⟩).1.size then ak ⟨⟨ms,ds.set i (ds[i].setBody (ak ⟨⟨ms,ds⟩,l,i,ds[i].mod⟩ 9 ds[i].result (bF ds[i]) 4 ⟨s.pos,s.temp,14,0⟩).1)⟩,l,i,ds[i].mod⟩ 9 ds[i].result (bF ds[i]) 0 ⟨(ak ⟨⟨ms,ds⟩,l,i,ds[i].mod⟩ 9 ds[i].result (bF ds[i]) 4 ⟨s.pos,s.temp,14,0⟩).2.pos,(ak ⟨⟨ms,ds⟩,l,i,ds[i].mod⟩ 9 ds[i].result (bF ds[i]) 4 ⟨s.pos,s.temp,14,0⟩).2.temp,0,(ak ⟨⟨ms,ds⟩,l,i,ds[i].mod⟩ 9 ds[i].result (bF ds[i]) 4 ⟨s.pos,s.temp,14,0⟩).2.name⟩ else ak ⟨⟨ms,ds⟩,l,i,ds[i].mod⟩ 9 ds[i].result (bF ds[i]) 4 ⟨s.pos,s.temp,14,0⟩:=rfl
   rw [hbo] at hst
   have hsz:=hmk.size
   generalize ak ⟨⟨ms,ds⟩,l,i,ds[i].mod⟩ 9 ds[i].result (bF ds[i]) 4 ⟨s.pos,s.temp,14,0⟩ = r at hu1 hst hsz ⊢
   simp only [pmr,pmg]
   refine ⟨Q0,Q0,?_⟩
   rw [oU,sq ds hi,fR _ (show i < (ds.set i (ds[i].setBody r.1)).length by simpa using hi)]
   simp only [pms,List.getElem_set_self]
   have hu1':=hu1
   unfold Us at hu1'
   dsimp only at hsz
   refine ai (zz r.1 Q0) ?_
   simp only [pmr]
   refine ⟨fun h30=>?_,fun h30=>?_⟩
   ·rw [if_pos Q0] at hst
    have hlk:=hI.lk.set hi r.1
    have hbd2 : Base ⟨ms,ds.set i (ds[i].setBody r.1)⟩ 5:=hb.like hlk
    have hc2 : Ctx ⟨⟨ms,ds.set i (ds[i].setBody r.1)⟩,l,i,ds[i].mod⟩ 5:=⟨hbd2.gen,hl,hm,hbd2.d0,hbd2.d1,hbd2.sty,hbd2.rty⟩
    have hl2 : dm (ds.set i (ds[i].setBody r.1)) ds:=(dm.refl ds).set hi r.1
    have fit2 : Fit ⟨⟨ms,ds.set i (ds[i].setBody r.1)⟩,l,i,ds[i].mod⟩ 5 9 ds[i].result (bF ds[i]) 0:=by
     have f:=fit 0 (GZ hw) Q0
     exact ⟨f.e0,f.e1,fun b hb'=>hl2.wf _ _ (f.ew b hb'),f.es,f.ts,GZ (hl2.wf _ _ hw),f.dp⟩
    have hu0 : Us (100000000000+9 ^ 9) ⟨r.2.pos,r.2.temp,0,r.2.name⟩:=by unfold Us;dsimp only;omega
    have hcall:=ur hc2 9 ds[i].result (bF ds[i]) 0 ⟨r.2.pos,r.2.temp,0,r.2.name⟩ fit2 (hu0.bd Q0)
    simp only [pmg,bp,List.length_set,<-el] at hcall
    refine ai hcall ?_
    clear hcall
    generalize ak ⟨⟨ms,ds.set i (ds[i].setBody r.1)⟩,l,i,ds[i].mod⟩ 9 ds[i].result (bF ds[i]) 0 ⟨r.2.pos,r.2.temp,0,r.2.name⟩ = r2 at hst ⊢
    simp only [pmr]
    rw [oU,sq (ds.set i (ds[i].setBody r.1)) (show i < (ds.set i (ds[i].setBody r.1)).length by simpa using hi)]
    have:=hnx _ _ i ds[i].mod hst
    refine ⟨Q0,Q4,?_⟩
    simp only [List.getElem_set_self,List.set_set]
    rw [List.length_set] at this
    exact this
   ·rw [if_neg Q0] at hst
    have:=hnx _ _ i ds[i].mod hst
    refine ⟨Q4,?_⟩
    rw [List.length_set] at this
    exact this
 ·have hiL : i = ds0.length:=Q0
  have hgo:=hI.go
  rw [hiL,Nat.sub_self,bg] at hgo
  obtain ⟨ht0,ht1⟩ : 0<=s.temp/\s.temp<=100000000000:=by
   have hus:=hI.us
   have hm0 : (0 : Int)<=(ds0.length - i : Nat) * (2 * 9 ^ 9):=Int.mul_nonneg Q0 Q1
   omega
  have hN : (s.temp.toNat : Int) = s.temp:=Q0
  have hnm:=hI.nm
  rw [<-hgo] at hK
  dsimp only at hK
  refine ⟨⟨ht0,trivial,Qa⟩,?_⟩
  rw [HN]
  refine G6 (out:=fM ds0.length 0 ds (List.replicate s.temp.toNat id0) nx) (N:=s.temp.toNat) (ds0:=ds0) ⟨Nat.zero_le _,hI.lk,by rw [Nat.sub_zero],Q2,hnx0.1,by rw [Nat.sub_zero];omega,fun k hk _ hnb=>by rw [hN];exact hnm k hk Q0 hnb⟩ rfl fun i ds ids nx next hI2 hnx2=>?_
  clear hnx hgo hnm hI hlen hle hiL
  have hlen:=hI2.lk.len
  have hle:=hI2.le
  have hn0:=hI2.nx0
  have hn1:=hI2.nx1
  have hm0 : (0 : Int)<=(ds0.length - i : Nat) * 1000000000000:=Q0
  simp only [pmr]
  refine ⟨fun h=>?_,fun h=>?_⟩
  ·have hi : i < ds.length:=Q0
   rw [fR _ hi]
   simp only [pmr,pms]
   refine ⟨Q0,fun k0=>⟨Q4,hnx2 ds ids nx (hI2.skip hi (.inl k0))⟩,fun k0=>⟨Q0,fun k1=>⟨Q4,hnx2 ds ids nx (hI2.skip hi (.inr k1))⟩,fun k1=>⟨Q0,?_⟩⟩⟩
   have hnb : ¬ bare ds[i]:=fun h=>h.elim k0 k1
   obtain ⟨hin,hsz⟩:=hI2.nm i hi (Nat.le_refl _) hnb
   have hpl:=Ex.oq ds[i].body
   have hnum:=vR ds[i].body [] Qc
   simp only [aY,List.length_nil,List.map_nil,List.nil_append] at hnum
   refine ai hnum ?_
   simp only [pmr]
   have hst:=hI2.step hi hnb
   have hln:=hI2.len
   refine bl ds[i].body.post.length (fun k=>[[vI (nx+(k : Nat))],[vI (i : Nat)],[vI (k : Nat)],zp,[.sl ms.length 6 (ms.flatMap ModT.enc)],[.sl s.temp.toNat 3 ((b8 ids (ds[i].body.post.take k) nx).flatMap IdT.enc)],[.sl ds[i].body.post.length 1 (ds[i].body.post.map aj)],[.sl ds.length 31 (ds.flatMap DefT.enc)]]) (fun _=>True) trivial (by rw [Int.natCast_zero,Int.add_zero];rfl) fun k fQ hk _ hn3=>?_
   simp only [pmr]
   refine ⟨fun hk1=>?_,fun hk1=>?_⟩
   ·have hk2 : k < ds[i].body.post.length:=Q0
    rw [lD _ hk2]
    simp only [pmr]
    have hr:=zX hin _ (List.getElem_mem hk2)
    have hpl2 : ds[i].body.post.length<=100000000000:=Q0
    refine ⟨Q0,ai (iY Q0 (by unfold InI;omega)) ?_⟩
    simp only [pmr]
    have hkl : (ds[i].body.post[k]).toNat < (b8 ids (ds[i].body.post.take k) nx).length:=by rw [iw,hln];omega
    rw [upd_id _ hkl]
    have:=hn3 hk2 trivial
    rw [List.take_succ_eq_append_getElem hk2,mM,List.length_take,Nat.min_eq_left Q0] at this
    rw [show nx+(k : Int)+1 = nx+((k+1 : Nat) : Int) by omega]
    exact ⟨Q0,Q4,Q4,this⟩
   ·obtain rfl : k = ds[i].body.post.length:=Q0
    rw [List.take_length]
    have hlp : (b8 ids ds[i].body.post nx).length = s.temp.toNat:=by rw [iw,hln]
    have hren:=sY (b8 ids ds[i].body.post nx) ds[i].body (by rw [hlp];exact hin) Q0
    simp only [rnR] at hren
    rw [hlp] at hren
    rw [fR _ hi]
    simp only [pms]
    refine ⟨Q0,ai hren ?_⟩
    simp only [pmr]
    have:=hnx2 _ _ _ hst
    rw [oU,sq _ hi]
    rw [List.length_set] at this
    exact ⟨Q0,Q4,this⟩
  ·have hgo2:=hI2.go
   rw [show ds0.length - i = 0 by omega,fM] at hgo2
   rw [<-hgo2] at hK
   exact hK
end
set_option maxHeartbeats 1000000
def g8c (Is : Cx) (a : St') (K : St'->Prop) : Prop:=caK Is s29 [[cell (ent a 0) 0],[vI 0],[vI 2]] fun r1=>ah (cell (ent r1 0) 0) fun z2=>ckK (okI (1+z2)) (ifK (decide ((0 : Int) < (1+z2)))
 (caK Is s30 [[vI 0]] fun r3=>ckK (0<=(0 : Int)/\(0 : Int) < (2 : Int)) (ckK (room (0+1) 89) (ckK (okI (0+1 : Int)) (ifK (decide ((1 : Int) <
 (1+z2))) (caK Is s30 [[vI 1]] fun r4=>ckK (0<=(1 : Int)/\(1 : Int) < (2 : Int)) (caK Is s30 [[vI 0]] fun r5=>ckK (room (1+1) 89) (ckK (okI
 (1+1 : Int)) (ifK (decide ((2 : Int) < (1+z2))) (caK Is s30 [[vI 2]] fun _=>ckK (0<=(2 : Int)/\(2 : Int) < (2 : Int)) (ckK (room (2+1) 89)
 (ckK (okI (2+1 : Int)) (False)))) (caK Is s31 [[cell (ent a 0) 0],[vI (1+z2)]] fun r7=>aa 11 (cell (ent r7 0) 0) fun n8 c9=>ckK (okI ((1
 + z2)+(n8 : Int))) (Lp (fun oK bT=>ah (cell (ent bT 1) 0) fun z186=>ah (cell (ent bT 2) 0) fun z187=>ah (cell (ent bT
 3) 0) fun z188=>aa 11 (cell (ent bT 5) 0) fun n189 c190=>aa 31 (cell (ent bT 7) 0) fun n191 c192=>aa 3 (cell (ent bT 8) 0) fun
 n193 c194=>aa 3 (cell (ent bT 9) 0) fun n195 c196=>aa 3 (cell (ent bT 10) 0) fun n197 c198=>ifK (decide (z188 < (n189 : Int))) (ckK
 (okI (z186+z188)) (caK Is s30 [[vI (z186+z188)]] fun r199=>ckK (0<=z188/\z188 < (n189 : Int)) (ckK (0<=z188/\z188 < (n189 : Int)) (caK Is
 s30 [[cell (el c190 11 (Int.toNat z188)) 10]] fun r200=>ckK (0<=z188/\z188 < (n189 : Int)) (ckK (0<=z188/\z188 < (n189 : Int)) (Lp (fun
 oJ aG=>ah (cell (ent aG 1) 0) fun z203=>ah (cell (ent aG 2) 0) fun z204=>ah (cell (ent aG 3) 0) fun z205=>ah (cell
 (ent aG 4) 0) fun z206=>aa 11 (cell (ent aG 6) 0) fun n207 c208=>aa 31 (cell (ent aG 9) 0) fun n209 c210=>aa 11 (cell (ent
 aG 10) 0) fun n211 c212=>aa 3 (cell (ent aG 11) 0) fun n213 c214=>aa 3 (cell (ent aG 12) 0) fun n215 c216=>aa 3 (cell (ent
 aG 13) 0) fun n217 c218=>ckK (0<=z205/\z205 < (n207 : Int)) (aa 5 (cell (el c208 11 (Int.toNat z205)) 2) fun n219 _=>ifK (decide (z206 <
 (n219 : Int))) (caK Is s30 [[vI z204]] fun r221=>ckK (0<=z205/\z205 < (n207 : Int)) (aa 1 (cell (el c208 11 (Int.toNat z205)) 3) fun n222 c223
 => ckK (0<=z206/\z206 < (n222 : Int)) (ckK (0<=z205/\z205 < (n207 : Int)) (aa 5 (cell (el c208 11 (Int.toNat z205)) 2) fun n224 c225=>ckK (0
 <= z206/\z206 < (n224 : Int)) (ah (cell (ent aG 7) 3) fun z226=>ifK (decide (z226 = (4 : Int))) (ckK (0<=z205/\z205 < (n207 : Int)) (aa 1
 (cell (el c208 11 (Int.toNat z205)) 4) fun n227 c228=>ckK (0<=z206/\z206 < (n227 : Int)) (ckK (room (n211+1) 113) (ckK (okI (z204+1)) (ckK
 (okI (z206+1)) (oJ [[cell (ent aG 0) 0],[vI z203],[vI (z204+1)],[vI z205],[vI (z206+1)],ent aG 5,[.sl n207 11 c208],cls (ent
 aG 7) 0 30 [],cls (ent aG 8) 0 9 [],[.sl n209 31 c210],[.sl (n211+1) 11 (c212++(cls (ent r221 0) 0 3 (cell (el c223 1 (Int.toNat z206))
 0::cls (el c225 5 (Int.toNat z206)) 0 5 [cell (el c228 1 (Int.toNat z206)) 0,vI z206])))],[.sl n213 3 c214],[.sl n215 3 c216],[.sl n217 3
 c218]])))))) (ckK (room (n211+1) 113) (ckK (okI (z204+1)) (ckK (okI (z206+1)) (oJ [[cell (ent aG 0) 0],[vI z203],[vI (z204+1)],
 [vI z205],[vI (z206+1)],ent aG 5,[.sl n207 11 c208],cls (ent aG 7) 0 30 [],cls (ent aG 8) 0 9 [],[.sl n209 31 c210],[.sl (n211 +
 1) 11 (c212++(cls (ent r221 0) 0 3 (cell (el c223 1 (Int.toNat z206)) 0::cls (el c225 5 (Int.toNat z206)) 0 5 [vI 0,vI z206])))],[.sl n213 3
 c214],[.sl n215 3 c216],[.sl n217 3 c218]]))))))))) (ckK (room (n209+1) 353) (ckK (0<=z205/\z205 < (n207 : Int)) (ckK (0<=z205/\z205 < (n207
 : Int)) (ah (cell (el c208 11 (Int.toNat z205)) 10) fun z229=>ckK (0<=z229/\z229 < ((2 : Nat) : Int)) (ifK (decide (z229 = ((0 : Nat) : Int)))
 (ckK (room (n213+1) 25) (ah (cell (el c208 11 (Int.toNat z205)) 10) fun z230=>ckK (0<=z230/\z230 < ((2 : Nat) : Int)) (ifK (decide (z230 =
 ((0 : Nat) : Int))) (ckK (okI (z205+1)) (oK [[cell (ent aG 0) 0],[vI z203],[vI z204],[vI (z205+1)],ent aG 5,[.sl n207 11 c208],
 cls (ent aG 8) 0 9 [],[.sl (n209+1) 31 (c210++(cls (ent aG 7) 0 8 (.sl n211 11 c212::cls (ent aG 7) 8 22 [])))],[.sl (n213+1) 3
 (c214++(cls (ent aG 7) 0 3 []))],[.sl n215 3 c216],[.sl n217 3 c218]])) (ifK (decide (z230 = ((1 : Nat) : Int))) (ckK (okI (z205+1))
 (False)) (False))))) (ifK (decide (z229 = ((1 : Nat) : Int))) (ckK (room (n217+1) 25) (ah (cell (el c208 11 (Int.toNat z205)) 10) fun z231 =>
 ckK (0<=z231/\z231 < ((2 : Nat) : Int)) (ifK (decide (z231 = ((0 : Nat) : Int))) (ckK (okI (z205+1)) (False)) (ifK (decide (z231 = ((1 : Nat) :
 Int))) (ckK (okI (z205+1)) (oK [[cell (ent aG 0) 0],[vI z203],[vI z204],[vI (z205+1)],ent aG 5,[.sl n207 11 c208],cls (ent
 aG 8) 0 9 [],[.sl (n209+1) 31 (c210++(cls (ent aG 7) 0 8 (.sl n211 11 c212::cls (ent aG 7) 8 22 [])))],[.sl n213 3 c214],[.sl n215
 3 c216],[.sl (n217+1) 3 (c218++(cls (ent aG 7) 0 3 []))]])) (False))))) (False))))))))) [[cell (ent bT 0) 0],[vI z186],[vI z187],[vI
 z188],[vI 0],ent bT 4,[.sl n189 11 c190],cls (ent r199 0) 0 3 (cell (el c190 11 (Int.toNat z188)) 0::cls (ent r200 0) 0 3 (cell (el c190 11
 (Int.toNat z188)) 1::cls (sub (el c190 11 (Int.toNat z188)) 5 5) 0 5 ([vI 0,vI 0,vI 0,vI 0,vI 0,vI 0,vI 0,vI 0,vI 0,vI 0,vI 0,vI 0,.sl
 0 5 [],.sl 0 15 [],.sl 0 1 [],vI 0,.sl 0 1 []]))),cls (ent bT 6) 0 9 [],[.sl n191 31 c192],[.sl 0 11 []],[.sl n193 3 c194],[.sl n195 3
 c196],[.sl n197 3 c198]])))))) (kW Is K [[vI z187],[vI 0],ent bT 4,[.sl 2 6 (cls (ent bT 6) 0 5 (.sl n193 3 c194::cls (ent bT
 6) 5 4 [.sl n195 3 c196,.sl n197 3 c198]))],[.sl 2 6 (cls (ent bT 6) 0 5 (.sl n193 3 c194::cls (ent bT 6) 5 4 [.sl n195 3 c196,.sl n197 3
 c198])),cell (ent bT 0) 0,vI 24,vI 0,vI 0,vI 0,vI 0,vI 0,vI 0,vI 0],[.sl n191 31 c192]])) [[cell (ent a 0) 0],[vI (1+z2)],[vI ((1 +
 z2)+(n8 : Int))],[vI 0],[.sl 0 6 [],.sl 0 31 []],[.sl n8 11 c9],cls (ent r3 0) 0 3 (cell (el ([vS (ByteArray.mk #[99,111,114,101]),vS
 (ByteArray.mk #[109,105,108,108])]) 1 0) 0::.sl 0 3 []::cls (ent r4 0) 0 3 ([cell (el ([vS (ByteArray.mk #[99,111,114,101]),vS
 (ByteArray.mk #[109,105,108,108])]) 1 1) 0])),[.sl 0 31 []],[.sl 0 3 []],[.sl 1 3 ((ent r5 0)++[])],[.sl 0 3 []]])))))) (caK Is s31 [[cell
 (ent a 0) 0],[vI (1+z2)]] fun r300=>aa 11 (cell (ent r300 0) 0) fun n301 c302=>ckK (okI ((1+z2)+(n301 : Int))) (Lp (fun xR cL
 => ah (cell (ent cL 1) 0) fun z438=>ah (cell (ent cL 2) 0) fun z439=>ah (cell (ent cL 3) 0) fun z440=>aa 11 (cell (ent cL
 5) 0) fun n441 c442=>aa 31 (cell (ent cL 7) 0) fun n443 c444=>aa 3 (cell (ent cL 8) 0) fun n445 c446=>ifK (decide (z440 < (n441 :
 Int))) (ckK (okI (z438+z440)) (caK Is s30 [[vI (z438+z440)]] fun r447=>ckK (0<=z440/\z440 < (n441 : Int)) (ckK (0<=z440/\z440 < (n441 :
 Int)) (caK Is s30 [[cell (el c442 11 (Int.toNat z440)) 10]] fun r448=>ckK (0<=z440/\z440 < (n441 : Int)) (ckK (0<=z440/\z440 < (n441 : Int))
 (Lp (fun oI aX=>ah (cell (ent aX 1) 0) fun z451=>ah (cell (ent aX 2) 0) fun z452=>ah (cell (ent aX 3) 0) fun z453 =>
 ah (cell (ent aX 4) 0) fun z454=>aa 11 (cell (ent aX 6) 0) fun n455 c456=>aa 31 (cell (ent aX 9) 0) fun n457 c458=>aa 11
 (cell (ent aX 10) 0) fun n459 c460=>aa 3 (cell (ent aX 11) 0) fun n461 c462=>ckK (0<=z453/\z453 < (n455 : Int)) (aa 5 (cell (el c456
 11 (Int.toNat z453)) 2) fun n463 _=>ifK (decide (z454 < (n463 : Int))) (caK Is s30 [[vI z452]] fun r465=>ckK (0<=z453/\z453 < (n455 : Int))
 (aa 1 (cell (el c456 11 (Int.toNat z453)) 3) fun n466 c467=>ckK (0<=z454/\z454 < (n466 : Int)) (ckK (0<=z453/\z453 < (n455 : Int)) (aa 5
 (cell (el c456 11 (Int.toNat z453)) 2) fun n468 c469=>ckK (0<=z454/\z454 < (n468 : Int)) (ah (cell (ent aX 7) 3) fun z470=>ifK (decide
 (z470 = (4 : Int))) (ckK (0<=z453/\z453 < (n455 : Int)) (aa 1 (cell (el c456 11 (Int.toNat z453)) 4) fun n471 c472=>ckK (0<=z454/\z454 <
 (n471 : Int)) (ckK (room (n459+1) 113) (ckK (okI (z452+1)) (ckK (okI (z454+1)) (oI [[cell (ent aX 0) 0],[vI z451],[vI (z452+1)],
 [vI z453],[vI (z454+1)],ent aX 5,[.sl n455 11 c456],cls (ent aX 7) 0 30 [],cls (ent aX 8) 0 5 [],[.sl n457 31 c458],[.sl (n459 +
 1) 11 (c460++(cls (ent r465 0) 0 3 (cell (el c467 1 (Int.toNat z454)) 0::cls (el c469 5 (Int.toNat z454)) 0 5 [cell (el c472 1 (Int.toNat z454))
 0,vI z454])))],[.sl n461 3 c462]])))))) (ckK (room (n459+1) 113) (ckK (okI (z452+1)) (ckK (okI (z454+1)) (oI [[cell (ent aX 0) 0],
 [vI z451],[vI (z452+1)],[vI z453],[vI (z454+1)],ent aX 5,[.sl n455 11 c456],cls (ent aX 7) 0 30 [],cls (ent aX 8) 0 5 [],[.sl
 n457 31 c458],[.sl (n459+1) 11 (c460++(cls (ent r465 0) 0 3 (cell (el c467 1 (Int.toNat z454)) 0::cls (el c469 5 (Int.toNat z454)) 0 5 [vI 0,
 vI z454])))],[.sl n461 3 c462]]))))))))) (ckK (room (n457+1) 353) (ckK (0<=z453/\z453 < (n455 : Int)) (ckK (0<=z453/\z453 < (n455 : Int))
 (ah (cell (el c456 11 (Int.toNat z453)) 10) fun z473=>ckK (0<=z473/\z473 < ((1 : Nat) : Int)) (ifK (decide (z473 = ((0 : Nat) : Int))) (ckK
 (room (n461+1) 25) (ah (cell (el c456 11 (Int.toNat z453)) 10) fun z474=>ckK (0<=z474/\z474 < ((1 : Nat) : Int)) (ifK (decide (z474 = ((0 :
 Nat) : Int))) (ckK (okI (z453+1)) (xR [[cell (ent aX 0) 0],[vI z451],[vI z452],[vI (z453+1)],ent aX 5,[.sl n455 11 c456],cls
 (ent aX 8) 0 5 [],[.sl (n457+1) 31 (c458++(cls (ent aX 7) 0 8 (.sl n459 11 c460::cls (ent aX 7) 8 22 [])))],[.sl (n461+1) 3 (c462
 ++ (cls (ent aX 7) 0 3 []))]])) (False)))) (False)))))))) [[cell (ent cL 0) 0],[vI z438],[vI z439],[vI z440],[vI 0],ent cL 4,[.sl
 n441 11 c442],cls (ent r447 0) 0 3 (cell (el c442 11 (Int.toNat z440)) 0::cls (ent r448 0) 0 3 (cell (el c442 11 (Int.toNat z440)) 1::cls (sub
 (el c442 11 (Int.toNat z440)) 5 5) 0 5 ([vI 0,vI 0,vI 0,vI 0,vI 0,vI 0,vI 0,vI 0,vI 0,vI 0,vI 0,vI 0,.sl 0 5 [],.sl 0 15 [],.sl 0 1
 [],vI 0,.sl 0 1 []]))),cls (ent cL 6) 0 5 [],[.sl n443 31 c444],[.sl 0 11 []],[.sl n445 3 c446]])))))) (kW Is K [[vI z439],[vI 0],
 ent cL 4,[.sl 1 6 (cls (ent cL 6) 0 5 [.sl n445 3 c446])],[.sl 1 6 (cls (ent cL 6) 0 5 [.sl n445 3 c446]),cell (ent cL 0) 0,vI 24,
 vI 0,vI 0,vI 0,vI 0,vI 0,vI 0,vI 0],[.sl n443 31 c444]])) [[cell (ent a 0) 0],[vI (1+z2)],[vI ((1+z2)+(n301 : Int))],[vI 0],[.sl 0
 6 [],.sl 0 31 []],[.sl n301 11 c302],cls (ent r3 0) 0 3 ([cell (el ([vS (ByteArray.mk #[99,111,114,101]),vS (ByteArray.mk #[109,105,108,
 108])]) 1 0) 0,.sl 0 3 []]),[.sl 0 31 []],[.sl 0 3 []]])))))) (caK Is s31 [[cell (ent a 0) 0],[vI (1+z2)]] fun r543=>aa 11 (cell (ent r543
 0) 0) fun n544 c545=>ckK (okI ((1+z2)+(n544 : Int))) (Lp (fun _ dg=>ah (cell (ent dg 1) 0) fun z548=>ah (cell (ent dg 2) 0)
 fun z549=>ah (cell (ent dg 3) 0) fun z550=>aa 11 (cell (ent dg 6) 0) fun n551 c552=>aa 31 (cell (ent dg 7) 0) fun n553 c554 =>
 ifK (decide (z550 < (n551 : Int))) (ckK (okI (z548+z550)) (caK Is s30 [[vI (z548+z550)]] fun r555=>ckK (0<=z550/\z550 < (n551 : Int)) (ckK
 (0<=z550/\z550 < (n551 : Int)) (caK Is s30 [[cell (el c552 11 (Int.toNat z550)) 10]] fun r556=>ckK (0<=z550/\z550 < (n551 : Int)) (ckK (0 <=
 z550/\z550 < (n551 : Int)) (Lp (fun oG bR=>ah (cell (ent bR 1) 0) fun z584=>ah (cell (ent bR 2) 0) fun z585=>ah (cell
 (ent bR 3) 0) fun z586=>ah (cell (ent bR 4) 0) fun z587=>aa 11 (cell (ent bR 7) 0) fun n588 c589=>aa 31 (cell (ent bR 9) 0)
 fun n590 c591=>aa 11 (cell (ent bR 10) 0) fun n592 c593=>ckK (0<=z586/\z586 < (n588 : Int)) (aa 5 (cell (el c589 11 (Int.toNat z586))
 2) fun n594 _=>ifK (decide (z587 < (n594 : Int))) (caK Is s30 [[vI z585]] fun r596=>ckK (0<=z586/\z586 < (n588 : Int)) (aa 1 (cell (el c589
 11 (Int.toNat z586)) 3) fun n597 c598=>ckK (0<=z587/\z587 < (n597 : Int)) (ckK (0<=z586/\z586 < (n588 : Int)) (aa 5 (cell (el c589 11
 (Int.toNat z586)) 2) fun n599 c600=>ckK (0<=z587/\z587 < (n599 : Int)) (ah (cell (ent bR 8) 3) fun z601=>ifK (decide (z601 = (4 : Int)))
 (ckK (0<=z586/\z586 < (n588 : Int)) (aa 1 (cell (el c589 11 (Int.toNat z586)) 4) fun n602 c603=>ckK (0<=z587/\z587 < (n602 : Int)) (ckK
 (room (n592+1) 113) (ckK (okI (z585+1)) (ckK (okI (z587+1)) (oG [[cell (ent bR 0) 0],[vI z584],[vI (z585+1)],[vI z586],[vI (z587
 + 1)],ent bR 5,[cell (ent bR 6) 0],[.sl n588 11 c589],cls (ent bR 8) 0 30 [],[.sl n590 31 c591],[.sl (n592+1) 11 (c593++(cls (ent
 r596 0) 0 3 (cell (el c598 1 (Int.toNat z587)) 0::cls (el c600 5 (Int.toNat z587)) 0 5 [cell (el c603 1 (Int.toNat z587)) 0,vI z587])))]]))))))
 (ckK (room (n592+1) 113) (ckK (okI (z585+1)) (ckK (okI (z587+1)) (oG [[cell (ent bR 0) 0],[vI z584],[vI (z585+1)],[vI z586],[vI
 (z587+1)],ent bR 5,[cell (ent bR 6) 0],[.sl n588 11 c589],cls (ent bR 8) 0 30 [],[.sl n590 31 c591],[.sl (n592+1) 11 (c593 ++
 (cls (ent r596 0) 0 3 (cell (el c598 1 (Int.toNat z587)) 0::cls (el c600 5 (Int.toNat z587)) 0 5 [vI 0,vI z587])))]]))))))))) (ckK (room (n590 +
 1) 353) (ckK (0<=z586/\z586 < (n588 : Int)) (ckK (0<=z586/\z586 < (n588 : Int)) (ah (cell (el c589 11 (Int.toNat z586)) 10) fun z604=>aa 6
 (cell (ent bR 6) 0) fun n605 _=>ckK (0<=z604/\z604 < (n605 : Int)) (False))))))) [[cell (ent dg 0) 0],[vI z548],[vI z549],[vI z550],
 [vI 0],ent dg 4,[cell (ent dg 5) 0],[.sl n551 11 c552],cls (ent r555 0) 0 3 (cell (el c552 11 (Int.toNat z550)) 0::cls (ent r556 0) 0 3
 (cell (el c552 11 (Int.toNat z550)) 1::cls (sub (el c552 11 (Int.toNat z550)) 5 5) 0 5 ([vI 0,vI 0,vI 0,vI 0,vI 0,vI 0,vI 0,vI 0,vI 0,vI
 0,vI 0,vI 0,.sl 0 5 [],.sl 0 15 [],.sl 0 1 [],vI 0,.sl 0 1 []]))),[.sl n553 31 c554],[.sl 0 11 []]])))))) (kW Is K [[vI z549],[vI
 0],ent dg 4,[cell (ent dg 5) 0],[cell (ent dg 5) 0,cell (ent dg 0) 0,vI 24,vI 0,vI 0,vI 0,vI 0,vI 0,vI 0,vI 0],[.sl n553 31
 c554]])) [[cell (ent a 0) 0],[vI (1+z2)],[vI ((1+z2)+(n544 : Int))],[vI 0],[.sl 0 6 [],.sl 0 31 []],[.sl 0 6 []],[.sl n544 11 c545],
 [.sl 0 31 []]])))
theorem g8_eq (Is : Cx) (a : St') (K : St'->Prop) : g8 Is a K = g8c Is a K:=rfl
theorem mq (p : PlanT) (i : Nat) : cell p.enc i = cell [aj p.kind,bA p.name,.sl p.types.length 5 (p.types.flatMap Ty.enc),.sl p.names.length 1 (p.names.map bA),.sl p.bases.length 1 (p.bases.map aj),aj p.result.kind,aj p.result.df.shop,aj p.result.df.seq,aj p.result.df.index,.sl p.result.kids.length 5 (p.result.kids.flatMap Ty.enc),aj p.mod] i:=by
 cases p
 rw [PlanT.fJ]
 rfl
theorem F0 (p : PlanT) : sub p.enc 5 5 = p.result.enc:=by
 cases p
 rw [PlanT.fJ,Ty.aT]
 rfl
def dL (d : DefT) : List D:=[aj d.id.shop,aj d.id.seq,aj d.id.index,aj d.kind,aj d.mod.shop,aj d.mod.seq,aj d.mod.index,bA d.name,aj d.result.kind,aj d.result.df.shop,aj d.result.df.seq,aj d.result.df.index,.sl d.result.kids.length 5 (d.result.kids.flatMap Ty.enc),
 aj d.body.id.shop,aj d.body.id.seq,aj d.body.id.index,aj d.body.kind,aj d.body.n,aj d.body.ref.shop,aj d.body.ref.seq,aj d.body.ref.index,aj d.body.ty.kind,aj d.body.ty.df.shop,aj d.body.ty.df.seq,aj d.body.ty.df.index,
  .sl d.body.ty.kids.length 5 (d.body.ty.kids.flatMap Ty.enc),.sl d.body.kids.length 15 (d.body.kids.flatMap Ex.enc),.sl d.body.names.length 1 (d.body.names.map bA),aj d.place,.sl d.layout.length 1 (d.layout.map bA)]
theorem tj {p : PlanT} {nx : Int} {k : Nat} (hk : k < p.types.length) (hn : p.types.length<=p.names.length) (hk' : k < (cM p nx).length) : (cM p nx)[k] = ⟨idK (nx+k),p.names[k]'Q0,p.types[k],if p.kind = 4 then p.bases.getD k 0 else 0,k⟩:=by
 unfold cM
 simp [List.getD_eq_getElem?_getD,List.getElem?_eq_getElem hk,List.getElem?_eq_getElem (show k < p.names.length by omega)]
theorem iC (m : Int) : ∀ (ps : List PlanT) (i : Int),(aV m ps i).length<=ps.length
 | [],_=>Nat.le_refl _
 | p::ps,i=>by
  rw [aV,List.length_append,List.length_cons]
  have:=iC m ps (i+1)
  split <;> simp <;> omega
theorem kV (m : Int) {ps : List PlanT} {k : Nat} (hk : k < ps.length) (i : Int) : aV m (ps.take (k+1)) i = aV m (ps.take k) i++(if ps[k].mod = m then [idK (i+k)] else []):=by
 rw [List.take_succ_eq_append_getElem hk,mO,List.length_take,Nat.min_eq_left Q0,aV,aV,List.append_nil]
theorem tq {ps : List PlanT} {k : Nat} (hk : k < ps.length) (i nx : Int) : aF (ps.take (k+1)) i nx = aF (ps.take k) i nx++[iz ps[k] (i+k) (nx+cO (ps.take k))]:=by
 rw [List.take_succ_eq_append_getElem hk,jO,List.length_take,Nat.min_eq_left Q0,aF,aF]
theorem p6 {ps : List PlanT} {k : Nat} (hk : k < ps.length) : cO (ps.take (k+1)) = cO (ps.take k)+ps[k].types.length:=by
 rw [List.take_succ_eq_append_getElem hk,qz,l7]
 rfl
theorem Da {ps : List PlanT} (h : ∀ p∈ps,p.types.length<=3) : ∀ k,cO (ps.take k)<=3 * k:=by
 intro k
 induction k with
 | zero=>simp [cO]
 | succ k ih =>
  by_cases hk : k < ps.length
  ·rw [p6 hk];have:=h _ (List.getElem_mem hk);omega
  ·rw [List.take_of_length_le Q0] at ih ⊢
   omega
theorem prog_is {l : List Int} (hl : ∀ x∈l,InI x) : IS s8 [[aY l]] [(fP l).enc]:=by
 refine w8.is ?_
 rw [g8_eq]
 unfold g8c
 simp only [pmr]
 refine ai (IW Q1 hl) ?_
 simp only [pmr]
 have h2:=dc l 0 2 Q0
 have hM : aq l = 1+atL l 0 2:=rfl
 have hn1 : 1<=aq l:=Q0
 refine ⟨Q4,fun _=>ai (iY Q1 (by unfold InI;omega)) ?_,fun h=>absurd (show (0 : Int) < 1+atL l 0 2 by omega) h⟩
 simp only [pmr]
 refine ⟨Q1,by unfold room;decide,by unfold okI;decide,fun hw=>?_,fun hw=>?_⟩
 ·refine ai (iY Q1 (by unfold InI;omega)) ?_
  simp only [pmr]
  refine ⟨Q1,ai (iY Q1 (by unfold InI;omega)) ⟨by unfold room;decide,by unfold okI;decide,fun h=>absurd h Q0,fun _=>?_⟩⟩
  have hN : aq l = 2:=Q0
  rw [<-hM]
  refine ai (zk hl Q0) ?_
  simp only [pmr]
  have hok:=kM (l:=l) hn1
  have hlen:=dw l (aq l)
  have hpt:=Da fun p hp=>(hok p hp).t3
  have hb:=IF l
  have hnm:=xV l
  have hsq:=sH l
  have hfin : (fP l).enc = [.sl (cg l).length 6 ((cg l).flatMap ModT.enc),.sl (fM (aL l).length 0 (bg (cg l) l (aL l).length 0 (aL l) ⟨24,0,0,0⟩).1 (List.replicate (bg (cg l) l (aL l).length 0 (aL l) ⟨24,0,0,0⟩).2.temp.toNat id0) (gJ l)).length 31 ((fM (aL l).length 0 (bg (cg l) l (aL l).length 0 (aL l) ⟨24,0,0,0⟩).1 (List.replicate (bg (cg l) l (aL l).length 0 (aL l) ⟨24,0,0,0⟩).2.temp.toNat id0) (gJ l)).flatMap DefT.enc)]:=rfl
  rw [hfin]
  have hpm : cg l = [⟨idK 0,qF,[],aV 0 (aN l (aq l)) (aq l)⟩,⟨idK 1,Dk,[idK 0],aV 1 (aN l (aq l)) (aq l)⟩]:=by unfold cg;rw [if_neg Q0,hN]
  have hds : aL l = aF (aN l (aq l)) (aq l) (aq l+(aN l (aq l)).length):=rfl
  have hnx : gJ l = aq l+(aN l (aq l)).length+cO (aN l (aq l)):=rfl
  rw [hds] at hb hnm hsq ⊢
  rw [hnx]
  rw [hpm] at hb hnm ⊢
  clear hfin hds hnx hpm
  generalize aN l (aq l) = ps at hok hlen hpt hb hnm hsq ⊢
  generalize aq l = n at hn1 hN hok hb hnm hsq ⊢
  refine ⟨Q4,?_⟩
  refine bl ps.length (fun i=>[[aY l],[vI n],[vI (n+ps.length+cO (ps.take i))],[vI (i : Nat)],[.sl 0 6 [],.sl 0 31 []],[.sl ps.length 11 (ps.flatMap PlanT.enc)],[aj (idK 0).shop,aj (idK 0).seq,aj (idK 0).index,vS qF,.sl 0 3 [],aj (idK 1).shop,aj (idK 1).seq,aj (idK 1).index,vS Dk],[.sl (aF (ps.take i) n (n+ps.length)).length 31 ((aF (ps.take i) n (n+ps.length)).flatMap DefT.enc)],[.sl (aV 0 (ps.take i) n).length 3 ((aV 0 (ps.take i) n).flatMap IdT.enc)],[.sl 1 3 ((idK 0).enc++[])],[.sl (aV 1 (ps.take i) n).length 3 ((aV 1 (ps.take i) n).flatMap IdT.enc)]]) (fun _=>True) trivial (by rw [List.take_zero];simp only [cO,aF,aV,List.map_nil,List.sum_nil,Int.natCast_zero,Int.add_zero];rfl) fun i next hi _ hnext=>?_
  have h0:=iC 0 (ps.take i) n
  have h1:=iC 1 (ps.take i) n
  rw [List.length_take,Nat.min_eq_left hi] at h0 h1
  simp only [pmr]
  refine ⟨fun h=>?_,fun h=>?_⟩
  ·have hk : i < ps.length:=Q0
   have ok:=hok _ (List.getElem_mem hk)
   have hnx:=hnext hk trivial
   have hpi:=hpt i
   rw [tq hk,p6 hk,kV 0 hk,kV 1 hk] at hnx
   have hep:=el_Pl ps hk
   rw [hep]
   simp only [pmr,mq]
   generalize hnxt : n+(ps.length : Int)+(cO (ps.take i) : Int) = nxt at hnx ⊢
   generalize ps[i] = p at ok hnx hep ⊢
   refine ⟨Q4,ai (iY Q0 (by unfold InI;omega)) ⟨Q0,Q0,ai (iY ok.mod.1 (by unfold InI;have:=ok.mod;omega)) ⟨Q0,Q0,?_⟩⟩⟩
   have ok3:=ok.t3
   refine bl p.types.length (fun k=>[[aY l],[vI n],[vI (nxt+k)],[vI (i : Nat)],[vI (k : Nat)],[.sl 0 6 [],.sl 0 31 []],[.sl ps.length 11 (ps.flatMap PlanT.enc)],dL (iz p (n+i) nxt),[aj (idK 0).shop,aj (idK 0).seq,aj (idK 0).index,vS qF,.sl 0 3 [],aj (idK 1).shop,aj (idK 1).seq,aj (idK 1).index,vS Dk],[.sl (aF (ps.take i) n (n+ps.length)).length 31 ((aF (ps.take i) n (n+ps.length)).flatMap DefT.enc)],[.sl k 11 (((cM p nxt).take k).flatMap SlotT.enc)],[.sl (aV 0 (ps.take i) n).length 3 ((aV 0 (ps.take i) n).flatMap IdT.enc)],[.sl 1 3 ((idK 0).enc++[])],[.sl (aV 1 (ps.take i) n).length 3 ((aV 1 (ps.take i) n).flatMap IdT.enc)]]) (fun _=>True) trivial (by simp only [pmr,pms,F0,Int.natCast_zero,Int.add_zero];rfl) fun k vV hkl _ hn2=>?_
   simp only [pmr]
   rw [hep]
   simp only [pmr,mq]
   have hnames:=ok.names
   have hpsl:=bE p nxt
   refine ⟨Q0,fun h=>?_,fun h=>?_⟩
   ·have hk2 : k < p.types.length:=Q0
    refine ai (iY Q0 (by unfold InI;omega)) ?_
    rw [lD p.names (show k < p.names.length by omega),qO _ hk2]
    simp only [pmr,dL]
    have hgo:=hn2 hk2 trivial
    rw [List.take_succ_eq_append_getElem (show k < (cM p nxt).length by omega),List.flatMap_append,List.flatMap_cons,List.flatMap_nil,List.append_nil,tj hk2 hnames] at hgo
    have hkd : (iz p (n+i) nxt).kind = p.kind:=rfl
    have hkk : ((nxt+(k : Int))+1) = nxt+((k+1 : Nat) : Int):=Q0
    refine ⟨Q0,Q0,Q0,Q0,fun h4=>⟨Q0,?_⟩,fun h4=>?_⟩
    ·have hbs:=ok.bases (by rw [<-hkd];exact h4)
     rw [lD p.bases (show k < p.bases.length by omega)]
     simp only [pmr]
     rw [if_pos (show p.kind = 4 by rw [<-hkd];exact h4),List.getD_eq_getElem?_getD,List.getElem?_eq_getElem (show k < p.bases.length by omega)] at hgo
     refine ⟨Q0,Qa,Q4,Q4,?_⟩
     rw [hkk]
     exact hgo
    ·rw [if_neg (show ¬ p.kind = 4 by rw [<-hkd];exact h4)] at hgo
     refine ⟨Qa,Q4,Q4,?_⟩
     rw [hkk]
     exact hgo
   ·obtain rfl : k = p.types.length:=Q0
    rw [List.take_of_length_le (show (cM p nxt).length<=p.types.length by omega)]
    have hdl2 : (aF (ps.take i) n (n+ps.length)).length = i:=by rw [bV,List.length_take];omega
    have hmod:=ok.mod
    rw [show n+(ps.length : Int)+((cO (ps.take i)+p.types.length : Nat) : Int) = nxt+(p.types.length : Int) by omega,List.flatMap_append,List.flatMap_cons,List.flatMap_nil,List.append_nil] at hnx
    simp only [List.length_append,List.length_cons,List.length_nil] at hnx
    simp only [pmr,dL]
    refine ⟨Qa,Q0,Q0,Q0,fun hm0=>⟨Qa,Q0,fun _=>⟨Q4,?_⟩,fun h=>absurd hm0 h⟩,fun hm0=>⟨fun hm1=>⟨Qa,Q0,fun h=>absurd h hm0,fun _=>⟨fun _=>⟨Q4,?_⟩,fun h=>absurd hm1 h⟩⟩,fun hm1=>by omega⟩⟩
    ·rw [if_pos (show p.mod = 0 from hm0),if_neg (show ¬ p.mod = 1 by omega)] at hnx
     simp only [List.flatMap_append,List.flatMap_cons,List.flatMap_nil,List.append_nil,List.length_cons,List.length_nil,Nat.add_zero] at hnx
     rw [<-hpsl]
     rw [<-hpsl] at hnx
     exact hnx
    ·rw [if_neg (show ¬ p.mod = 0 from hm0),if_pos (show p.mod = 1 from hm1)] at hnx
     simp only [List.flatMap_append,List.flatMap_cons,List.flatMap_nil,List.append_nil,List.length_cons,List.length_nil,Nat.add_zero] at hnx
     rw [<-hpsl]
     rw [<-hpsl] at hnx
     exact hnx
  ·obtain rfl : i = ps.length:=Q0
   rw [List.take_length]
   refine qG hl Q2 hb hnm (by rw [bV];omega) (by have:=hpt ps.length;rw [List.take_length] at this;omega) hsq ?_
   rfl
 ·have hN : aq l = 1:=Q0
  rw [<-hM]
  refine ai (zk hl Q0) ?_
  simp only [pmr]
  have hok:=kM (l:=l) hn1
  have hlen:=dw l (aq l)
  have hpt:=Da fun p hp=>(hok p hp).t3
  have hb:=IF l
  have hnm:=xV l
  have hsq:=sH l
  have hfin : (fP l).enc = [.sl (cg l).length 6 ((cg l).flatMap ModT.enc),.sl (fM (aL l).length 0 (bg (cg l) l (aL l).length 0 (aL l) ⟨24,0,0,0⟩).1 (List.replicate (bg (cg l) l (aL l).length 0 (aL l) ⟨24,0,0,0⟩).2.temp.toNat id0) (gJ l)).length 31 ((fM (aL l).length 0 (bg (cg l) l (aL l).length 0 (aL l) ⟨24,0,0,0⟩).1 (List.replicate (bg (cg l) l (aL l).length 0 (aL l) ⟨24,0,0,0⟩).2.temp.toNat id0) (gJ l)).flatMap DefT.enc)]:=rfl
  rw [hfin]
  have hpm : cg l = [⟨idK 0,qF,[],aV 0 (aN l (aq l)) (aq l)⟩]:=by unfold cg;rw [if_pos hN,hN]
  have hds : aL l = aF (aN l (aq l)) (aq l) (aq l+(aN l (aq l)).length):=rfl
  have hnx : gJ l = aq l+(aN l (aq l)).length+cO (aN l (aq l)):=rfl
  rw [hds] at hb hnm hsq ⊢
  rw [hnx]
  rw [hpm] at hb hnm ⊢
  clear hfin hds hnx hpm
  generalize aN l (aq l) = ps at hok hlen hpt hb hnm hsq ⊢
  generalize aq l = n at hn1 hN hok hb hnm hsq ⊢
  refine ⟨Q4,?_⟩
  refine bl ps.length (fun i=>[[aY l],[vI n],[vI (n+ps.length+cO (ps.take i))],[vI (i : Nat)],[.sl 0 6 [],.sl 0 31 []],[.sl ps.length 11 (ps.flatMap PlanT.enc)],[aj (idK 0).shop,aj (idK 0).seq,aj (idK 0).index,vS qF,.sl 0 3 []],[.sl (aF (ps.take i) n (n+ps.length)).length 31 ((aF (ps.take i) n (n+ps.length)).flatMap DefT.enc)],[.sl (aV 0 (ps.take i) n).length 3 ((aV 0 (ps.take i) n).flatMap IdT.enc)]]) (fun _=>True) trivial (by rw [List.take_zero];simp only [cO,aF,aV,List.map_nil,List.sum_nil,Int.natCast_zero,Int.add_zero];rfl) fun i next hi _ hnext=>?_
  have h0:=iC 0 (ps.take i) n
  have h1:=iC 1 (ps.take i) n
  rw [List.length_take,Nat.min_eq_left hi] at h0 h1
  simp only [pmr]
  refine ⟨fun h=>?_,fun h=>?_⟩
  ·have hk : i < ps.length:=Q0
   have ok:=hok _ (List.getElem_mem hk)
   have hnx:=hnext hk trivial
   have hpi:=hpt i
   rw [tq hk,p6 hk,kV 0 hk] at hnx
   have hep:=el_Pl ps hk
   rw [hep]
   simp only [pmr,mq]
   generalize hnxt : n+(ps.length : Int)+(cO (ps.take i) : Int) = nxt at hnx ⊢
   generalize ps[i] = p at ok hnx hep ⊢
   refine ⟨Q4,ai (iY Q0 (by unfold InI;omega)) ⟨Q0,Q0,ai (iY ok.mod.1 (by unfold InI;have:=ok.mod;omega)) ⟨Q0,Q0,?_⟩⟩⟩
   have ok3:=ok.t3
   refine bl p.types.length (fun k=>[[aY l],[vI n],[vI (nxt+k)],[vI (i : Nat)],[vI (k : Nat)],[.sl 0 6 [],.sl 0 31 []],[.sl ps.length 11 (ps.flatMap PlanT.enc)],dL (iz p (n+i) nxt),[aj (idK 0).shop,aj (idK 0).seq,aj (idK 0).index,vS qF,.sl 0 3 []],[.sl (aF (ps.take i) n (n+ps.length)).length 31 ((aF (ps.take i) n (n+ps.length)).flatMap DefT.enc)],[.sl k 11 (((cM p nxt).take k).flatMap SlotT.enc)],[.sl (aV 0 (ps.take i) n).length 3 ((aV 0 (ps.take i) n).flatMap IdT.enc)]]) (fun _=>True) trivial (by simp only [pmr,pms,F0,Int.natCast_zero,Int.add_zero];rfl) fun k vV hkl _ hn2=>?_
   simp only [pmr]
   rw [hep]
   simp only [pmr,mq]
   have hnames:=ok.names
   have hpsl:=bE p nxt
   refine ⟨Q0,fun h=>?_,fun h=>?_⟩
   ·have hk2 : k < p.types.length:=Q0
    refine ai (iY Q0 (by unfold InI;omega)) ?_
    rw [lD p.names (show k < p.names.length by omega),qO _ hk2]
    simp only [pmr,dL]
    have hgo:=hn2 hk2 trivial
    rw [List.take_succ_eq_append_getElem (show k < (cM p nxt).length by omega),List.flatMap_append,List.flatMap_cons,List.flatMap_nil,List.append_nil,tj hk2 hnames] at hgo
    have hkd : (iz p (n+i) nxt).kind = p.kind:=rfl
    have hkk : ((nxt+(k : Int))+1) = nxt+((k+1 : Nat) : Int):=Q0
    refine ⟨Q0,Q0,Q0,Q0,fun h4=>⟨Q0,?_⟩,fun h4=>?_⟩
    ·have hbs:=ok.bases (by rw [<-hkd];exact h4)
     rw [lD p.bases (show k < p.bases.length by omega)]
     simp only [pmr]
     rw [if_pos (show p.kind = 4 by rw [<-hkd];exact h4),List.getD_eq_getElem?_getD,List.getElem?_eq_getElem (show k < p.bases.length by omega)] at hgo
     refine ⟨Q0,Qa,Q4,Q4,?_⟩
     rw [hkk]
     exact hgo
    ·rw [if_neg (show ¬ p.kind = 4 by rw [<-hkd];exact h4)] at hgo
     refine ⟨Qa,Q4,Q4,?_⟩
     rw [hkk]
     exact hgo
   ·obtain rfl : k = p.types.length:=Q0
    rw [List.take_of_length_le (show (cM p nxt).length<=p.types.length by omega)]
    have hdl2 : (aF (ps.take i) n (n+ps.length)).length = i:=by rw [bV,List.length_take];omega
    have hmod:=ok.mod
    rw [show n+(ps.length : Int)+((cO (ps.take i)+p.types.length : Nat) : Int) = nxt+(p.types.length : Int) by omega,List.flatMap_append,List.flatMap_cons,List.flatMap_nil,List.append_nil] at hnx
    simp only [List.length_append,List.length_cons,List.length_nil] at hnx
    simp only [pmr,dL]
    refine ⟨Qa,Q0,Q0,Q0,fun hm0=>⟨Qa,Q0,fun _=>⟨Q4,?_⟩,fun h=>absurd hm0 h⟩,fun hm0=>by omega⟩
    ·rw [if_pos (show p.mod = 0 from hm0)] at hnx
     simp only [List.flatMap_append,List.flatMap_cons,List.flatMap_nil,List.append_nil,List.length_cons,List.length_nil] at hnx
     rw [<-hpsl]
     rw [<-hpsl] at hnx
     exact hnx
  ·obtain rfl : i = ps.length:=Q0
   rw [List.take_length]
   refine qG hl Q2 hb hnm (by rw [bV];omega) (by have:=hpt ps.length;rw [List.take_length] at this;omega) hsq ?_
   rfl
open Go.Shelf Go.RowKit Go.Lib Go.Sort
def yR : Go.Shelf.Ren:=⟨fun | 6=>78 | 15=>157 | 14=>162 | 28=>209 | 29=>210 | 20=>211 | 21=>212 | 22=>213 | 23=>214 | 24=>215 | 25=>216 | 26=>217 | 27=>218 | 46=>243 | 47=>239 | 48=>240 | 49=>244 | 50=>245 | 57=>262 | n=>n,fun | 22=>36 | 24=>42 | 25=>114 | 3=>3 | 39=>207 | 0=>0 | 53=>256 | 55=>258 | 4=>4 | 46=>249 | 45=>248 | 50=>253 | 5=>5 | 9=>9 | 66=>279 | 70=>283 | 76=>293 | 77=>183 | n=>n,fun | n=>n⟩
theorem CP : SlLaysF0.n6 Tryz.prog yR:={
 mixed:=by kernel_rfl
 f6:=⟨Tryz.f78.name,Q1,Tryz.func78.trans (congrArg some (by kernel_rfl))⟩
 f14:=⟨Tryz.f162.name,Q1,Tryz.func162.trans (congrArg some (by kernel_rfl))⟩
 f15:=Tryz.func157.trans (congrArg some (by kernel_rfl))
 f20:=⟨Tryz.f211.name,Q1,Tryz.func211.trans (congrArg some (by kernel_rfl))⟩
 f21:=⟨Tryz.f212.name,Q1,Tryz.func212.trans (congrArg some (by kernel_rfl))⟩
 f22:=⟨Tryz.f213.name,Q1,Tryz.func213.trans (congrArg some (by kernel_rfl))⟩
 f23:=⟨Tryz.f214.name,Q1,Tryz.func214.trans (congrArg some (by kernel_rfl))⟩
 f24:=⟨Tryz.f215.name,Q1,Tryz.func215.trans (congrArg some (by kernel_rfl))⟩
 f25:=⟨Tryz.f216.name,Q1,Tryz.func216.trans (congrArg some (by kernel_rfl))⟩
 f26:=⟨Tryz.f217.name,Q1,Tryz.func217.trans (congrArg some (by kernel_rfl))⟩
 f27:=⟨Tryz.f218.name,Q1,Tryz.func218.trans (congrArg some (by kernel_rfl))⟩
 f28:=Tryz.func209.trans (congrArg some (by kernel_rfl))
 f29:=Tryz.func210.trans (congrArg some (by kernel_rfl))
 f46:=⟨Tryz.f243.name,Q1,Tryz.func243.trans (congrArg some (by kernel_rfl))⟩
 f47:=Tryz.func239.trans (congrArg some (by kernel_rfl))
 f48:=Tryz.func240.trans (congrArg some (by kernel_rfl))
 f49:=⟨Tryz.f244.name,Q1,Tryz.func244.trans (congrArg some (by kernel_rfl))⟩
 f50:=⟨Tryz.f245.name,Q1,Tryz.func245.trans (congrArg some (by kernel_rfl))⟩
 f57:=⟨Tryz.f262.name,Q1,Tryz.func262.trans (congrArg some (by kernel_rfl))⟩
 t0:=Tryz.underlying0
 a0:=Tryz.isAgg0
 z0:=Tryz.sizeOf0
 v0:=Tryz.zeroValue0
 t3:=Tryz.underlying3
 a3:=Tryz.isAgg3
 z3:=Tryz.sizeOf3
 v3:=Tryz.zeroValue3
 t4:=Tryz.underlying4
 a4:=Tryz.isAgg4
 z4:=Tryz.sizeOf4
 v4:=Tryz.zeroValue4
 t5:=Tryz.underlying5
 a5:=Tryz.isAgg5
 z5:=Tryz.sizeOf5
 v5:=Tryz.zeroValue5
 t9:=Tryz.underlying9
 a9:=Tryz.isAgg9
 z9:=Tryz.sizeOf9
 v9:=Tryz.zeroValue9
 t22:=Tryz.underlying36
 a22:=Tryz.isAgg36
 z22:=Tryz.sizeOf36
 v22:=Tryz.zeroValue36
 t25:=Tryz.underlying114
 a25:=Tryz.isAgg114
 z25:=Tryz.sizeOf114
 v25:=Tryz.zeroValue114
 t39:=Tryz.underlying207
 a39:=Tryz.isAgg207
 z39:=Tryz.sizeOf207
 v39:=Tryz.zeroValue207
 t45:=Tryz.underlying248
 a45:=Tryz.isAgg248
 z45:=Tryz.sizeOf248
 v45:=Tryz.zeroValue248
 t46:=Tryz.underlying249
 a46:=Tryz.isAgg249
 z46:=Tryz.sizeOf249
 v46:=Tryz.zeroValue249
 t50:=Tryz.underlying253
 a50:=Tryz.isAgg253
 z50:=Tryz.sizeOf253
 v50:=Tryz.zeroValue253
 t53:=Tryz.underlying256
 a53:=Tryz.isAgg256
 z53:=Tryz.sizeOf256
 v53:=Tryz.zeroValue256
 t55:=Tryz.underlying258
 a55:=Tryz.isAgg258
 z55:=Tryz.sizeOf258
 v55:=Tryz.zeroValue258
 t66:=Tryz.underlying279
 a66:=Tryz.isAgg279
 z66:=Tryz.sizeOf279
 v66:=Tryz.zeroValue279
 t70:=Tryz.underlying283
 a70:=Tryz.isAgg283
 z70:=Tryz.sizeOf283
 v70:=Tryz.zeroValue283
 t76:=Tryz.underlying293
 a76:=Tryz.isAgg293
 z76:=Tryz.sizeOf293
 v76:=Tryz.zeroValue293
 t77:=Tryz.underlying183
 a77:=Tryz.isAgg183
 z77:=Tryz.sizeOf183
 v77:=Tryz.zeroValue183 }
def FF : Go.Shelf.Ren:=⟨fun | 5=>56 | 7=>158 | n=>n,fun | 22=>3 | 3=>3 | 4=>4 | n=>n,fun | n=>n⟩
theorem cmpIL : SlLaysC2.n5 Tryz.prog FF:={
 mixed:=by kernel_rfl
 f5:=⟨Tryz.f56.name,Q1,Tryz.func56.trans (congrArg some (by kernel_rfl))⟩
 f7:=⟨Tryz.f158.name,Q1,Tryz.func158.trans (congrArg some (by kernel_rfl))⟩
 t3:=Tryz.underlying3
 a3:=Tryz.isAgg3
 z3:=Tryz.sizeOf3
 v3:=Tryz.zeroValue3
 t4:=Tryz.underlying4
 a4:=Tryz.isAgg4
 z4:=Tryz.sizeOf4
 v4:=Tryz.zeroValue4
 t22:=Tryz.underlying3
 a22:=Tryz.isAgg3
 z22:=Tryz.sizeOf3
 v22:=Tryz.zeroValue3 }
set_option maxHeartbeats 1000000 in
theorem or54 (x y z : Int) (b : Nat) (W : World) (h0 : W.cell? ⟨b,0,none⟩ = some (.int .i64 x)) (h1 : W.cell? ⟨b,1,none⟩ = some (.int .i64 y)) (h2 : W.cell? ⟨b,2,none⟩ = some (.int .i64 z)) :
  Calls Tryz.prog 54 #[.slice (some ⟨b,0,none⟩) 3 3] W fun e w'=>e = .returned (.int .i64 (if x = 0 then (if y = 0 then z else y) else x))/\w' = W:=by
 generalize hr : (if x = 0 then (if y = 0 then z else y) else x) = r
 go_enter Tryz.func54,Tryz.ntmps54
 go_wp2
 refine wp_loop_rounds 4 ?_
 rw [rounds_succ]
 go_wp2
 ·go_ret
  refine ⟨?_,rfl⟩
  simp_all
 rw [rounds_succ]
 go_wp2
 ·go_ret
  refine ⟨?_,rfl⟩
  simp_all
 rw [rounds_succ]
 go_wp2
 ·go_ret
  refine ⟨?_,rfl⟩
  simp_all
 rw [rounds_succ]
 go_wp2
 go_ret
 refine ⟨?_,rfl⟩
 simp_all
theorem al3 (W : World) (a b c : Value) (k : Nat) (v : Value) (hk : #[a,b,c][k]? = some v) : (W.alloc (.cells #[a,b,c] 3)).cell? ⟨W.heap.size,k,none⟩ = some v:=by
 have h : (W.alloc (.cells #[a,b,c] 3)).heap[W.heap.size]? = some (.cells #[a,b,c] 3):=by
  show (W.heap.push _)[W.heap.size]? = _
  exact Array.getElem?_push_size
 unfold World.cell?
 rw [h]
 exact hk
set_option maxRecDepth 20000 in
set_option maxHeartbeats 2000000 in
theorem order55 (x y : Int×Int×Int) (W : World) : Calls Tryz.prog 55 #[.agg #[.int .i64 x.1,.int .i64 x.2.1,.int .i64 x.2.2],.agg #[.int .i64 y.1,.int .i64 y.2.1,.int .i64 y.2.2]] W fun e w' =>
  e = .returned (.int .i64 (if Lib.compareInt x.1 y.1 = 0 then (if Lib.compareInt x.2.1 y.2.1 = 0 then Lib.compareInt x.2.2 y.2.2 else Lib.compareInt x.2.1 y.2.1) else Lib.compareInt x.1 y.1))/\∃ q os',w' = grow (W.drewN q) os':=by
 have hcmp : ∀ (a b : Int) (W' : World),Calls Tryz.prog 56 #[.int .i64 a,.int .i64 b] W' fun e w'=>e = .returned (.int .i64 (Lib.compareInt a b))/\w' = W':=fun a b W'=>AnyG.cmp_Compare_int cmpIL a b W'
 obtain ⟨x1,x2,x3⟩:=x
 obtain ⟨y1,y2,y3⟩:=y
 dsimp only
 generalize hr : (if Lib.compareInt x1 y1 = 0 then (if Lib.compareInt x2 y2 = 0 then Lib.compareInt x3 y3 else Lib.compareInt x2 y2) else Lib.compareInt x1 y1) = r
 go_enter Tryz.func55,Tryz.ntmps55
 go_wp2
 have hg : (W.alloc (.cells #[.int .i64 x1,.int .i64 x2,.int .i64 x3] 42)).alloc (.cells #[.int .i64 y1,.int .i64 y2,.int .i64 y3] 42) = grow W #[.cells #[.int .i64 x1,.int .i64 x2,.int .i64 x3] 42,.cells #[.int .i64 y1,.int .i64 y2,.int .i64 y3] 42]:=by
  rw [alloc_eq_grow,alloc_eq_grow,grow_grow];rfl
 rw [hg]
 have c1 : (grow W #[.cells #[.int .i64 x1,.int .i64 x2,.int .i64 x3] 42,.cells #[.int .i64 y1,.int .i64 y2,.int .i64 y3] 42]).heap[W.heap.size]? = some (.cells #[.int .i64 x1,.int .i64 x2,.int .i64 x3] 42):=by simp [grow]
 have c2 : (grow W #[.cells #[.int .i64 x1,.int .i64 x2,.int .i64 x3] 42,.cells #[.int .i64 y1,.int .i64 y2,.int .i64 y3] 42]).heap[W.heap.size+1]? = some (.cells #[.int .i64 y1,.int .i64 y2,.int .i64 y3] 42):=by simp [grow]
 generalize hW1 : grow W #[.cells #[.int .i64 x1,.int .i64 x2,.int .i64 x3] 42,.cells #[.int .i64 y1,.int .i64 y2,.int .i64 y3] 42] = W1 at c1 c2 ⊢
 refine wp_region_still_tail 15 (by kernel_rfl) (by kernel_rfl) ?_
 simp only [List.take_succ_cons,List.take_zero,List.drop_succ_cons,List.drop_zero]
 generalize hW2 : ({ heap:=W1.heap,tape:=W1.tape,drawn:=W1.drawn+1,os:=W1.os,output:=W1.output } : World) = W2
 have c10 : W2.cell? ⟨W.heap.size,0,none⟩ = some (.int .i64 x1):=by rw [<-hW2];simp [World.cell?,c1]
 have c11 : W2.cell? ⟨W.heap.size,1,none⟩ = some (.int .i64 x2):=by rw [<-hW2];simp [World.cell?,c1]
 have c12 : W2.cell? ⟨W.heap.size,2,none⟩ = some (.int .i64 x3):=by rw [<-hW2];simp [World.cell?,c1]
 have c20 : W2.cell? ⟨W.heap.size+1,0,none⟩ = some (.int .i64 y1):=by rw [<-hW2];simp [World.cell?,c2]
 have c21 : W2.cell? ⟨W.heap.size+1,1,none⟩ = some (.int .i64 y2):=by rw [<-hW2];simp [World.cell?,c2]
 have c22 : W2.cell? ⟨W.heap.size+1,2,none⟩ = some (.int .i64 y3):=by rw [<-hW2];simp [World.cell?,c2]
 repeat still_step
 still_call (hcmp _ _ _)
 repeat still_step
 still_call (hcmp _ _ _)
 repeat still_step
 still_call (hcmp _ _ _)
 refine wpStill_nil ?_
 have hor : Calls Tryz.prog 54 #[.slice (some ⟨W2.heap.size,0,none⟩) 3 3] (W2.alloc (.cells #[.int .i64 (Lib.compareInt x1 y1),.int .i64 (Lib.compareInt x2 y2),.int .i64 (Lib.compareInt x3 y3)] 3)) _ :=
  or54 (Lib.compareInt x1 y1) (Lib.compareInt x2 y2) (Lib.compareInt x3 y3) W2.heap.size _ (al3 _ _ _ _ _ _ rfl) (al3 _ _ _ _ _ _ rfl) (al3 _ _ _ _ _ _ rfl)
 rw [hr] at hor
 go_wp2_with (go_at_call 54;refine hor.mono ?_;rintro e w' ⟨rfl,rfl⟩)
 go_ret
 refine ⟨rfl,1,#[.cells #[.int .i64 x1,.int .i64 x2,.int .i64 x3] 42,.cells #[.int .i64 y1,.int .i64 y2,.int .i64 y3] 42,.cells #[.int .i64 (Lib.compareInt x1 y1),.int .i64 (Lib.compareInt x2 y2),.int .i64 (Lib.compareInt x3 y3)] 3],?_⟩
 rw [<-hW2,<-hW1,alloc_eq_grow]
 rfl
end Go.Proofs.YtmbboaapillefaaGreatDoor

namespace Go.Proofs.YtmbboaapillefaaGreatDoor
open Go Xe Pm Go.Sort Go.Lib Go.RowKit
def cfI (x y : IdT) : Int:=if Lib.compareInt x.shop y.shop = 0 then (if Lib.compareInt x.seq y.seq = 0 then Lib.compareInt x.index y.index else Lib.compareInt x.seq y.seq) else Lib.compareInt x.shop y.shop
theorem Cf (a b : Int) : Lib.compareInt a b < 0↔a < b:=by
 unfold Lib.compareInt
 by_cases h1 : a < b
 ·simp [h1]
 ·by_cases h2 : b < a <;> simp [h1,h2]
theorem cmp_eq (a b : Int) : Lib.compareInt a b = 0↔a = b:=by
 unfold Lib.compareInt
 by_cases h1 : a < b
 ·simp [h1];omega
 ·by_cases h2 : b < a
  ·simp [h1,h2];omega
  ·simp [h1,h2];omega
theorem zM (x y : IdT) : ltOf cfI x y = ltI x y:=by
 unfold ltOf cfI ltI
 refine decide_eq_decide.2 ?_
 by_cases h1 : x.shop = y.shop
 ·rw [if_pos ((cmp_eq _ _).2 h1)]
  by_cases h2 : x.seq = y.seq
  ·rw [if_pos ((cmp_eq _ _).2 h2),Cf];omega
  ·rw [if_neg (fun h=>h2 ((cmp_eq _ _).1 h)),Cf];omega
 ·rw [if_neg (fun h=>h1 ((cmp_eq _ _).1 h)),Cf];omega
theorem swoI : SWO (ltOf cfI) where
 irrefl x:=by rw [zM];exact oO x
 trans x y z h1 h2:=by rw [zM] at *;exact qc h1 h2
 ntrans x y z h1 h2:=by rw [zM] at *;exact xW h1 h2
theorem sort_eq (l : List IdT) : (l.toArray.toList.mergeSort fun x y=>!(ltOf cfI) y x) = cQ l:=by
 unfold cQ
 congr 1
 funext x y
 rw [zM]
theorem yD : ∀ (l : List IdT) (t : Nat) (h : t < l.length * 3),(l.flatMap IdT.vals)[t]? = some ((l[t / 3]'Q0).vals[t % 3]'(by show t % 3 < 3;omega))
 | x::l,0,h=>rfl
 | x::l,1,h=>rfl
 | x::l,2,h=>rfl
 | x::l,t+3,h=>by
  have ih:=yD l t (by simp at h;omega)
  have e1 : (t+3) / 3 = t / 3+1:=Q0
  have e2 : (t+3) % 3 = t % 3:=Q0
  simp only [e1,e2,List.getElem_cons_succ]
  exact ih
theorem hG (l : List IdT) : (l.flatMap IdT.vals).length = l.length * 3:=by
 induction l with
 | nil=>rfl
 | cons x l ih=>rw [List.flatMap_cons,List.length_append,ih,List.length_cons];show 3+_ = _;omega
theorem Ae (l : List IdT) (t : Nat) (h : t < l.length * 3) : (flatK IdT.vals 3 l.toArray)[t]! = (l.flatMap IdT.vals)[t]'(by rw [hG];exact h):=by
 have h3 : t / 3 < l.length:=Q0
 rw [get_flatK _ _ _ _ (by simpa using h)]
 have e:=yD l t h
 rw [List.getElem?_eq_getElem (by rw [hG];exact h),Option.some.injEq] at e
 rw [e]
 have e2 : l.toArray[t / 3]! = l[t / 3]:=by simp [h3]
 rw [e2]
 exact getElem!_pos _ _ (by show t % 3 < 3;omega)
theorem Gy (l : List IdT) (cur : Array Value) (h : l.length * 3<=cur.size) : (putCells id 0 (flatK IdT.vals 3 l.toArray) cur).toList.take (l.length * 3) = l.flatMap IdT.vals:=by
 refine List.ext_getElem? fun t=>?_
 rw [List.getElem?_take]
 by_cases ht : t < l.length * 3
 ·rw [if_pos ht]
  have hf:=Ae l t ht
  unfold putCells
  rw [Array.getElem?_toList,Array.getElem?_mapIdx,Array.getElem?_eq_getElem Q0]
  simp only [Option.map_some,Nat.zero_le,Nat.zero_add,size_flatK,List.size_toArray,true_and,ht,if_true,Nat.sub_zero,hf]
  rw [List.getElem?_eq_getElem (by rw [hG];exact ht)]
  rfl
 ·rw [if_neg ht,List.getElem?_eq_none (by rw [hG];omega)]
theorem St.repl {w0 w w' : World} {M : Mem} {Γ : List As} {b : Nat} {o o' : Obj} (h : St w0 M (.raw b o::Γ) w) (h1 : w'.os = w.os) (h2 : w'.tape = w.tape) (h3 : w'.output = w.output) (h4 : w.heap.size<=w'.heap.size) (h5 : w'.heap[b]? = some o')
  (h6 : ∀ c,c ≠ b->c < w.heap.size->w'.heap[c]? = w.heap[c]?) : St w0 M (.raw b o'::Γ) w':=by
 obtain ⟨hM,hb⟩:=h.all _ (List.mem_cons_self ..)
 have hnd:=h.nodup
 simp only [List.filterMap_cons,As.blk] at hnd
 refine ⟨h1.trans h.os,h2.trans h.tape,h3.trans h.output,Nat.le_trans h.size h4,fun c x hc=>?_,fun x hx=>?_,by simpa [List.filterMap_cons,As.blk] using h.nodup⟩
 ·rw [h6 c (fun e=>by subst e;rw [hM] at hc;cases hc) (h.lt hc)];exact h.mem c x hc
 ·rcases List.mem_cons.1 hx with rfl | hm
  ·exact ⟨hM,h5⟩
  ·have hx':=h.all x (List.mem_cons_of_mem _ hm)
   refine As.dX hx' (Sub.refl M) fun c hc=>⟨h6 c (fun e=>?_) (As.aD hx' hc).1,(As.aD hx' hc).2⟩
   subst e
   exact (List.nodup_cons.1 hnd).1 (ga hm hc)
theorem rd_map {M : Mem} {xs us : List Value} (h : RdL M (xs.map D.v) us) : us = xs:=by
 have hl : us.length = xs.length:=by simpa using h.1
 refine List.ext_getElem hl fun k h1 h2=>?_
 have:=h.2 k (.v xs[k]) us[k] (by rw [List.getElem?_map,List.getElem?_eq_getElem h2];rfl) (List.getElem?_eq_getElem h1)
 unfold Xe.Rd at this
 exact this.1
theorem uy (l : List IdT) : l.flatMap IdT.enc = (l.flatMap IdT.vals).map D.v:=by
 induction l with
 | nil=>rfl
 | cons x l ih=>rw [List.flatMap_cons,List.flatMap_cons,List.map_append,ih];rfl
theorem ids_rd {M : Mem} {l : List IdT} {us : List Value} (h : RdL M (l.flatMap IdT.enc) us) : us = l.flatMap IdT.vals:=rd_map (by rw [<-uy];exact h)
theorem ids_rdL {M : Mem} (l : List IdT) : RdL M (l.flatMap IdT.enc) (l.flatMap IdT.vals):=by
 refine ⟨by rw [uy,List.length_map],fun k d u h1 h2=>?_⟩
 rw [uy,List.getElem?_map,h2] at h1
 simp only [Option.map_some,Option.some.injEq] at h1
 subst h1
 unfold Xe.Rd
 refine ⟨rfl,?_⟩
 obtain ⟨x,hx,hu⟩:=List.mem_flatMap.1 (List.mem_of_getElem? h2)
 simp only [IdT.vals,List.mem_cons,List.not_mem_nil,or_false] at hu
 rcases hu with rfl | rfl | rfl <;> rfl
def frS (n : Nat) (ds : List D) : Fr:=⟨fun i=>match Nat.beq i 1 with
 | true=>.c (.f 55 [])
 | false=>match Nat.beq i 0 with
  | true=>.c (.w 0)
  | false=>su,AT 0 (.w 42 3 n ds) (fun _=>none),1⟩
theorem unS78 (n : Nat) (ds : List D) (K : Fr->Prop) : unpack aB s78.ins [[.sl n 3 ds]] K = K (frS n ds):=by
 show aa 3 (.sl n 3 ds) (fun n ds=>K (frS n ds)) = K (frS n ds)
 rw [sK]
def frO (n : Nat) (ds : List D) : Fr:=⟨fun _=>su,AT 0 (.w 42 3 n ds) (fun _=>none),1⟩
theorem unO78 (n : Nat) (ds : List D) (K : Fr->Prop) : unpack aB (fE s78) [[.sl n 3 ds]] K = K (frO n ds):=by
 show aa 3 (.sl n 3 ds) (fun n ds=>K (frO n ds)) = K (frO n ds)
 rw [sK]
theorem lays55 (blk off size : Nat) (w : World) : CmpLays Tryz.prog 55 #[] IdT.vals 3 cfI blk off size w:=fun _ _ _ _ x y=>order55 (x.shop,x.seq,x.index) (y.shop,y.seq,y.index) _
theorem xl : yz:=by
 intro l hl
 unfold IS Pm.Is
 rw [unS78]
 intro w0 Γ0 ρ M lst vs w hlen hρ hR
 have h0 : ∃ v,vals vs 0 = some v/\SR M ρ (.c (.w 0)) v:=(hR.sl 0).resolve_left (by unfold su;simp [frS])
 have h1 : ∃ v,vals vs 1 = some v/\SR M ρ (.c (.f 55 [])) v:=(hR.sl 1).resolve_left (by unfold su;simp [frS])
 obtain ⟨v0,hv0,hr0,_⟩:=h0
 obtain ⟨v1,hv1,us1,hr1,hu1⟩:=h1
 obtain ⟨ad,c,us,k1,k2,k3,k4,k5⟩:=hR.ob 0 (.w 42 3 l.length (l.flatMap IdT.enc)) rfl
 rw [k1] at hr0
 simp only [Option.some.injEq] at hr0
 subst hr0
 have hus:=ids_rd k3
 subst hus
 have hvs : vs = [.slice ad l.length c,v1]:=by
  have hl2 : vs.length = 2:=hlen
  match vs,hl2 with
  | [a,b],_ =>
   have e1 : a = .slice ad l.length c:=by simpa [vals] using hv0
   have e2 : b = v1:=by simpa [vals] using hv1
   rw [e1,e2]
 subst hvs
 have hu0 : us1 = []:=by
  cases us1 with
  | nil=>rfl
  | cons x xs=>exact hu1.elim
 subst hu0
 have hk0 : ∀ p∈lst,p.1 = 0:=fun p hp=>by
  have:=hρ _ (hR.keys p hp)
  simpa [s78] using this
 have hlst : lst = [(0,.acc (.slice ad l.length c) 42 3 l.length (l.flatMap IdT.vals))]:=by
  have hnd:=hR.nd
  match lst,k2,hk0,hnd with
  | [p],k2,_,_=>rw [List.mem_singleton.1 k2]
  | p::q::_,_,hk0,hnd =>
   have e1:=hk0 p (List.mem_cons_self ..)
   have e2:=hk0 q (List.mem_cons_of_mem _ (List.mem_cons_self ..))
   rw [List.map_cons,List.map_cons] at hnd
   exact absurd (by rw [e1,e2];exact List.mem_cons_self ..) (List.nodup_cons.1 hnd).1
 subst hlst
 have hst : St w0 M (.acc (.slice ad l.length c) 42 3 l.length (l.flatMap IdT.vals)::Γ0) w:=hR.st
 have hacc:=hst.all _ (List.mem_cons_self ..)
 obtain ⟨⟨_,hh⟩,hMb⟩:=hacc
 have fin : ∀ w',St w0 M (.acc (.slice ad l.length c) 42 3 l.length ((cQ l).flatMap IdT.vals)::Γ0) w'->Pm.Left w0 Γ0 ρ M s78 [[dI (cQ l)]] (.returned (.tuple #[])) w':=fun w' hw'=>by
  refine ⟨.tuple #[],[],ρ,M,[(0,.acc (.slice ad l.length c) 42 3 l.length ((cQ l).flatMap IdT.vals))],frO (cQ l).length ((cQ l).flatMap IdT.enc),rfl,⟨rfl,rfl⟩,Sub.refl M,fun _ _ h _=>h,fun i hi=>hρ i hi,fun p hp=>?_,?_,⟨fun t=>.inl rfl,fun b o hb=>?_,fun b v hv=>?_,fun p hp=>?_,Q2,hw',hR.gr⟩⟩
  ·rw [List.mem_singleton.1 hp];exact List.mem_cons_self ..
  ·rw [unO78]
  ·cases b with
   | zero =>
    obtain rfl : O.w 42 3 (cQ l).length ((cQ l).flatMap IdT.enc) = o:=Option.some.inj hb
    refine ⟨ad,c,(cQ l).flatMap IdT.vals,by rw [k1,gU],by rw [gU];exact List.mem_cons_self ..,ids_rdL _,hG _,by rw [gU];exact k5⟩
   | succ b=>cases hb
  ·have:=hρ b (by rw [hv];rfl)
   left
   show b < 1
   have : b = 0:=by simpa [s78] using this
   omega
  ·rw [List.mem_singleton.1 hp,k1];rfl
 rcases hh with ⟨e1,e2⟩ | ⟨g0,cap,cur,e1,_,hb,hnc,hcm,hcs,htk⟩
 ·simp only [Value.slice.injEq] at e1
  obtain ⟨rfl,_,rfl⟩:=e1
  have hl0 : l = []:=List.eq_nil_of_length_eq_zero e2
  subst hl0
  have hcon:=AnyF.slices_SortFunc_none CP none 0 v1 w
  refine hcon.mono ?_
  rintro e w' ⟨rfl,rfl⟩
  exact fin _ (by rw [show cQ [] = [] by simp [cQ]];exact hst)
 ·simp only [Value.slice.injEq] at e1
  obtain ⟨rfl,_,rfl⟩:=e1
  have hblk : g0 < w.heap.size:=(Array.getElem?_eq_some_iff.1 hb).1
  have hle : l.length * 3<=cur.size:=by rw [hcs];exact Nat.mul_le_mul_right _ hnc
  have hH : HoldsK IdT.vals 3 w g0 0 l.toArray:=fun j hj=>by
   rw [size_flatK,List.size_toArray] at hj
   have hf:=Ae l j hj
   refine ⟨?_,?_⟩
   ·unfold World.cell?
    rw [hb]
    show cur[0+j]? = some (flatK IdT.vals 3 l.toArray)[j]!
    rw [hf,Nat.zero_add,<-Array.getElem?_toList]
    have : (cur.toList.take (l.length * 3))[j]? = some ((l.flatMap IdT.vals)[j]'(by rw [hG];exact hj)):=by rw [htk,List.getElem?_eq_getElem]
    rwa [List.getElem?_take,if_pos hj] at this
   ·unfold World.frozen?
    rw [hb]
    show (decide (0<=0+j) && decide (0+j < 0)) = false
    simp
  have eg : ∀ args w,(callFunc 55 args).run Tryz.prog w = .ok (.enter 55 args) w:=enters_of Tryz.func55 (by kernel_rfl) rfl
  have hcon:=AnyQ.slices_SortFunc_total CP 3 Tryz.isAgg42 Tryz.sizeOf42 IdT.vals (fun _=>rfl) (fun x v hv=>by
   simp only [IdT.vals,List.mem_cons,List.not_mem_nil,or_false] at hv
   rcases hv with rfl | rfl | rfl <;> rfl) cfI swoI 55 #[] g0 0 c l.toArray w eg (lays55 _ _ _ _) hH hblk (by simp;unfold lim at k5;omega) (fun x y h1 h2=>by rw [zM] at h1 h2;exact BL h1 h2)
  have hcon' : Calls Tryz.prog 78 #[.slice (some ⟨g0,0,none⟩) l.length c,v1] w (fun e w'=>e = .returned (.tuple #[])/\∃ n os,w' = sortWorldK IdT.vals 3 w g0 0 n (l.toArray.toList.mergeSort fun x y=>!(ltOf cfI) y x).toArray os):=by rw [hr1];exact hcon
  refine hcon'.mono ?_
  rintro e w' ⟨rfl,m,os,rfl⟩
  rw [sort_eq]
  refine fin _ ?_
  have hraw : St w0 M (.raw g0 (.cells cur 42 (0,0))::Γ0) w:=by
   refine ⟨hst.os,hst.tape,hst.output,hst.size,hst.mem,fun x hx=>?_,by simpa [List.filterMap_cons,As.blk,Value.ownBlock] using hst.nodup⟩
   rcases List.mem_cons.1 hx with rfl | hx
   ·exact ⟨hMb g0 rfl,hb⟩
   ·exact hst.all x (List.mem_cons_of_mem _ hx)
  have hmod : (sortWorldK IdT.vals 3 w g0 0 m (cQ l).toArray os).heap[g0]? = some (.cells (putCells id 0 (flatK IdT.vals 3 (cQ l).toArray) cur) 42 (0,0)):=by
   show ((w.heap.modify g0 (onCells (putCells id 0 (flatK IdT.vals 3 (cQ l).toArray))))++os)[g0]? = _
   rw [Array.getElem?_append_left (by simpa using hblk),Array.getElem?_modify,if_pos rfl,hb]
   rfl
  have hrep:=St.repl hraw (w':=sortWorldK IdT.vals 3 w g0 0 m (cQ l).toArray os) rfl rfl rfl (by
   show w.heap.size<=((w.heap.modify g0 (onCells (putCells id 0 (flatK IdT.vals 3 (cQ l).toArray))))++os).size
   simp) hmod (fun b hne hlt=>by
   show ((w.heap.modify g0 (onCells (putCells id 0 (flatK IdT.vals 3 (cQ l).toArray))))++os)[b]? = _
   rw [Array.getElem?_append_left (by simpa using hlt),Array.getElem?_modify,if_neg (Ne.symm hne)])
  have hsl:=gU l
  exact hrep.rowOf hnc hcm (by unfold putCells;rw [Array.size_mapIdx];exact hcs) (by rw [hG,hsl]) (by rw [<-hsl];exact Gy _ _ (by rw [hsl];exact hle))
end Go.Proofs.YtmbboaapillefaaGreatDoor

namespace Go.Proofs.YtmbboaapillefaaGreatDoor
open Go Xe Pm
set_option maxRecDepth 100000
abbrev jI : Sig:=⟨178,⟨[(0,.c (.w 0)),(1,.c (.f 99 []))],[(0,.w 70 38)]⟩,.t [],[(0,.w 70 38)],false⟩
abbrev cS : Sig:=⟨178,⟨[(0,.c (.w 0)),(1,.c (.f 107 []))],[(0,.w 70 38)]⟩,.t [],[(0,.w 70 38)],false⟩
abbrev s97 : Sig:=⟨97,⟨[(0,.c (.m 0)),(1,.c .i),(2,.c (.f 98 [])),(3,.c (.f 99 []))],[(0,.ms 148 true 38)]⟩,.c (.w 1),[(1,.w 70 38),(0,.ms 148 true 38)],false⟩
abbrev Gk : Sig:=⟨97,⟨[(0,.c (.m 0)),(1,.c .i),(2,.c (.f 98 [])),(3,.c (.f 107 []))],[(0,.ms 148 true 38)]⟩,.c (.w 1),[(1,.w 70 38),(0,.ms 148 true 38)],false⟩
abbrev Gj : Sig:=⟨97,⟨[(0,.c (.m 0)),(1,.c .i),(2,.c (.f 182 [.p 1 0])),(3,.c (.f 99 []))],[(0,.ms 148 true 38),(1,.a 42 3)]⟩,.c (.w 2),[(2,.w 70 38),(0,.ms 148 true 38),(1,.a 42 3)],false⟩
abbrev Gi : Sig:=⟨97,⟨[(0,.c (.m 0)),(1,.c .i),(2,.c (.f 182 [.p 1 0])),(3,.c (.f 107 []))],[(0,.ms 148 true 38),(1,.a 42 3)]⟩,.c (.w 2),[(2,.w 70 38),(0,.ms 148 true 38),(1,.a 42 3)],false⟩
abbrev Gh : Sig:=⟨97,⟨[(0,.c (.m 0)),(1,.c .i),(2,.c (.f 106 [.p 1 0])),(3,.c (.f 99 []))],[(0,.ms 148 true 38),(1,.a 70 38)]⟩,.c (.w 2),[(2,.w 70 38),(0,.ms 148 true 38),(1,.a 70 38)],false⟩
abbrev Gg : Sig:=⟨97,⟨[(0,.c (.m 0)),(1,.c .i),(2,.c (.f 106 [.p 1 0])),(3,.c (.f 107 []))],[(0,.ms 148 true 38),(1,.a 70 38)]⟩,.c (.w 2),[(2,.w 70 38),(0,.ms 148 true 38),(1,.a 70 38)],false⟩
abbrev Gf : Sig:=⟨97,⟨[(0,.c (.m 0)),(1,.c .i),(2,.c (.f 98 [])),(3,.c (.f 99 []))],[(0,.m 148 true 38)]⟩,.c (.w 1),[(1,.w 70 38),(0,.ms 148 true 38)],false⟩
abbrev Ge : Sig:=⟨97,⟨[(0,.c (.m 0)),(1,.c .i),(2,.c (.f 98 [])),(3,.c (.f 107 []))],[(0,.m 148 true 38)]⟩,.c (.w 1),[(1,.w 70 38),(0,.ms 148 true 38)],false⟩
abbrev Gd : Sig:=⟨97,⟨[(0,.c (.m 0)),(1,.c .i),(2,.c (.f 182 [.p 1 0])),(3,.c (.f 99 []))],[(0,.m 148 true 38),(1,.a 42 3)]⟩,.c (.w 2),[(2,.w 70 38),(0,.ms 148 true 38),(1,.a 42 3)],false⟩
abbrev Gc : Sig:=⟨97,⟨[(0,.c (.m 0)),(1,.c .i),(2,.c (.f 182 [.p 1 0])),(3,.c (.f 107 []))],[(0,.m 148 true 38),(1,.a 42 3)]⟩,.c (.w 2),[(2,.w 70 38),(0,.ms 148 true 38),(1,.a 42 3)],false⟩
abbrev Bh : Sig:=⟨97,⟨[(0,.c (.m 0)),(1,.c .i),(2,.c (.f 106 [.p 1 0])),(3,.c (.f 99 []))],[(0,.m 148 true 38),(1,.a 70 38)]⟩,.c (.w 2),[(2,.w 70 38),(0,.ms 148 true 38),(1,.a 70 38)],false⟩
abbrev Bg : Sig:=⟨97,⟨[(0,.c (.m 0)),(1,.c .i),(2,.c (.f 106 [.p 1 0])),(3,.c (.f 107 []))],[(0,.m 148 true 38),(1,.a 70 38)]⟩,.c (.w 2),[(2,.w 70 38),(0,.ms 148 true 38),(1,.a 70 38)],false⟩
abbrev s98 : Sig:=⟨98,⟨[(0,.a 38)],[]⟩,.c .bo,[],true⟩
abbrev uZ : Sig:=⟨182,⟨[(0,.a 38),(1,.c (.p 0 0))],[(0,.a 42 3)]⟩,.c .bo,[(0,.a 42 3)],false⟩
abbrev u9 : Sig:=⟨106,⟨[(0,.a 38),(1,.c (.p 0 0))],[(0,.a 70 38)]⟩,.c .bo,[(0,.a 70 38)],false⟩
abbrev s99 : Sig:=⟨99,⟨[(0,.a 38),(1,.a 38)],[]⟩,.c .i,[],true⟩
abbrev s95 : Sig:=⟨95,⟨[(0,.a 3),(1,.a 3)],[]⟩,.c .i,[],true⟩
abbrev s56 : Sig:=⟨56,⟨[(0,.c .i),(1,.c .i)],[]⟩,.c .i,[],true⟩
abbrev s158 : Sig:=⟨158,⟨[(0,.c .i)],[]⟩,.c .bo,[],true⟩
abbrev s54 : Sig:=⟨54,⟨[(0,.c .d)],[]⟩,.c .i,[],true⟩
abbrev s107 : Sig:=⟨107,⟨[(0,.a 38),(1,.a 38)],[]⟩,.c .i,[],true⟩
def t98 (ss : Sig) : Tx:=fun Is a K=>ah (cell (ent a 0) 0) fun z1=>aa 41 (cell (ent a 1) 0) fun n2 c3 =>
 jn (fun k4=>Lp (fun oF st7=>ah (cell (ent st7 0) 0) fun z8=>aa 41 (cell (ent st7 1) 0) fun n9 c10=>aa 38 (cell (ent st7 2) 0) fun
 n11 c12=>aa 41 (cell (ent st7 3) 0) fun n13 c14=>((n13 = 0->(k4 [[.sl n9 41 c10],[.sl n11 38 c12]]))/\∀ i15,i15 < n13->(ah (cell
 (List.drop 3 (el c14 41 i15)) 3) fun z16=>ifK (decide (z16 = z8)) (caK Is s98 [List.drop 3 (el c14 41 i15)] fun r17=>bU (cell (ent r17 0) 0)
 fun b18=>ifK b18 (ckK (room (n11+1) 425) (oF [[vI z8],[.sl n9 41 c10],[.sl (n11+1) 38 (c12++((List.drop 3 (el c14 41 i15))++[]))],
 [.sl (n13 - 1) 41 (nM c14 41 i15)]])) (oF [[vI z8],[.sl n9 41 c10],[.sl n11 38 c12],[.sl (n13 - 1) 41 (nM c14 41 i15)]])) (oF [[vI z8],
 [.sl n9 41 c10],[.sl n11 38 c12],[.sl (n13 - 1) 41 (nM c14 41 i15)]])))) [[vI z1],[.sl n2 41 c3],[.sl 0 38 []],[.sl n2 41 c3]]) (fun st5 =>
 aa 41 (cell (ent st5 0) 0) fun n19 c20=>aa 38 (cell (ent st5 1) 0) fun n21 c22=>caK Is ss [[.sl n21 38 c22]] fun r23=>aa 38 (cell (ent
 r23 0) 0) fun n24 c25=>K [[.sl n24 38 c25],[.sl n19 41 c20]])
theorem w97 : Wd ⟨[s98,jI],[42],[],[],aJ,aI,false,av,true,false,[]⟩ ⟨[(3,⟨[(0,.c (.m 0)),(1,.c .i),(2,.c (.f 98 [])),(3,.c (.f 99 [])),(9,.c (.w 1)),(13,.c (.p 2 0))],[(0,.ms 148 true 38),(1,.w 70 38),(2,.it true 38)]⟩)],[(7,⟨[(0,.c (.m 0)),(3,.c (.f 99 [])),(9,.c (.w 1))],[(0,.ms 148 true 38),(1,.w 70 38)]⟩)],[]⟩ s97 (t98 jI):=fun _ _ _=>by kernel_rfl
theorem w97_1 : Wd ⟨[s98,cS],[42],[],[],aJ,aI,false,av,true,false,[]⟩ ⟨[(3,⟨[(0,.c (.m 0)),(1,.c .i),(2,.c (.f 98 [])),(3,.c (.f 107 [])),(9,.c (.w 1)),(13,.c (.p 2 0))],[(0,.ms 148 true 38),(1,.w 70 38),(2,.it true 38)]⟩)],[(7,⟨[(0,.c (.m 0)),(3,.c (.f 107 [])),(9,.c (.w 1))],[(0,.ms 148 true 38),(1,.w 70 38)]⟩)],[]⟩ Gk (t98 cS):=fun _ _ _=>by kernel_rfl
def t182 (sg ss : Sig) : Tx:=fun Is a K=>ah (cell (ent a 0) 0) fun z1=>aa 41 (cell (ent a 1) 0) fun n2 c3
 => jn (fun k4=>Lp (fun oF st7=>ah (cell (ent st7 0) 0) fun z8=>aa 41 (cell (ent st7 1) 0) fun n9 c10=>aa 38 (cell (ent st7 3) 0)
 fun n11 c12=>aa 41 (cell (ent st7 4) 0) fun n13 c14=>((n13 = 0->(k4 [[.sl n9 41 c10],ent st7 2,[.sl n11 38 c12]]))/\∀ i15,i15 < n13 ->
 (ah (cell (List.drop 3 (el c14 41 i15)) 3) fun z16=>ifK (decide (z16 = z8)) (caK Is sg [List.drop 3 (el c14 41 i15),ent st7 2] fun r17=>bU
 (cell (ent r17 0) 0) fun b18=>ifK b18 (ckK (room (n11+1) 425) (oF [[vI z8],[.sl n9 41 c10],ent r17 1,[.sl (n11+1) 38 (c12++((List.drop
 3 (el c14 41 i15))++[]))],[.sl (n13 - 1) 41 (nM c14 41 i15)]])) (oF [[vI z8],[.sl n9 41 c10],ent r17 1,[.sl n11 38 c12],[.sl (n13 - 1)
 41 (nM c14 41 i15)]])) (oF [[vI z8],[.sl n9 41 c10],ent st7 2,[.sl n11 38 c12],[.sl (n13 - 1) 41 (nM c14 41 i15)]])))) [[vI z1],[.sl n2
 41 c3],ent a 2,[.sl 0 38 []],[.sl n2 41 c3]]) (fun st5=>aa 41 (cell (ent st5 0) 0) fun n19 c20=>aa 38 (cell (ent st5 2) 0) fun n21 c22 =>
 caK Is ss [[.sl n21 38 c22]] fun r23=>aa 38 (cell (ent r23 0) 0) fun n24 c25=>K [[.sl n24 38 c25],[.sl n19 41 c20],ent st5 1])
theorem w97_2 : Wd ⟨[jI,uZ],[42],[],[],aJ,aI,false,av,true,false,[]⟩ ⟨[(3,⟨[(0,.c (.m 0)),(1,.c .i),(2,.c (.f 182 [.p 1 0])),(3,.c (.f 99 [])),(9,.c (.w 2)),(13,.c (.p 3 0))],[(0,.ms 148 true 38),(1,.a 42 3),(2,.w 70 38),(3,.it true 38)]⟩)],[(7,⟨[(0,.c (.m 0)),(2,.c (.f 182 [.p 1 0])),(3,.c (.f 99 [])),(9,.c (.w 2))],[(0,.ms 148 true 38),(1,.a 42 3),(2,.w 70 38)]⟩)],[]⟩ Gj (t182 uZ jI):=fun _ _ _=>by kernel_rfl
theorem w97_3 : Wd ⟨[cS,uZ],[42],[],[],aJ,aI,false,av,true,false,[]⟩ ⟨[(3,⟨[(0,.c (.m 0)),(1,.c .i),(2,.c (.f 182 [.p 1 0])),(3,.c (.f 107 [])),(9,.c (.w 2)),(13,.c (.p 3 0))],[(0,.ms 148 true 38),(1,.a 42 3),(2,.w 70 38),(3,.it true 38)]⟩)],[(7,⟨[(0,.c (.m 0)),(2,.c (.f 182 [.p 1 0])),(3,.c (.f 107 [])),(9,.c (.w 2))],[(0,.ms 148 true 38),(1,.a 42 3),(2,.w 70 38)]⟩)],[]⟩ Gi (t182 uZ cS):=fun _ _ _=>by kernel_rfl
theorem w97_4 : Wd ⟨[u9,jI],[42],[],[],aJ,aI,false,av,true,false,[]⟩ ⟨[(3,⟨[(0,.c (.m 0)),(1,.c .i),(2,.c (.f 106 [.p 1 0])),(3,.c (.f 99 [])),(9,.c (.w 2)),(13,.c (.p 3 0))],[(0,.ms 148 true 38),(1,.a 70 38),(2,.w 70 38),(3,.it true 38)]⟩)],[(7,⟨[(0,.c (.m 0)),(2,.c (.f 106 [.p 1 0])),(3,.c (.f 99 [])),(9,.c (.w 2))],[(0,.ms 148 true 38),(1,.a 70 38),(2,.w 70 38)]⟩)],[]⟩ Gh (t182 u9 jI):=fun _ _ _=>by kernel_rfl
theorem w97_5 : Wd ⟨[u9,cS],[42],[],[],aJ,aI,false,av,true,false,[]⟩ ⟨[(3,⟨[(0,.c (.m 0)),(1,.c .i),(2,.c (.f 106 [.p 1 0])),(3,.c (.f 107 [])),(9,.c (.w 2)),(13,.c (.p 3 0))],[(0,.ms 148 true 38),(1,.a 70 38),(2,.w 70 38),(3,.it true 38)]⟩)],[(7,⟨[(0,.c (.m 0)),(2,.c (.f 106 [.p 1 0])),(3,.c (.f 107 [])),(9,.c (.w 2))],[(0,.ms 148 true 38),(1,.a 70 38),(2,.w 70 38)]⟩)],[]⟩ Gg (t182 u9 cS):=fun _ _ _=>by kernel_rfl
theorem w97_6 : Wd ⟨[s98,jI],[42],[],[],aJ,aI,false,av,true,false,[]⟩ ⟨[(3,⟨[(0,.c (.m 0)),(1,.c .i),(2,.c (.f 98 [])),(3,.c (.f 99 [])),(9,.c (.w 1)),(13,.c (.p 2 0))],[(0,.ms 148 true 38),(1,.w 70 38),(2,.it true 38)]⟩)],[(7,⟨[(0,.c (.m 0)),(3,.c (.f 99 [])),(9,.c (.w 1))],[(0,.ms 148 true 38),(1,.w 70 38)]⟩)],[]⟩ Gf (t98 jI):=fun _ _ _=>by kernel_rfl
theorem w97_7 : Wd ⟨[s98,cS],[42],[],[],aJ,aI,false,av,true,false,[]⟩ ⟨[(3,⟨[(0,.c (.m 0)),(1,.c .i),(2,.c (.f 98 [])),(3,.c (.f 107 [])),(9,.c (.w 1)),(13,.c (.p 2 0))],[(0,.ms 148 true 38),(1,.w 70 38),(2,.it true 38)]⟩)],[(7,⟨[(0,.c (.m 0)),(3,.c (.f 107 [])),(9,.c (.w 1))],[(0,.ms 148 true 38),(1,.w 70 38)]⟩)],[]⟩ Ge (t98 cS):=fun _ _ _=>by kernel_rfl
theorem w97_8 : Wd ⟨[jI,uZ],[42],[],[],aJ,aI,false,av,true,false,[]⟩ ⟨[(3,⟨[(0,.c (.m 0)),(1,.c .i),(2,.c (.f 182 [.p 1 0])),(3,.c (.f 99 [])),(9,.c (.w 2)),(13,.c (.p 3 0))],[(0,.ms 148 true 38),(1,.a 42 3),(2,.w 70 38),(3,.it true 38)]⟩)],[(7,⟨[(0,.c (.m 0)),(2,.c (.f 182 [.p 1 0])),(3,.c (.f 99 [])),(9,.c (.w 2))],[(0,.ms 148 true 38),(1,.a 42 3),(2,.w 70 38)]⟩)],[]⟩ Gd (t182 uZ jI):=fun _ _ _=>by kernel_rfl
theorem w97_9 : Wd ⟨[cS,uZ],[42],[],[],aJ,aI,false,av,true,false,[]⟩ ⟨[(3,⟨[(0,.c (.m 0)),(1,.c .i),(2,.c (.f 182 [.p 1 0])),(3,.c (.f 107 [])),(9,.c (.w 2)),(13,.c (.p 3 0))],[(0,.ms 148 true 38),(1,.a 42 3),(2,.w 70 38),(3,.it true 38)]⟩)],[(7,⟨[(0,.c (.m 0)),(2,.c (.f 182 [.p 1 0])),(3,.c (.f 107 [])),(9,.c (.w 2))],[(0,.ms 148 true 38),(1,.a 42 3),(2,.w 70 38)]⟩)],[]⟩ Gc (t182 uZ cS):=fun _ _ _=>by kernel_rfl
theorem w97_10 : Wd ⟨[u9,jI],[42],[],[],aJ,aI,false,av,true,false,[]⟩ ⟨[(3,⟨[(0,.c (.m 0)),(1,.c .i),(2,.c (.f 106 [.p 1 0])),(3,.c (.f 99 [])),(9,.c (.w 2)),(13,.c (.p 3 0))],[(0,.ms 148 true 38),(1,.a 70 38),(2,.w 70 38),(3,.it true 38)]⟩)],[(7,⟨[(0,.c (.m 0)),(2,.c (.f 106 [.p 1 0])),(3,.c (.f 99 [])),(9,.c (.w 2))],[(0,.ms 148 true 38),(1,.a 70 38),(2,.w 70 38)]⟩)],[]⟩ Bh (t182 u9 jI):=fun _ _ _=>by kernel_rfl
theorem w97_11 : Wd ⟨[u9,cS],[42],[],[],aJ,aI,false,av,true,false,[]⟩ ⟨[(3,⟨[(0,.c (.m 0)),(1,.c .i),(2,.c (.f 106 [.p 1 0])),(3,.c (.f 107 [])),(9,.c (.w 2)),(13,.c (.p 3 0))],[(0,.ms 148 true 38),(1,.a 70 38),(2,.w 70 38),(3,.it true 38)]⟩)],[(7,⟨[(0,.c (.m 0)),(2,.c (.f 106 [.p 1 0])),(3,.c (.f 107 [])),(9,.c (.w 2))],[(0,.ms 148 true 38),(1,.a 70 38),(2,.w 70 38)]⟩)],[]⟩ Bg (t182 u9 cS):=fun _ _ _=>by kernel_rfl
def g98 : Tx:=fun _ _ K=>K [[vB true]]
theorem w98 : Wd ⟨[],[42],[],[],aJ,aI,false,av,false,false,[]⟩ ⟨[],[],[]⟩ s98 g98:=fun _ _ _=>by kernel_rfl
def g182 : Tx:=fun _ a K=>ah (cell (sub (ent a 0) 7 3) 0) fun z1=>ah (cell (sub (ent a 0) 7 3) 1) fun z2=>ah (cell (sub (ent a 0) 7 3)
 2) fun z3=>ah (cell (ent a 1) 0) fun z4=>ah (cell (ent a 1) 1) fun z5=>ah (cell (ent a 1) 2) fun z6=>K [[vB (decide (z1 = z4/\z2 = z5
 /\ z3 = z6))],ent a 1]
theorem w182 : Wd ⟨[],[42],[],[],aJ,aI,false,av,false,false,[]⟩ ⟨[],[],[]⟩ uZ g182:=fun _ _ _=>by kernel_rfl
def g106 : Tx:=fun _ a K=>ah (cell (sub (ent a 0) 7 3) 0) fun z1=>ah (cell (sub (ent a 0) 7 3) 1) fun z2=>ah (cell (sub (ent a 0) 7 3)
 2) fun z3=>ah (cell (sub (ent a 1) 0 3) 0) fun z4=>ah (cell (sub (ent a 1) 0 3) 1) fun z5=>ah (cell (sub (ent a 1) 0 3) 2) fun z6=>K
 [[vB (decide (z1 = z4/\z2 = z5/\z3 = z6))],ent a 1]
theorem w106 : Wd ⟨[],[42],[],[],aJ,aI,false,av,false,false,[]⟩ ⟨[],[],[]⟩ u9 g106:=fun _ _ _=>by kernel_rfl
abbrev s225 : Sig:=⟨225,⟨[(0,.c (.w 0)),(1,.c .i),(2,.c .i),(3,.c .i),(4,.c (.f 99 []))],[(0,.w 70 38)]⟩,.t [],[(0,.w 70 38)],false⟩
abbrev s223 : Sig:=⟨223,⟨[(0,.c (.w 0)),(1,.c .i),(2,.c .i),(3,.c (.f 99 []))],[(0,.w 70 38)]⟩,.t [],[(0,.w 70 38)],false⟩
abbrev s225_1 : Sig:=⟨225,⟨[(0,.c (.w 0)),(1,.c .i),(2,.c .i),(3,.c .i),(4,.c (.f 107 []))],[(0,.w 70 38)]⟩,.t [],[(0,.w 70 38)],false⟩
abbrev s223_1 : Sig:=⟨223,⟨[(0,.c (.w 0)),(1,.c .i),(2,.c .i),(3,.c (.f 107 []))],[(0,.w 70 38)]⟩,.t [],[(0,.w 70 38)],false⟩
abbrev s157 : Sig:=⟨157,⟨[(0,.c .d)],[]⟩,.c .i,[],true⟩
abbrev s210 : Sig:=⟨210,⟨[(0,.c .d)],[]⟩,.c .i,[],true⟩
def sgS : List Sig:=[jI,s225,s223,cS,s225_1,s223_1,s157,s210,s99,s95,s56,s158,s54,s107]
noncomputable def tabS (s : Sig) : Option (Tb×Hint):=match Tryz.prog.funcs[s.f]? with
 | some fn=>(match fn.body with
  | some c=>some (⟨sgS,[42],[],[],aJ,aI,true,av,false,false,[]⟩,hintH 1000 c)
  | none=>none)
 | none=>none
noncomputable def F5 (ss : Sig) (n : Nat) (q : List D) : Option St':=evF 1000 Tryz.prog tabS (fun _ _=>none) 20 ss [[.sl n 38 q]]
theorem tabS_ok : ∀ s tb H,tabS s = some (tb,H)->TbOk Tryz.prog tb:=fun s tb H h=>by
 unfold tabS at h
 split at h
 ·split at h
  ·simp only [Option.some.injEq,Prod.mk.injEq] at h
   obtain ⟨rfl,rfl⟩:=h
   exact Eh ..
  ·cases h
 ·cases h
theorem yQ {ss : Sig} {n : Nat} {q : List D} {r : St'} (h : F5 ss n q = some r) : Pm.Is Tryz.prog ss [[.sl n 38 q]] r :=
 Ig tabS_ok (fun _ _ _ h=>by cases h) E5 20 _ _ _ h
theorem pmv : (∀ (x : List D) (l : St'),ent (x::l) 0 = x)/\(∀ (x : List D) (l : St') (n : Nat),ent (x::l) (n+1) = ent l n)/\(∀ (d : D) (ds : List D),cell (d::ds) 0 = d)/\(∀ (d : D) (ds : List D) (n : Nat),cell (d::ds) (n+1) = cell ds n) /\
  (∀ (z : Int) (k : Int->Prop),ah (.v (.int .i64 z)) k = k z)/\(∀ (z : Bool) (k : Bool->Prop),bU (.v (.bool z)) k = k z)/\(∀ (sz n : Nat) (cs : List D) (k : Nat->List D->Prop),aa sz (.sl n sz cs) k = k n cs) /\
  (∀ p k : Prop,ckK p k = (p/\k))/\(∀ k h : Prop,ifK true k h = k)/\(∀ k h : Prop,ifK false k h = h)/\(∀ (p : Prop) (_ : Decidable p) (k h : Prop),ifK (decide p) k h = ((p->k)/\(¬ p->h))) :=
 ⟨fun _ _=>rfl,fun _ _ _=>rfl,fun _ _=>rfl,fun _ _ _=>rfl,fun _ _=>rfl,fun _ _=>rfl,fun _ _ _ _=>sK,fun _ _=>rfl,fun _ _=>rfl,fun _ _=>rfl,fun _ _ _ _=>ifK_d⟩
def tO (r : List D) : Option Int:=match cell (r.drop 3) 3 with
 | .v (.int .i64 z)=>some z
 | _=>none
theorem zR {r : List D} {z : Int} (h : tO r = some z) : cell (r.drop 3) 3 = vI z:=by
 unfold tO at h
 split at h
 ·rename_i z' e
  simp only [Option.some.injEq] at h
  subst h
  exact e
 ·cases h
def jg (g : List D->Bool) (z : Int) (r : List D) : Option (List D):=match tO r with
 | some k=>(match decide (k = z) && g (r.drop 3) with
  | true=>some (r.drop 3)
  | false=>none)
 | none=>none
def pick (g : List D->Bool) (z : Int) (R : List (List D)) : List (List D):=R.filterMap (jg g z)
theorem ya {sz : Nat} : ∀ {R : List (List D)} {i : Nat},(∀ r∈R,r.length = sz)->(h : i < R.length)->el R.flatten sz i = R[i]
 | r::R,0,hR,_=>by
  have:=hR r (List.mem_cons_self ..)
  unfold el
  simp [this.symm]
 | r::R,i+1,hR,h=>by
  have h1:=hR r (List.mem_cons_self ..)
  have h2:=ya (R:=R) (i:=i) (fun x hx=>hR x (List.mem_cons_of_mem _ hx)) (by simpa using h)
  unfold el at h2 ⊢
  rw [List.flatten_cons,List.getElem_cons_succ,<-h2]
  congr 1
  rw [List.drop_append,List.drop_eq_nil_of_le (by rw [h1,Nat.add_mul];omega),List.nil_append]
  congr 1
  rw [h1,Nat.add_mul]
  omega
theorem uf {sz : Nat} : ∀ {R : List (List D)} {i : Nat},(∀ r∈R,r.length = sz)->i < R.length->nM R.flatten sz i = (R.eraseIdx i).flatten
 | r::R,0,hR,_=>by
  have:=hR r (List.mem_cons_self ..)
  unfold nM
  simp [this.symm]
 | r::R,i+1,hR,h=>by
  have h1:=hR r (List.mem_cons_self ..)
  have h2:=uf (R:=R) (i:=i) (fun x hx=>hR x (List.mem_cons_of_mem _ hx)) (by simpa using h)
  unfold nM at h2 ⊢
  rw [List.flatten_cons,List.eraseIdx_cons_succ,List.flatten_cons,<-h2,List.take_append,List.drop_append]
  rw [List.take_of_length_le (by rw [h1,Nat.add_mul];omega),List.drop_eq_nil_of_le (by rw [h1,Nat.add_mul,Nat.add_mul];omega),List.nil_append,List.append_assoc]
  have e1 : (i+1) * sz - r.length = i * sz:=by rw [h1,Nat.add_mul];omega
  have e2 : (i+1+1) * sz - r.length = (i+1) * sz:=by rw [h1,Nat.add_mul,Nat.add_mul];omega
  rw [e1,e2]
theorem zm {α : Type} : ∀ {R : List α} {i : Nat} (h : i < R.length),R.Perm (R[i]::R.eraseIdx i)
 | r::R,0,_=>List.Perm.refl _
 | r::R,i+1,h=>by
  have:=zm (R:=R) (i:=i) (by simpa using h)
  exact (List.Perm.cons r this).trans (List.Perm.swap ..)
def Cs (n : Nat) (R : List (List D)) : Prop:=n = R.length/\∀ r∈R,r.length = 41/\(tO r).isSome = true
theorem Cs.del {n : Nat} {R : List (List D)} (h : Cs n R) {i : Nat} (hi : i < R.length) : Cs (n - 1) (R.eraseIdx i) :=
 ⟨by rw [List.length_eraseIdx,h.1,if_pos hi],fun r hr=>h.2 r (List.mem_of_mem_eraseIdx hr)⟩
theorem vH {g : List D->Bool} {z : Int} {R : List (List D)} {i : Nat} (hi : i < R.length) : (pick g z R).Perm ((jg g z R[i]).toList++pick g z (R.eraseIdx i)):=by
 have:=(zm hi).filterMap (jg g z)
 refine this.trans ?_
 rw [List.filterMap_cons]
 unfold pick
 cases jg g z R[i] <;> exact List.Perm.refl _
theorem t98_ok {ss : Sig} {z : Int} {R : List (List D)} {k : Nat} {srt : List D} {K : St'->Prop} (hR : Cs R.length R) (hn : R.length<=1000)
  (hs : ∀ Q : List (List D),Q.Perm (pick (fun _=>true) z R)->Pm.Is Tryz.prog ss [[.sl Q.length 38 Q.flatten]] [[.sl k 38 srt]])
  (hK : K [[.sl k 38 srt],[.sl R.length 41 R.flatten]]) : t98 ss (CxP Tryz.prog) [[vI z],[.sl R.length 41 R.flatten]] K:=by
 unfold t98
 simp only [pmv]
 refine dA ?_
 refine iX (σ:=List (List D)×List (List D)) (fun x=>[[vI z],[.sl R.length 41 R.flatten],[.sl x.1.length 38 x.1.flatten],[.sl x.2.length 41 x.2.flatten]]) (fun x=>x.2.length)
  (fun x=>Cs x.2.length x.2/\(x.1++pick (fun _=>true) z x.2).Perm (pick (fun _=>true) z R)/\x.1.length+x.2.length<=1000) ([],R) ⟨hR,List.Perm.refl _,by simpa using hn⟩ rfl ?_
 rintro ⟨Q,T⟩ next ⟨hT,hp,hl⟩ hnext
 have hl : Q.length+T.length<=1000:=hl
 simp only [pmv]
 refine ⟨fun h0=>?_,fun i hi=>?_⟩
 ·have : T = []:=List.eq_nil_of_length_eq_zero h0
  subst this
  have hp' : Q.Perm (pick (fun _=>true) z R):=by simpa [pick] using hp
  refine ai (hs Q hp') ?_
  simp only [pmv]
  exact hK
 ·have hi : i < T.length:=hi
  rw [ya (fun r hr=>(hT.2 r hr).1) hi,uf (fun r hr=>(hT.2 r hr).1) hi]
  obtain ⟨kd,hkd⟩:=Option.isSome_iff_exists.1 (hT.2 _ (List.getElem_mem hi)).2
  rw [zR hkd]
  have hdel:=hT.del hi
  have hst:=hp.symm.trans (List.Perm.append_left Q (vH hi))
  have hlen : (T.eraseIdx i).length = T.length - 1:=by rw [List.length_eraseIdx,if_pos hi]
  simp only [pmv]
  refine ⟨fun e=>?_,fun e=>?_⟩
  ·refine ai (w98.is (by unfold g98;rfl)) ?_
   simp only [pmv]
   refine ⟨Qa,?_⟩
   have ht : jg (fun _=>true) z T[i] = some (T[i].drop 3):=by unfold jg;rw [hkd];simp [e]
   rw [ht] at hst
   have:=hnext (Q++[T[i].drop 3],T.eraseIdx i) (by show (T.eraseIdx i).length < T.length;omega) ⟨by rw [hlen];exact hdel,by simpa using hst.symm,by show (Q++[T[i].drop 3]).length+(T.eraseIdx i).length<=1000;rw [hlen,List.length_append];simp;omega⟩
   simpa [hlen] using this
  ·have ht : jg (fun _=>true) z T[i] = none:=by unfold jg;rw [hkd];simp [e]
   rw [ht] at hst
   have:=hnext (Q,T.eraseIdx i) (by show (T.eraseIdx i).length < T.length;omega) ⟨by rw [hlen];exact hdel,by simpa using hst.symm,by show Q.length+(T.eraseIdx i).length<=1000;omega⟩
   simpa [hlen] using this
def sO (x y w : Int) (r : List D) : Bool:=match sub r 7 3 with
 | [.v (.int .i64 a),.v (.int .i64 b),.v (.int .i64 c)]=>decide (a = x/\b = y/\c = w)
 | _=>false
theorem rP {r rest : List D} {x y w a b c : Int} (h : sub r 7 3 = [vI a,vI b,vI c]) : Pm.Is Tryz.prog uZ [r,vI x::vI y::vI w::rest] [[vB (sO x y w r)],vI x::vI y::vI w::rest] :=
 w182.is (by unfold g182 sO;simp only [pmv,h])
theorem rQ {r rest : List D} {x y w a b c : Int} (h : sub r 7 3 = [vI a,vI b,vI c]) : Pm.Is Tryz.prog u9 [r,vI x::vI y::vI w::rest] [[vB (sO x y w r)],vI x::vI y::vI w::rest] :=
 w106.is (by
  have e : sub (vI x::vI y::vI w::rest) 0 3 = [vI x,vI y,vI w]:=rfl
  unfold g106 sO
  simp only [pmv,h,e])
theorem t182_ok {sg ss : Sig} {z : Int} {cp : List D} {g : List D->Bool} {R : List (List D)} {k : Nat} {srt : List D} {K : St'->Prop} (hR : Cs R.length R) (hI : ∀ r∈R,Pm.Is Tryz.prog sg [r.drop 3,cp] [[vB (g (r.drop 3))],cp]) (hn : R.length<=1000)
  (hs : ∀ Q : List (List D),Q.Perm (pick g z R)->Pm.Is Tryz.prog ss [[.sl Q.length 38 Q.flatten]] [[.sl k 38 srt]])
  (hK : K [[.sl k 38 srt],[.sl R.length 41 R.flatten],cp]) : t182 sg ss (CxP Tryz.prog) [[vI z],[.sl R.length 41 R.flatten],cp] K:=by
 unfold t182
 simp only [pmv]
 refine dA ?_
 refine iX (σ:=List (List D)×List (List D)) (fun s=>[[vI z],[.sl R.length 41 R.flatten],cp,[.sl s.1.length 38 s.1.flatten],[.sl s.2.length 41 s.2.flatten]]) (fun s=>s.2.length)
  (fun s=>(Cs s.2.length s.2/\∀ r∈s.2,Pm.Is Tryz.prog sg [r.drop 3,cp] [[vB (g (r.drop 3))],cp])/\(s.1++pick g z s.2).Perm (pick g z R)/\s.1.length+s.2.length<=1000) ([],R) ⟨⟨hR,hI⟩,List.Perm.refl _,by simpa using hn⟩ rfl ?_
 rintro ⟨Q,T⟩ next ⟨⟨hT,hJ⟩,hp,hl⟩ hnext
 have hl : Q.length+T.length<=1000:=hl
 simp only [pmv]
 refine ⟨fun h0=>?_,fun i hi=>?_⟩
 ·have : T = []:=List.eq_nil_of_length_eq_zero h0
  subst this
  have hp' : Q.Perm (pick g z R):=by simpa [pick] using hp
  refine ai (hs Q hp') ?_
  simp only [pmv]
  exact hK
 ·have hi : i < T.length:=hi
  rw [ya (fun r hr=>(hT.2 r hr).1) hi,uf (fun r hr=>(hT.2 r hr).1) hi]
  obtain ⟨kd,hkd⟩:=Option.isSome_iff_exists.1 (hT.2 _ (List.getElem_mem hi)).2
  rw [zR hkd]
  have hdel:=hT.del hi
  have hst:=hp.symm.trans (List.Perm.append_left Q (vH hi))
  have hlen : (T.eraseIdx i).length = T.length - 1:=by rw [List.length_eraseIdx,if_pos hi]
  simp only [pmv]
  have hJ' : ∀ r∈T.eraseIdx i,Pm.Is Tryz.prog sg [r.drop 3,cp] [[vB (g (r.drop 3))],cp]:=fun r hr=>hJ r (List.mem_of_mem_eraseIdx hr)
  have skip : jg g z T[i] = none->next [[vI z],[.sl R.length 41 R.flatten],cp,[.sl Q.length 38 Q.flatten],[.sl (T.length - 1) 41 (T.eraseIdx i).flatten]]:=fun ht=>by
   rw [ht] at hst
   have:=hnext (Q,T.eraseIdx i) (by show (T.eraseIdx i).length < T.length;omega) ⟨⟨by rw [hlen];exact hdel,hJ'⟩,by simpa using hst.symm,by show Q.length+(T.eraseIdx i).length<=1000;omega⟩
   simpa [hlen] using this
  refine ⟨fun e=>?_,fun e=>skip (by unfold jg;rw [hkd];simp [e])⟩
  refine ai (hJ _ (List.getElem_mem hi)) ?_
  simp only [pmv]
  cases hg : g (T[i].drop 3) with
  | false =>
   simp only [pmv]
   exact skip (by unfold jg;rw [hkd];simp [hg])
  | true =>
  simp only [pmv]
  refine ⟨Qa,?_⟩
  have ht : jg g z T[i] = some (T[i].drop 3):=by unfold jg;rw [hkd];simp [e,hg]
  rw [ht] at hst
  have:=hnext (Q++[T[i].drop 3],T.eraseIdx i) (by show (T.eraseIdx i).length < T.length;omega) ⟨⟨by rw [hlen];exact hdel,hJ'⟩,by simpa using hst.symm,by show (Q++[T[i].drop 3]).length+(T.eraseIdx i).length<=1000;rw [hlen,List.length_append];simp;omega⟩
  simpa [hlen] using this
def BT {α : Type} (x : α) : List α->List (List α)
 | []=>[[x]]
 | y::l=>(x::y::l)::(BT x l).map (y::·)
def perms {α : Type} : List α->List (List α)
 | []=>[[]]
 | x::l=>(perms l).flatMap (BT x)
theorem Dv {α : Type} {x : α} : ∀ {a b : List α},a++x::b∈BT x (a++b)
 | [],[]=>List.mem_singleton.2 rfl
 | [],_::_=>List.mem_cons_self ..
 | _::a,b=>List.mem_cons_of_mem _ (List.mem_map.2 ⟨_,Dv (a:=a) (b:=b),rfl⟩)
theorem vJ {α : Type} : ∀ {L Q : List α},Q.Perm L->Q∈perms L
 | [],Q,h=>by
  rw [List.perm_nil.1 h]
  exact List.mem_singleton.2 rfl
 | x::L,Q,h=>by
  have hx : x∈Q:=h.mem_iff.2 (List.mem_cons_self ..)
  obtain ⟨a,b,rfl⟩:=List.append_of_mem hx
  have h2 : (a++b).Perm L:=(List.perm_middle.symm.trans h).cons_inv
  exact List.mem_flatMap.2 ⟨_,vJ h2,Dv⟩
def xL : Option St'->Option (Nat×List D)
 | some [[.sl k sz srt]]=>(match Nat.beq sz 38 with
  | true=>some (k,srt)
  | false=>none)
 | _=>none
theorem vP {x : Option St'} {k : Nat} {srt : List D} (h : xL x = some (k,srt)) : x = some [[.sl k 38 srt]]:=by
 unfold xL at h
 split at h
 ·split at h
  ·rename_i hb
   simp only [Option.some.injEq,Prod.mk.injEq] at h
   rw [h.1,h.2,Nat.eq_of_beq_eq_true hb]
  ·cases h
 ·cases h
noncomputable def ry (ss : Sig) (L : List (List D)) : Option (Nat×List D):=match perms L with
 | []=>none
 | q::qs=>match xL (F5 ss q.length q.flatten) with
  | none=>none
  | some (k,srt)=>match qs.all fun q=>(match xL (F5 ss q.length q.flatten) with
    | some (k',srt')=>Nat.beq k' k && ki srt' srt
    | none=>false) with
   | true=>some (k,srt)
   | false=>none
theorem sG {ss : Sig} {L : List (List D)} {k : Nat} {srt : List D} (h : ry ss L = some (k,srt)) {Q : List (List D)} (hQ : Q.Perm L) : Pm.Is Tryz.prog ss [[.sl Q.length 38 Q.flatten]] [[.sl k 38 srt]]:=by
 have hm:=vJ hQ
 unfold ry at h
 split at h
 ·cases h
 ·rename_i q qs hq
  rw [hq] at hm
  split at h
  ·cases h
  ·rename_i k' srt' h1
   split at h
   ·rename_i ha
    simp only [Option.some.injEq,Prod.mk.injEq] at h
    obtain ⟨rfl,rfl⟩:=h
    rcases List.mem_cons.1 hm with rfl | hm
    ·exact yQ (vP h1)
    ·have h2:=List.all_eq_true.1 ha _ hm
     split at h2
     ·rename_i k2 srt2 h3
      simp only [Bool.and_eq_true] at h2
      rw [<-Nat.eq_of_beq_eq_true h2.1,<-fI h2.2]
      exact yQ (vP h3)
     ·cases h2
   ·cases h
def chunks (sz : Nat) : Nat->List D->List (List D)
 | 0,_=>[]
 | n+1,ds=>ds.take sz::chunks sz n (ds.drop sz)
theorem ql {sz : Nat} : ∀ {n : Nat} {ds : List D},ds.length = n * sz->(chunks sz n ds).flatten = ds/\(chunks sz n ds).length = n/\∀ r∈chunks sz n ds,r.length = sz
 | 0,ds,h=>by
  have : ds = []:=List.eq_nil_of_length_eq_zero Q0
  subst this
  exact ⟨rfl,rfl,fun r hr=>by cases hr⟩
 | n+1,ds,h=>by
  rw [Nat.add_mul,Nat.one_mul] at h
  obtain ⟨h1,h2,h3⟩:=ql (sz:=sz) (n:=n) (ds:=ds.drop sz) (by rw [List.length_drop];omega)
  refine ⟨?_,?_,fun r hr=>?_⟩
  ·show (ds.take sz::chunks sz n (ds.drop sz)).flatten = ds
   rw [List.flatten_cons,h1,List.take_append_drop]
  ·show (chunks sz n (ds.drop sz)).length+1 = n+1
   rw [h2]
  ·rcases List.mem_cons.1 hr with rfl | hr
   ·rw [List.length_take];omega
   ·exact h3 r hr
def xg (r : List D) : Bool:=match sub (r.drop 3) 7 3 with
 | [.v (.int .i64 _),.v (.int .i64 _),.v (.int .i64 _)]=>true
 | _=>false
noncomputable def E9 (ss : Sig) (a : St') : Option St':=match a with
 | [[.v (.int .i64 z)],[.sl n sz c]]=>(match Nat.beq sz 41 && (Nat.beq c.length (n * 41) && (Nat.ble n 1000 && (chunks 41 n c).all fun r=>(tO r).isSome)) with
  | true=>(match ry ss (pick (fun _=>true) z (chunks 41 n c)) with
   | some (k,srt)=>some [[.sl k 38 srt],[.sl n 41 c]]
   | none=>none)
  | false=>none)
 | _=>none
noncomputable def mQ (ss : Sig) (a : St') : Option St':=match a with
 | [[.v (.int .i64 z)],[.sl n sz c],(.v (.int .i64 x)::.v (.int .i64 y)::.v (.int .i64 w)::rest)]=>(match Nat.beq sz 41 && (Nat.beq c.length (n * 41) && (Nat.ble n 1000 && (chunks 41 n c).all fun r=>(tO r).isSome && xg r)) with
  | true=>(match ry ss (pick (sO x y w) z (chunks 41 n c)) with
   | some (k,srt)=>some [[.sl k 38 srt],[.sl n 41 c],vI x::vI y::vI w::rest]
   | none=>none)
  | false=>none)
 | _=>none
theorem rG {ss s : Sig} {a r : St'} {H : Hint} {l : List Sig} (hw : Wd ⟨l,[42],[],[],aJ,aI,false,av,true,false,[]⟩ H s (t98 ss)) (hu : ∀ k srt n c,unpack aB (fE s) [[.sl k 38 srt],[.sl n 41 c]] fun _=>True) (h : E9 ss a = some r) : Pm.Is Tryz.prog s a r:=by
 unfold E9 at h
 split at h
 ·rename_i z n sz c
  split at h
  ·rename_i hb
   simp only [Bool.and_eq_true] at hb
   obtain ⟨h1,h2,h3,h4⟩:=hb
   obtain rfl:=Nat.eq_of_beq_eq_true h1
   have h2:=Nat.eq_of_beq_eq_true h2
   have h3:=Nat.le_of_ble_eq_true h3
   obtain ⟨g1,g2,g3⟩:=ql h2
   split at h
   ·rename_i k srt hs
    simp only [Option.some.injEq] at h
    subst h
    refine hw.is ?_ (hu ..)
    have:=t98_ok (ss:=ss) (z:=z) (R:=chunks 41 n c) (k:=k) (srt:=srt) (K:=fun st=>st = [[.sl k 38 srt],[.sl n 41 c]]) ⟨rfl,fun r hr=>⟨g3 r hr,List.all_eq_true.1 h4 r hr⟩⟩ (by rw [g2];exact h3) (fun Q hQ=>sG hs hQ) (by rw [g1,g2])
    rw [g1,g2] at this
    exact this
   ·cases h
  ·cases h
 ·cases h
theorem Ef {r : List D} (h : xg r = true) : ∃ a b c,sub (r.drop 3) 7 3 = [vI a,vI b,vI c]:=by
 unfold xg at h
 split at h
 ·rename_i a b c e
  exact ⟨a,b,c,e⟩
 ·cases h
theorem gh {sg ss s : Sig} {a r : St'} {H : Hint} {l : List Sig} (hw : Wd ⟨l,[42],[],[],aJ,aI,false,av,true,false,[]⟩ H s (t182 sg ss)) (hu : ∀ k srt n c cp,unpack aB (fE s) [[.sl k 38 srt],[.sl n 41 c],cp] fun _=>True) (hg : ∀ (r rest : List D) (x y w a b c : Int),sub r 7 3 = [vI a,vI b,vI c]->Pm.Is Tryz.prog sg [r,vI x::vI y::vI w::rest] [[vB (sO x y w r)],vI x::vI y::vI w::rest]) (h : mQ ss a = some r) : Pm.Is Tryz.prog s a r:=by
 unfold mQ at h
 split at h
 ·rename_i z n sz c x y w rest
  split at h
  ·rename_i hb
   simp only [Bool.and_eq_true] at hb
   obtain ⟨h1,h2,h3,h4⟩:=hb
   obtain rfl:=Nat.eq_of_beq_eq_true h1
   have h2:=Nat.eq_of_beq_eq_true h2
   have h3:=Nat.le_of_ble_eq_true h3
   obtain ⟨g1,g2,g3⟩:=ql h2
   have h5 : ∀ r∈chunks 41 n c,(tO r).isSome = true/\xg r = true:=fun r hr=>by
    have:=List.all_eq_true.1 h4 r hr
    simpa using this
   split at h
   ·rename_i k srt hs
    simp only [Option.some.injEq] at h
    subst h
    refine hw.is ?_ (hu ..)
    have:=t182_ok (sg:=sg) (ss:=ss) (z:=z) (cp:=vI x::vI y::vI w::rest) (g:=sO x y w) (R:=chunks 41 n c) (k:=k) (srt:=srt) (K:=fun st=>st = [[.sl k 38 srt],[.sl n 41 c],vI x::vI y::vI w::rest]) ⟨rfl,fun r hr=>⟨g3 r hr,(h5 r hr).1⟩⟩ (fun r hr=>by
     obtain ⟨a,b,c,e⟩:=Ef (h5 r hr).2
     exact hg _ _ _ _ _ _ _ _ e) (by rw [g2];exact h3) (fun Q hQ=>sG hs hQ) (by rw [g1,g2])
    rw [g1,g2] at this
    exact this
   ·cases h
  ·cases h
 ·cases h
noncomputable def isxL (s : Sig) (a : St') : Option St':=match o7 s s97 with
 | true=>E9 jI a
 | false=>match o7 s Gk with
  | true=>E9 cS a
  | false=>match o7 s Gj with
   | true=>mQ jI a
   | false=>match o7 s Gi with
    | true=>mQ cS a
    | false=>match o7 s Gh with
     | true=>mQ jI a
     | false=>match o7 s Gg with
      | true=>mQ cS a
      | false=>match o7 s Gf with
       | true=>E9 jI a
       | false=>match o7 s Ge with
        | true=>E9 cS a
        | false=>match o7 s Gd with
         | true=>mQ jI a
         | false=>match o7 s Gc with
          | true=>mQ cS a
          | false=>match o7 s Bh with
           | true=>mQ jI a
           | false=>match o7 s Bg with
            | true=>mQ cS a
            | false=>none
theorem isxL_ok : ∀ s a r,isxL s a = some r->Pm.Is Tryz.prog s a r:=fun s a r h=>by
 unfold isxL at h
 split at h
 ·rename_i e
  rw [eD e]
  exact rG w97 (fun _ _ _ _=>trivial) h
 split at h
 ·rename_i e
  rw [eD e]
  exact rG w97_1 (fun _ _ _ _=>trivial) h
 split at h
 ·rename_i e
  rw [eD e]
  exact gh w97_2 (fun _ _ _ _ _=>trivial) (fun _ _ _ _ _ _ _ _ h=>rP h) h
 split at h
 ·rename_i e
  rw [eD e]
  exact gh w97_3 (fun _ _ _ _ _=>trivial) (fun _ _ _ _ _ _ _ _ h=>rP h) h
 split at h
 ·rename_i e
  rw [eD e]
  exact gh w97_4 (fun _ _ _ _ _=>trivial) (fun _ _ _ _ _ _ _ _ h=>rQ h) h
 split at h
 ·rename_i e
  rw [eD e]
  exact gh w97_5 (fun _ _ _ _ _=>trivial) (fun _ _ _ _ _ _ _ _ h=>rQ h) h
 split at h
 ·rename_i e
  rw [eD e]
  exact rG w97_6 (fun _ _ _ _=>trivial) h
 split at h
 ·rename_i e
  rw [eD e]
  exact rG w97_7 (fun _ _ _ _=>trivial) h
 split at h
 ·rename_i e
  rw [eD e]
  exact gh w97_8 (fun _ _ _ _ _=>trivial) (fun _ _ _ _ _ _ _ _ h=>rP h) h
 split at h
 ·rename_i e
  rw [eD e]
  exact gh w97_9 (fun _ _ _ _ _=>trivial) (fun _ _ _ _ _ _ _ _ h=>rP h) h
 split at h
 ·rename_i e
  rw [eD e]
  exact gh w97_10 (fun _ _ _ _ _=>trivial) (fun _ _ _ _ _ _ _ _ h=>rQ h) h
 split at h
 ·rename_i e
  rw [eD e]
  exact gh w97_11 (fun _ _ _ _ _=>trivial) (fun _ _ _ _ _ _ _ _ h=>rQ h) h
 ·cases h
def tbL : Tb:=⟨[s97,Gk,Gj,Gi,Gh,Gg,Gf,Ge,Gd,Gc,Bh,Bg],[42],[],[],aJ,aI,false,av,false,false,[]⟩
noncomputable def extL (id f : Nat) (xs : List S) (ob : List (Nat×O)) : Option (S×List (Nat×O)):=match Nat.beq f 97 with
 | true=>Ix ⟨isxL,fun _ _ _ _=>none⟩ Tryz.prog tbL id f xs ob
 | false=>none
theorem extL_ok : ∀ id f xs ob v os,extL id f xs ob = some (v,os)->mV Tryz.prog f xs ob v os:=fun id f xs ob v os h=>by
 unfold extL at h
 split at h
 ·exact Iw ⟨isxL_ok,fun _ _ _ _ _ _ h=>by cases h⟩ h
 ·cases h
def tbH : Tb:=⟨[],[42],[],[],aJ,aI,true,av,false,true,[]⟩
theorem known (ks : List Known) (hk : ∀ k∈ks,k.Ok Tryz.prog) (k : Known) (h : evH 1000 Tryz.prog tbH (extK extL ks) 1000 k.id k.f k.xs k.ob = some (k.v,k.os)) : k.Ok Tryz.prog :=
 Ie (Eh ..) (DK extL_ok hk) E5 1000 _ _ _ _ _ _ h
end Go.Proofs.YtmbboaapillefaaGreatDoor
