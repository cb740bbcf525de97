/- Xe1, Xe2, Api, Pure, Xe3, Xe4, PureA, PureB, put together. -/
import Derived.WalkKit
import Derived.Deep.Quiet
import Derived.OrdersHeld
import Derived.ProofKit
import Derived.SizedLaws
import Derived.Below
import Derived.Recover
import Derived.Carry
import Derived.OpenShut
import Derived.Deep.CondSized
import Derived.Scope
import Derived.Lib.AppendZeros
import Derived.Laws.Bits64b
import Derived.KernelRfl
namespace Xe
open Go


abbrev Lm:=List (Nat×Value)

def cR : Lm->Nat->Option Value
 | [],_=>none
 | (t,v)::r,s=>match Nat.beq s t with
  | true=>some v
  | false=>cR r s

def evL (L : Lm) : Operand->Option Value
 | .tmp t=>cR L t
 | .const v=>some v
 | .global g=>some (.pointer (some ⟨g,0,none⟩))
 | .func f=>some (.func (.func f) #[] #[])

structure Sat (n : Nat) (L : Lm) (a : Act) : Prop where
 size : a.tmps.size = n
 defers : a.defers = []
 get : ∀ t v,cR L t = some v->a.tmps[t]? = some v

theorem Sat.ev {n : Nat} {L : Lm} {a : Act} (h : Sat n L a) {x : Operand} {v : Value} (hx : evL L x = some v) : a.eval x = v:=by
 cases x with
 | tmp t =>
  have:=h.get t v hx
  simp only [Act.eval,Array.getD_eq_getD_getElem?,this,Option.getD_some]
 | const c=>simpa [evL,Act.eval] using hx
 | global g=>simpa [evL,Act.eval] using hx
 | func f=>simpa [evL,Act.eval] using hx

theorem Sat.put {n d : Nat} {L : Lm} {a : Act} {v : Value} (h : Sat n L a) (hd : Nat.blt d n = true) : Sat n ((d,v)::L) (a.put (some d) v):=by
 have hd' : d < n:=by simpa [Nat.blt_eq] using hd
 refine ⟨by simp [Act.put,h.size],by simp [Act.put,h.defers],fun t u ht=>?_⟩
 simp only [cR] at ht
 by_cases e : t = d
 ·subst e
  have hb : Nat.beq t t = true:=Nat.beq_refl t
  rw [hb] at ht
  simp only [Option.some.injEq] at ht
  subst ht
  have : t < a.tmps.size:=by rw [h.size];exact hd'
  simp [Act.put,this]
 ·have hb : Nat.beq t d = false:=by
   cases hb : Nat.beq t d with
   | false=>rfl
   | true=>exact absurd (Nat.eq_of_beq_eq_true hb) e
  rw [hb] at ht
  have:=h.get t u ht
  simp only [Act.put]
  rw [Array.getElem?_setIfInBounds_ne (by omega)]
  exact this

theorem Sat.keep {n : Nat} {L L' : Lm} {a : Act} (h : Sat n L a) (hk : ∀ t v,cR L' t = some v->cR L t = some v) : Sat n L' a :=
 ⟨h.size,h.defers,fun t v ht=>h.get t v (hk t v ht)⟩

def cj (L L' : Lm) : Prop:=∀ t v,cR L' t = some v->cR L t = some v
theorem cj.nil (L : Lm) : cj L []:=fun _ _ h=>by simp [cR] at h
theorem cj.cons {L L' : Lm} (t : Nat) {v : Value} (h : cR L t = some v) (k : cj L L') : cj L ((t,v)::L'):=fun s u hs=>by
 simp only [cR] at hs
 cases hb : Nat.beq s t with
 | true =>
  rw [hb] at hs
  simp only [Option.some.injEq] at hs
  subst hs
  rw [Nat.eq_of_beq_eq_true hb];exact h
 | false=>rw [hb] at hs;exact k s u hs
theorem cj.refl (L : Lm) : cj L L:=fun _ _ h=>h


abbrev Mem:=Nat->Option Obj
def Sub (M M' : Mem) : Prop:=∀ b o,M b = some o->M' b = some o
theorem Sub.refl (M : Mem) : Sub M M:=fun _ _ h=>h
theorem Sub.trans {M M' M'' : Mem} (h : Sub M M') (k : Sub M' M'') : Sub M M'':=fun b o hb=>k b o (h b o hb)

def adr (a : Option Addr) (i : Nat) : Addr:=(a.getD default).add i
theorem cn (a : Option Addr) (i j : Nat) : (adr a i).add j = adr a (i+j):=by
 unfold adr Addr.add
 by_cases hi : i = 0
 ·subst hi
  by_cases hj : j = 0
  ·simp [hj]
  ·simp
 ·by_cases hj : j = 0
  ·simp [hj]
  ·have : i+j ≠ 0:=by omega
   simp [hi,hj,Nat.add_assoc]
theorem cF (b o i : Nat) : adr (some ⟨b,o,none⟩) i = ⟨b,o+i,none⟩:=by
 unfold adr Addr.add
 by_cases hi : i = 0
 ·simp [hi]
 ·simp [hi]
def dD (M : Mem) (p : Addr) : Option Value :=
 match M p.block with
 | some (.cells c _ _)=>if p.spot.isSome then none else c[p.off]?
 | _=>none

theorem nL {M M' : Mem} (h : Sub M M') {p : Addr} {v : Value} (hv : dD M p = some v) : dD M' p = some v:=by
 unfold dD at *
 cases hM : M p.block with
 | none=>simp [hM] at hv
 | some o=>rw [h _ _ hM];rw [hM] at hv;exact hv

inductive D where
 | v (x : Value)
 | sl (n sz : Nat) (cs : List D)

def lim : Nat:=140737488355328

mutual
def Rd (M : Mem) : D->Value->Prop
 | .v x,u=>u = x/\x.oneCell' = true
 | .sl n sz cs,u=>∃ a cap,u = .slice a n cap/\n<=cap/\cap<=maxLen/\n<=lim/\cs.length = n * sz/\(0 < n->a.isSome = true)/\RdC M a 0 cs
def RdC (M : Mem) (a : Option Addr) : Nat->List D->Prop
 | _,[]=>True
 | i,d::ds=>(∃ u,dD M (adr a i) = some u/\Rd M d u)/\RdC M a (i+1) ds
end

mutual
theorem Rd.mono {M M' : Mem} (h : Sub M M') : ∀ (d : D) (u : Value),Rd M d u->Rd M' d u
 | .v x,u,hr=>by simpa [Rd] using hr
 | .sl n sz cs,u,hr=>by
  simp only [Rd] at hr ⊢
  obtain ⟨a,cap,h1,h2,h3,h4,h5,h6,h7⟩:=hr
  exact ⟨a,cap,h1,h2,h3,h4,h5,h6,RdC.mono h a cs 0 h7⟩
theorem RdC.mono {M M' : Mem} (h : Sub M M') (a : Option Addr) : ∀ (cs : List D) (i : Nat),RdC M a i cs->RdC M' a i cs
 | [],i,_=>by simp [RdC]
 | d::ds,i,hr=>by
  simp only [RdC] at hr ⊢
  obtain ⟨⟨u,h1,h2⟩,h3⟩:=hr
  exact ⟨⟨u,nL h h1,Rd.mono h d u h2⟩,RdC.mono h a ds (i+1) h3⟩
end

theorem RdC.get {M : Mem} {a : Option Addr} : ∀ (cs : List D) (i : Nat),RdC M a i cs->∀ (k : Nat) (d : D),cs[k]? = some d->∃ u,dD M (adr a (i+k)) = some u/\Rd M d u
 | [],_,_,k,d,hk=>by simp at hk
 | e::es,i,h,k,d,hk=>by
  simp only [RdC] at h
  cases k with
  | zero=>simp only [List.getElem?_cons_zero,Option.some.injEq] at hk;subst hk;exact h.1
  | succ k =>
   obtain ⟨u,h1,h2⟩:=RdC.get es (i+1) h.2 k d (by simpa using hk)
   exact ⟨u,by rw [show i+(k+1) = i+1+k from by omega];exact h1,h2⟩

theorem RdC.mk {M : Mem} {a : Option Addr} : ∀ (cs : List D) (i : Nat),(∀ (k : Nat) (d : D),cs[k]? = some d->∃ u,dD M (adr a (i+k)) = some u/\Rd M d u)->RdC M a i cs
 | [],_,_=>by simp [RdC]
 | e::es,i,h=>by
  simp only [RdC]
  refine ⟨?_,RdC.mk es (i+1) fun k d hk=>?_⟩
  ·have:=h 0 e rfl;simpa using this
  ·have:=h (k+1) d (by simpa using hk)
   rwa [show i+(k+1) = i+1+k from by omega] at this

def RdL (M : Mem) (ds : List D) (us : List Value) : Prop:=us.length = ds.length/\∀ (k : Nat) (d : D) (u : Value),ds[k]? = some d->us[k]? = some u->Rd M d u
theorem RdL.mono {M M' : Mem} (h : Sub M M') {ds : List D} {us : List Value} (hr : RdL M ds us) : RdL M' ds us :=
 ⟨hr.1,fun k d u h1 h2=>Rd.mono h d u (hr.2 k d u h1 h2)⟩
theorem RdL.nil (M : Mem) : RdL M [] []:=⟨rfl,fun k d u h _=>by simp at h⟩
theorem RdL.cons {M : Mem} {d : D} {u : Value} {ds : List D} {us : List Value} (h : Rd M d u) (k : RdL M ds us) : RdL M (d::ds) (u::us) :=
 ⟨by simp [k.1],fun i e x h1 h2=>by
  cases i with
  | zero=>simp only [List.getElem?_cons_zero,Option.some.injEq] at h1 h2;subst h1 h2;exact h
  | succ i=>exact k.2 i e x (by simpa using h1) (by simpa using h2)⟩
theorem RdL.append {M : Mem} {ds es : List D} {us xs : List Value} (h : RdL M ds us) (k : RdL M es xs) : RdL M (ds++es) (us++xs):=by
 refine ⟨by simp [h.1,k.1],fun i d u h1 h2=>?_⟩
 by_cases hi : i < ds.length
 ·rw [List.getElem?_append_left hi] at h1
  rw [List.getElem?_append_left (by rw [h.1];exact hi)] at h2
  exact h.2 i d u h1 h2
 ·rw [List.getElem?_append_right (by omega)] at h1
  rw [List.getElem?_append_right (by rw [h.1];omega)] at h2
  rw [h.1] at h2
  exact k.2 _ d u h1 h2


inductive As where
 | rd (d : D) (u : Value)
 | rds (ds : List D) (us : List Value)
 | own (b : Nat) (e : TypeId) (cs : List Value)
 | acc (u : Value) (e : TypeId) (sz n : Nat) (us : List Value)
 | mp (b : Nat) (l : List (Value×Value))

def As.blk : As->Option Nat
 | .own b _ _=>some b
 | .acc u _ _ _ _=>u.ownBlock
 | .mp b _=>some b
 | _=>none

def As.ok (M : Mem) (w : World) : As->Prop
 | .rd d u=>Rd M d u
 | .rds ds us=>RdL M ds us
 | .own b e cs=>M b = none/\w.heap[b]? = some (.cells cs.toArray e (0,0))
 | .acc u e sz n us=>w.ownsRow 0 e sz u n us/\∀ b,u.ownBlock = some b->M b = none
 | .mp b l=>M b = none/\∃ es clock,w.heap[b]? = some (.map es clock)/\es.toList.map (fun e=>(e.key,e.val)) = l

structure St (w0 : World) (M : Mem) (Γ : List As) (w : World) : Prop where
 os : w.os = w0.os
 tape : w.tape = w0.tape
 output : w.output = w0.output
 size : w0.heap.size<=w.heap.size
 mem : ∀ b o,M b = some o->w.heap[b]? = some o
 all : ∀ x,x∈Γ->x.ok M w
 nodup : (Γ.filterMap As.blk).Nodup

theorem St.lt {w0 w : World} {M : Mem} {Γ : List As} (h : St w0 M Γ w) {b : Nat} {o : Obj} (hb : M b = some o) : b < w.heap.size:=by
 have:=h.mem b o hb
 exact (Array.getElem?_eq_some_iff.1 this).1

theorem St.fresh {w0 w : World} {M : Mem} {Γ : List As} (h : St w0 M Γ w) : M w.heap.size = none:=by
 cases hM : M w.heap.size with
 | none=>rfl
 | some o=>have:=h.lt hM;omega

theorem St.cell {w0 w : World} {M : Mem} {Γ : List As} (h : St w0 M Γ w) {p : Addr} {v : Value} (hv : dD M p = some v) : w.cell? p = some v:=by
 unfold dD at hv
 unfold World.cell?
 cases hM : M p.block with
 | none=>simp [hM] at hv
 | some o =>
  rw [h.mem _ _ hM]
  rw [hM] at hv
  cases o <;> first | exact hv | simp at hv

theorem As.bu {M : Mem} {w : World} {x : As} (h : x.ok M w) {b : Nat} (hb : x.blk = some b) : b < w.heap.size/\M b = none:=by
 cases x with
 | rd d u=>simp [As.blk] at hb
 | rds d u=>simp [As.blk] at hb
 | own b' e cs =>
  simp only [As.blk,Option.some.injEq] at hb
  subst hb
  exact ⟨(Array.getElem?_eq_some_iff.1 h.2).1,h.1⟩
 | acc u e sz n us =>
  simp only [As.blk] at hb
  exact ⟨(h.1.lt b hb).2,h.2 b hb⟩
 | mp b' l =>
  simp only [As.blk,Option.some.injEq] at hb
  subst hb
  obtain ⟨h1,es,clock,h2,_⟩:=h
  exact ⟨(Array.getElem?_eq_some_iff.1 h2).1,h1⟩

theorem As.gX {M M' : Mem} {w w' : World} {x : As} (h : x.ok M w) (hs : Sub M M') (hb : ∀ b,x.blk = some b->w'.heap[b]? = w.heap[b]?/\M' b = none) : x.ok M' w':=by
 cases x with
 | rd d u=>exact Rd.mono hs d u h
 | rds ds us=>exact RdL.mono hs h
 | own b e cs=>exact ⟨(hb b rfl).2,by rw [(hb b rfl).1];exact h.2⟩
 | acc u e sz n us =>
  refine ⟨?_,fun b hbb=>(hb b hbb).2⟩
  obtain ⟨h1,h2⟩:=h.1
  refine ⟨h1,?_⟩
  rcases h2 with h2 | ⟨g,cap,cur,hv,hg,hh,r⟩
  ·exact .inl h2
  ·exact .inr ⟨g,cap,cur,hv,hg,by rw [(hb g (by subst hv;rfl)).1];exact hh,r⟩
 | mp b l =>
  obtain ⟨_,es,clock,h2,h3⟩:=h
  exact ⟨(hb b rfl).2,es,clock,by rw [(hb b rfl).1];exact h2,h3⟩


theorem j5 {Γ : List As} {x : As} {b : Nat} (hx : x∈Γ) (hb : x.blk = some b) : b∈Γ.filterMap As.blk:=List.mem_filterMap.2 ⟨x,hx,hb⟩

theorem St.draw {w0 w : World} {M : Mem} {Γ : List As} (h : St w0 M Γ w) (k : Nat) : St w0 M Γ { w with drawn:=k } :=
 ⟨h.os,h.tape,h.output,h.size,h.mem,fun x hx=>As.gX (w':={ w with drawn:=k }) (h.all x hx) (Sub.refl M) fun _ hb=>⟨rfl,(As.bu (h.all x hx) hb).2⟩,h.nodup⟩

theorem St.sub {w0 w : World} {M : Mem} {Γ Γ' : List As} (h : St w0 M Γ w) (hs : List.Sublist Γ' Γ) : St w0 M Γ' w :=
 ⟨h.os,h.tape,h.output,h.size,h.mem,fun x hx=>h.all x (hs.subset hx),(hs.filterMap As.blk).nodup h.nodup⟩

theorem St.perm {w0 w : World} {M : Mem} {Γ Γ' : List As} (h : St w0 M Γ w) (hp : List.Perm Γ Γ') : St w0 M Γ' w :=
 ⟨h.os,h.tape,h.output,h.size,h.mem,fun x hx=>h.all x (hp.symm.subset hx),(hp.filterMap As.blk).nodup_iff.1 h.nodup⟩

theorem St.add {w0 w : World} {M : Mem} {Γ : List As} (h : St w0 M Γ w) {x : As} (hx : x.ok M w) (hb : x.blk = none) : St w0 M (x::Γ) w :=
 ⟨h.os,h.tape,h.output,h.size,h.mem,fun y hy=>by
  rcases List.mem_cons.1 hy with rfl | hy
  ·exact hx
  ·exact h.all y hy,by simpa [List.filterMap_cons,hb] using h.nodup⟩

theorem St.rd {w0 w : World} {M : Mem} {Γ : List As} (h : St w0 M Γ w) {d : D} {u : Value} (hm : As.rd d u∈Γ) : Rd M d u:=h.all _ hm

theorem St.back {w0 w w' : World} {M M' : Mem} {Γ : List As} (h : St w0 M Γ w) (h' : St w0 M' Γ w') (hs : Sub M M') : St w0 M Γ w' :=
 ⟨h'.os,h'.tape,h'.output,h'.size,fun b o hb=>h'.mem b o (hs b o hb),fun x hx=>by
  have h1:=h.all x hx
  have h2:=h'.all x hx
  cases x with
  | rd d u=>exact h1
  | rds d u=>exact h1
  | own b e cs=>exact ⟨h1.1,h2.2⟩
  | acc u e sz n us=>exact ⟨h2.1,h1.2⟩
  | mp b l=>exact ⟨h1.1,h2.2⟩,h.nodup⟩

def az (w0 : World) (M : Mem) (Γ : List As) (F : Mem->List As->Prop) : Prop:=∀ w,St w0 M Γ w->∃ M' Γ',F M' Γ'/\St w0 M' Γ' w
theorem az.of {w0 : World} {M M' : Mem} {Γ Γ' : List As} {F : Mem->List As->Prop} (h : F M' Γ') (k : ∀ w,St w0 M Γ w->St w0 M' Γ' w) : az w0 M Γ F:=fun w hw=>⟨M',Γ',h,k w hw⟩

theorem St.alloc {w0 w : World} {M : Mem} {Γ : List As} (h : St w0 M Γ w) (e : TypeId) (cs : List Value) :
  St w0 M (.own w.heap.size e cs::Γ) { w with heap:=w.heap.push (.cells cs.toArray e (0,0)) }:=by
 have hold : ∀ b,b < w.heap.size->(w.heap.push (.cells cs.toArray e (0,0)))[b]? = w.heap[b]?:=fun b hb=>by
  rw [Array.getElem?_push,if_neg (by omega)]
 refine ⟨h.os,h.tape,h.output,by simp;have:=h.size;omega,fun b o hb=>?_,fun x hx=>?_,?_⟩
 ·rw [hold b (h.lt hb)];exact h.mem b o hb
 ·rcases List.mem_cons.1 hx with rfl | hx
  ·exact ⟨h.fresh,by simp⟩
  ·exact As.gX (h.all x hx) (Sub.refl M) fun b hb=>⟨hold b (As.bu (h.all x hx) hb).1,(As.bu (h.all x hx) hb).2⟩
 ·simp only [List.filterMap_cons,As.blk]
  refine List.nodup_cons.2 ⟨fun hm=>?_,h.nodup⟩
  obtain ⟨x,hx,hb⟩:=List.mem_filterMap.1 hm
  have:=(As.bu (h.all x hx) hb).1
  omega

theorem St.write {w0 w : World} {M : Mem} {Γ : List As} {b : Nat} {e : TypeId} {cs : List Value} (h : St w0 M (.own b e cs::Γ) w) (cs' : List Value) (w' : World)
  (hw : w' = { w with heap:=w.heap.setIfInBounds b (.cells cs'.toArray e (0,0)) }) : St w0 M (.own b e cs'::Γ) w':=by
 subst hw
 have hown:=h.all _ (List.mem_cons_self ..)
 have hlt : b < w.heap.size:=(Array.getElem?_eq_some_iff.1 hown.2).1
 have hne : ∀ k,k ≠ b->(w.heap.setIfInBounds b (.cells cs'.toArray e (0,0)))[k]? = w.heap[k]?:=fun k hk=>Array.getElem?_setIfInBounds_ne (by omega)
 have hnd:=h.nodup
 simp only [List.filterMap_cons,As.blk] at hnd
 refine ⟨h.os,h.tape,h.output,by simp;exact h.size,fun k o hk=>?_,fun x hx=>?_,by simpa [List.filterMap_cons,As.blk] using h.nodup⟩
 ·rw [hne k (fun e=>by subst e;rw [hown.1] at hk;cases hk)];exact h.mem k o hk
 ·rcases List.mem_cons.1 hx with rfl | hm
  ·exact ⟨hown.1,by simp [hlt]⟩
  ·have hx':=h.all x (List.mem_cons_of_mem _ hm)
   refine As.gX hx' (Sub.refl M) fun k hk=>⟨hne k fun e=>?_,(As.bu hx' hk).2⟩
   subst e
   exact (List.nodup_cons.1 hnd).1 (j5 hm hk)

abbrev Pst:=Exit->Lm->Mem->List As->Prop

def Real (n : Nat) (w0 : World) (X : Pst) (e : Exit) (a : Act) (w : World) : Prop:=∃ L M Γ,X e L M Γ/\Sat n L a/\St w0 M Γ w

def CW (P : Program) (n : Nat) (w0 : World) (c : Code) (X : Pst) (L : Lm) (M : Mem) (Γ : List As) : Prop :=
 ∀ a w,Sat n L a->St w0 M Γ w->c.wp P (Real n w0 X) a w

def AU (K : Lm->Mem->List As->Prop) (X : Pst) : Pst
 | .normal,L,M,Γ=>K L M Γ
 | e,L,M,Γ=>X e L M Γ

def AB (id : Nat) (X : Pst) : Pst
 | .exit i,L,M,Γ=>match Nat.beq i id with
  | true=>X .normal L M Γ
  | false=>X (.exit i) L M Γ
 | e,L,M,Γ=>X e L M Γ

section
variable {P : Program} {n : Nat} {w0 : World} {X : Pst} {L : Lm} {M : Mem} {Γ : List As}

theorem CW.pre {c : Code} {L' : Lm} {M' : Mem} {Γ' : List As} (h : CW P n w0 c X L' M' Γ') (hL : cj L L') (hG : ∀ w,St w0 M Γ w->St w0 M' Γ' w) : CW P n w0 c X L M Γ :=
 fun a w ha hw=>h a w (ha.keep hL) (hG w hw)

theorem CW.keep {c : Code} {L' : Lm} (hL : cj L L') (h : CW P n w0 c X L' M Γ) : CW P n w0 c X L M Γ:=h.pre hL fun _ hw=>hw

theorem CW.aF {c : Code} {F : Mem->List As->Prop} (ht : az w0 M Γ F) (h : ∀ M' Γ',F M' Γ'->CW P n w0 c X L M' Γ') : CW P n w0 c X L M Γ :=
 fun a w ha hw=>let ⟨M',Γ',hF,hw'⟩:=ht w hw;h M' Γ' hF a w ha hw'

theorem CW.seq {c1 c2 : Code} (h : ∀ K : Lm->Mem->List As->Prop,(∀ L M Γ,CW P n w0 c2 X L M Γ->K L M Γ)->CW P n w0 c1 (AU K X) L M Γ) : CW P n w0 (.seq c1 c2) X L M Γ:=by
 intro a w ha hw
 refine wp_seq (wp_mono (h (fun L M Γ=>CW P n w0 c2 X L M Γ) (fun _ _ _ h=>h) a w ha hw) ?_)
 rintro e a w ⟨L,M,Γ,hX,h1,h2⟩
 cases e <;> first | exact hX a w h1 h2 | exact ⟨L,M,Γ,hX,h1,h2⟩

theorem CW.skip (h : X .normal L M Γ) : CW P n w0 .skip X L M Γ:=fun _ _ ha hw=>wp_skip ⟨L,M,Γ,h,ha,hw⟩
theorem CW.exit {id : Nat} (h : X (.exit id) L M Γ) : CW P n w0 (.exit id) X L M Γ:=fun _ _ ha hw=>wp_exit ⟨L,M,Γ,h,ha,hw⟩
theorem CW.ret (h : X .ret L M Γ) : CW P n w0 .ret X L M Γ:=fun _ _ ha hw=>wp_ret ⟨L,M,Γ,h,ha,hw⟩

theorem CW.block {id : Nat} {c : Code} (h : CW P n w0 c (AB id X) L M Γ) : CW P n w0 (.block id c) X L M Γ:=by
 intro a w ha hw
 refine wp_block (wp_mono (h a w ha hw) ?_)
 rintro e a w ⟨L,M,Γ,hX,h1,h2⟩
 cases e with
 | exit i =>
  simp only [Exit.inBlock]
  by_cases e : i = id
  ·subst e
   have hb : Nat.beq i i = true:=Nat.beq_refl i
   simp only [AB,hb] at hX
   simp only [if_true]
   exact ⟨L,M,Γ,hX,h1,h2⟩
  ·have hb : Nat.beq i id = false:=by
    cases hb : Nat.beq i id with
    | false=>rfl
    | true=>exact absurd (Nat.eq_of_beq_eq_true hb) e
   simp only [AB,hb] at hX
   rw [if_neg e]
   exact ⟨L,M,Γ,hX,h1,h2⟩
 | _=>exact ⟨L,M,Γ,hX,h1,h2⟩

theorem CW.cond {t : Operand} {c1 c2 : Code} {b : Bool} (ht : evL L t = some (.bool b)) (h1 : b = true->CW P n w0 c1 X L M Γ) (h2 : b = false->CW P n w0 c2 X L M Γ) : CW P n w0 (.cond t c1 c2) X L M Γ :=
 fun a w ha hw=>wp_cond_split (ha.ev ht) (fun hb=>h1 hb a w ha hw) (fun hb=>h2 hb a w ha hw)
theorem CW.yes {t : Operand} {c1 c2 : Code} (ht : evL L t = some (.bool true)) (h1 : CW P n w0 c1 X L M Γ) : CW P n w0 (.cond t c1 c2) X L M Γ :=
 fun a w ha hw=>wp_cond_true (ha.ev ht) (h1 a w ha hw)
theorem CW.no {t : Operand} {c1 c2 : Code} (ht : evL L t = some (.bool false)) (h1 : CW P n w0 c2 X L M Γ) : CW P n w0 (.cond t c1 c2) X L M Γ :=
 fun a w ha hw=>wp_cond_false (ha.ev ht) (h1 a w ha hw)
theorem CW.ite {t : Operand} {c1 c2 : Code} {p : Prop} [Decidable p] (ht : evL L t = some (.bool (decide p))) (h1 : p->CW P n w0 c1 X L M Γ) (h2 : ¬ p->CW P n w0 c2 X L M Γ) : CW P n w0 (.cond t c1 c2) X L M Γ :=
 CW.cond ht (fun h=>h1 (of_decide_eq_true h)) (fun h=>h2 (of_decide_eq_false h))

theorem CW.loop {c : Code} (I : Nat->Lm->Mem->List As->Prop) (m : Nat) (h0 : I m L M Γ)
  (round : ∀ m L M Γ,I m L M Γ->CW P n w0 c (AU (fun L M Γ=>∃ m',m' < m/\I m' L M Γ) X) L M Γ) : CW P n w0 (.loop c) X L M Γ:=by
 intro a w ha hw b k cs
 have key : ∀ m (L : Lm) (M : Mem) (Γ : List As) (a : Act) (w : World),I m L M Γ->Sat n L a->St w0 M Γ w ->
   ∃ e a' w',Real n w0 X e a' w'/\Arrives P (lone (b.at a (.code c::.inLoop c::k)) cs w) b k cs e a' w':=by
  intro m
  induction m using Nat.strongRecOn with
  | _ m ih =>
   intro L M Γ a w hI ha hw
   obtain ⟨e,a1,w1,hq,harr⟩:=round m L M Γ hI a w ha hw b (.inLoop c::k) cs
   obtain ⟨L1,M1,Γ1,hX,h1,h2⟩:=hq
   cases e with
   | normal =>
    obtain ⟨m',hlt,hI'⟩:=hX
    obtain ⟨e2,a2,w2,hq2,harr2⟩:=ih m' hlt L1 M1 Γ1 a1 w1 hI' h1 h2
    exact ⟨e2,a2,w2,hq2,.of_steps (Steps.trans harr (.one step_inLoop)) harr2⟩
   | exit id=>exact ⟨_,a1,w1,⟨L1,M1,Γ1,hX,h1,h2⟩,.pass (x:=.inLoop c) rfl (fun _ _=>.inl (by simp)) harr⟩
   | goto l=>exact ⟨_,a1,w1,⟨L1,M1,Γ1,hX,h1,h2⟩,.pass (x:=.inLoop c) rfl (fun _ _=>.inl (by simp)) harr⟩
   | ret=>exact ⟨_,a1,w1,⟨L1,M1,Γ1,hX,h1,h2⟩,.pass (x:=.inLoop c) rfl (fun _ _=>.inl (by simp)) harr⟩
   | panic ch=>exact ⟨_,a1,w1,⟨L1,M1,Γ1,hX,h1,h2⟩,.pass (x:=.inLoop c) rfl (fun _ _=>.inl (by simp)) harr⟩
   | outgrown=>exact ⟨_,a1,w1,⟨L1,M1,Γ1,hX,h1,h2⟩,.pass (x:=.inLoop c) rfl (fun _ _=>.inl (by simp)) harr⟩
 obtain ⟨e,a',w',hq,harr⟩:=key m L M Γ a w h0 ha hw
 exact ⟨e,a',w',hq,.of_steps (.one step_loop) harr⟩
end
abbrev Post:=Value->Mem->List As->Prop
def RetP (w0 : World) (R : Post) (e : Ending) (w' : World) : Prop:=∃ v M Γ,e = .returned v/\R v M Γ/\St w0 M Γ w'

def aA (P : Program) (w0 : World) (M : Mem) (Γ : List As) (f : FuncId) (args : Array Value) (R : Post) : Prop :=
 ∀ w,St w0 M Γ w->Calls P f args w (RetP w0 R)


def RL (P : Program) (n : Nat) (w0 : World) (ops : Array Oper) (rest : List Oper) (L : Lm) (M : Mem) (Γ : List As) (K : Lm->Mem->List As->Prop) : Prop :=
 ∀ R : Exit->Act->World->Prop,(∀ L M Γ,K L M Γ->∀ a w,Sat n L a->St w0 M Γ w->R .normal a w)->∀ a w,Sat n L a->St w0 M Γ w->wpList P ops R rest a w

def Yq (P : Program) (w0 : World) (L : Lm) (M : Mem) (Γ : List As) (o : Oper) (v : Value) : Prop :=
 ∀ n a w,Sat n L a->St w0 M Γ w->(execOp a.eval o).run P w = .ok (.value v) w

def Want (ops : Array Oper) (L : Lm) (o : Oper) (b : Bool) : Prop :=
 match o.guard with
 | none=>b = true
 | some (j,want)=>∃ t x,(ops[j]?).bind (·.dst) = some t/\cR L t = some (.bool x)/\b = (x == want)

theorem Want.spec {ops : Array Oper} {L : Lm} {o : Oper} {b : Bool} (h : Want ops L o b) {n : Nat} {a : Act} (ha : Sat n L a) : Region.wanted o (yielded ops a.tmps) = b:=by
 unfold Want at h
 unfold Region.wanted
 split at h
 ·rename_i hg
  rw [hg];exact h.symm
 ·rename_i j want hg
  obtain ⟨t,x,ht,hx,rfl⟩:=h
  rw [hg]
  have:=ha.get t _ hx
  simp only [yielded,ht,Option.bind_some,this]
  cases x <;> cases want <;> rfl

section
variable {P : Program} {n : Nat} {w0 : World} {ops : Array Oper} {rest : List Oper} {L : Lm} {M : Mem} {Γ : List As} {K : Lm->Mem->List As->Prop}

theorem RL.nil (h : K L M Γ) : RL P n w0 ops [] L M Γ K:=fun _ hR a w ha hw=>hR L M Γ h a w ha hw

theorem RL.pre {L' : Lm} {M' : Mem} {Γ' : List As} (hL : cj L L') (hG : ∀ w,St w0 M Γ w->St w0 M' Γ' w) (h : RL P n w0 ops rest L' M' Γ' K) : RL P n w0 ops rest L M Γ K :=
 fun R hR a w ha hw=>h R hR a w (ha.keep hL) (hG w hw)

theorem RL.nE {F : Prop} (hF : ∀ w,St w0 M Γ w->F) (h : F->RL P n w0 ops rest L M Γ K) : RL P n w0 ops rest L M Γ K :=
 fun R hR a w ha hw=>h (hF w hw) R hR a w ha hw

theorem RL.aF {F : Mem->List As->Prop} (ht : az w0 M Γ F) (h : ∀ M' Γ',F M' Γ'->RL P n w0 ops rest L M' Γ' K) : RL P n w0 ops rest L M Γ K :=
 fun R hR a w ha hw=>let ⟨M',Γ',hF,hw'⟩:=ht w hw;h M' Γ' hF R hR a w ha hw'

theorem RL.q {op : Op} {ty : TypeId} {pos : String} {after : Array Edge} {d : Nat} {v : Value} (hy : Yq P w0 L M Γ ⟨some d,op,ty,pos,after,none⟩ v) (hd : Nat.blt d n = true)
  (h : RL P n w0 ops rest ((d,v)::L) M Γ K) : RL P n w0 ops (⟨some d,op,ty,pos,after,none⟩::rest) L M Γ K:=by
 intro R hR a w ha hw
 unfold wpList
 rw [if_pos (by simp [Region.wanted])]
 refine .inl ?_
 unfold Oper.wp
 rw [hy n a w ha hw]
 exact h R hR _ _ (ha.put hd) hw

theorem RL.qg {op : Op} {ty : TypeId} {pos : String} {after : Array Edge} {g : Nat×Bool} {d : Nat} {v : Value} (hg : Want ops L ⟨some d,op,ty,pos,after,some g⟩ true) (hy : Yq P w0 L M Γ ⟨some d,op,ty,pos,after,some g⟩ v) (hd : Nat.blt d n = true)
  (h : RL P n w0 ops rest ((d,v)::L) M Γ K) : RL P n w0 ops (⟨some d,op,ty,pos,after,some g⟩::rest) L M Γ K:=by
 intro R hR a w ha hw
 unfold wpList
 rw [if_pos (hg.spec ha)]
 refine .inl ?_
 unfold Oper.wp
 rw [hy n a w ha hw]
 exact h R hR _ _ (ha.put hd) hw

theorem RL.no {op : Op} {ty : TypeId} {pos : String} {after : Array Edge} {g : Nat×Bool} {d : Nat} (hg : Want ops L ⟨some d,op,ty,pos,after,some g⟩ false) (hd : Nat.blt d n = true)
  (h : RL P n w0 ops rest ((d,undef)::L) M Γ K) : RL P n w0 ops (⟨some d,op,ty,pos,after,some g⟩::rest) L M Γ K:=by
 intro R hR a w ha hw
 unfold wpList
 rw [if_neg (by rw [hg.spec ha];simp)]
 exact h R hR _ _ (ha.put hd) hw

theorem RL.qw {op : Op} {ty : TypeId} {pos : String} {after : Array Edge} {g : Option (Nat×Bool)} {d : Nat} {v : Value} (hg : Want ops L ⟨some d,op,ty,pos,after,g⟩ true) (hy : Yq P w0 L M Γ ⟨some d,op,ty,pos,after,g⟩ v) (hd : Nat.blt d n = true)
  (h : RL P n w0 ops rest ((d,v)::L) M Γ K) : RL P n w0 ops (⟨some d,op,ty,pos,after,g⟩::rest) L M Γ K:=by
 intro R hR a w ha hw
 unfold wpList
 rw [if_pos (hg.spec ha)]
 refine .inl ?_
 unfold Oper.wp
 rw [hy n a w ha hw]
 exact h R hR _ _ (ha.put hd) hw

theorem RL.qs {op : Op} {ty : TypeId} {pos : String} {after : Array Edge} {d : Nat} {p : Prop} [Decidable p] (hy : Yq P w0 L M Γ ⟨some d,op,ty,pos,after,none⟩ (.bool (decide p))) (hd : Nat.blt d n = true)
  (h1 : p->RL P n w0 ops rest ((d,.bool true)::L) M Γ K) (h2 : ¬ p->RL P n w0 ops rest ((d,.bool false)::L) M Γ K) : RL P n w0 ops (⟨some d,op,ty,pos,after,none⟩::rest) L M Γ K:=by
 by_cases hp : p
 ·rw [decide_eq_true hp] at hy;exact RL.q hy hd (h1 hp)
 ·rw [decide_eq_false hp] at hy;exact RL.q hy hd (h2 hp)
theorem RL.qgs {op : Op} {ty : TypeId} {pos : String} {after : Array Edge} {g : Nat×Bool} {d : Nat} {p : Prop} [Decidable p] (hg : Want ops L ⟨some d,op,ty,pos,after,some g⟩ true) (hy : Yq P w0 L M Γ ⟨some d,op,ty,pos,after,some g⟩ (.bool (decide p))) (hd : Nat.blt d n = true)
  (h1 : p->RL P n w0 ops rest ((d,.bool true)::L) M Γ K) (h2 : ¬ p->RL P n w0 ops rest ((d,.bool false)::L) M Γ K) : RL P n w0 ops (⟨some d,op,ty,pos,after,some g⟩::rest) L M Γ K:=by
 by_cases hp : p
 ·rw [decide_eq_true hp] at hy;exact RL.qg hg hy hd (h1 hp)
 ·rw [decide_eq_false hp] at hy;exact RL.qg hg hy hd (h2 hp)

theorem RL.e {op : Op} {ty : TypeId} {pos : String} {after : Array Edge} {d : Nat} (F : Value->Mem->List As->Prop)
  (hy : ∀ n a w,Sat n L a->St w0 M Γ w->∃ v w' M' Γ',(execOp a.eval ⟨some d,op,ty,pos,after,none⟩).run P w = .ok (.value v) w'/\F v M' Γ'/\St w0 M' Γ' w') (hd : Nat.blt d n = true)
  (h : ∀ v M' Γ',F v M' Γ'->RL P n w0 ops rest ((d,v)::L) M' Γ' K) : RL P n w0 ops (⟨some d,op,ty,pos,after,none⟩::rest) L M Γ K:=by
 intro R hR a w ha hw
 unfold wpList
 rw [if_pos (by simp [Region.wanted])]
 refine .inl ?_
 unfold Oper.wp
 obtain ⟨v,w',M',Γ',hr,hF,hw'⟩:=hy n a w ha hw
 rw [hr]
 exact h v M' Γ' hF R hR _ _ (ha.put hd) hw'

theorem RL.s {op : Op} {ty : TypeId} {pos : String} {after : Array Edge} {Γ' : List As}
  (hy : ∀ n a w,Sat n L a->St w0 M Γ w->∃ w',(execOp a.eval ⟨none,op,ty,pos,after,none⟩).run P w = .ok .skip w'/\St w0 M Γ' w')
  (h : RL P n w0 ops rest L M Γ' K) : RL P n w0 ops (⟨none,op,ty,pos,after,none⟩::rest) L M Γ K:=by
 intro R hR a w ha hw
 unfold wpList
 rw [if_pos (by simp [Region.wanted])]
 refine .inl ?_
 unfold Oper.wp
 obtain ⟨w',hr,hw'⟩:=hy n a w ha hw
 rw [hr]
 exact h R hR _ _ ha hw'

theorem RL.c {op : Op} {ty : TypeId} {pos : String} {after : Array Edge} {g : Option (Nat×Bool)} {d : Nat} {f : FuncId} {args : Array Value} {F : Post} (hg : Want ops L ⟨some d,op,ty,pos,after,g⟩ true)
  (hy : ∀ n a w,Sat n L a->(execOp a.eval ⟨some d,op,ty,pos,after,g⟩).run P w = .ok (.enter f args) w) (hd : Nat.blt d n = true)
  (hc : aA P w0 M Γ f args F)
  (h : ∀ v M' Γ',F v M' Γ'->RL P n w0 ops rest ((d,v)::L) M' Γ' K) : RL P n w0 ops (⟨some d,op,ty,pos,after,g⟩::rest) L M Γ K:=by
 intro R hR a w ha hw
 unfold wpList
 rw [if_pos (hg.spec ha)]
 refine .inl ?_
 unfold Oper.wp
 rw [hy n a w ha]
 refine (hc w hw).mono ?_
 rintro e w' ⟨v,M',Γ',rfl,hF,hw'⟩
 exact h v M' Γ' hF R hR _ _ (ha.put hd) hw'

theorem CW.regionM {id : Nat} {X : Pst} {l : List Oper} (L' : Lm) (h : RL P n w0 l.toArray l L M Γ (fun L1 M1 Γ1=>cj L1 L'/\∀ w,St w0 M1 Γ1 w->St w0 M Γ w)) (k : X .normal L' M Γ) : CW P n w0 (.region id l.toArray false) X L M Γ :=
 fun a w ha hw=>wp_region_lit (h _ (fun _ _ _ hX _ w ha hw=>⟨L',M,Γ,k,ha.keep hX.1,hX.2 w hw⟩) a w ha hw)

theorem CW.region {id : Nat} {X : Pst} {l : List Oper} (h : RL P n w0 l.toArray l L M Γ (X .normal)) : CW P n w0 (.region id l.toArray false) X L M Γ :=
 fun a w ha hw=>wp_region_lit (h _ (fun L M Γ hX _ _ ha hw=>⟨L,M,Γ,hX,ha,hw⟩) a w ha hw)
end


def QL (P : Program) (n : Nat) (w0 : World) (ops : Array Oper) (C0 : List As) (M : Mem) (rest : List Oper) (L : Lm) (Γ : List As) (K : Lm->List As->Prop) : Prop :=
 (∃ w,St w0 M C0 w)->(∀ w,St w0 M C0 w->St w0 M Γ w) ->
 ∀ R : Act->Prop,(∀ L Γ,K L Γ->(∀ w,St w0 M C0 w->St w0 M Γ w)->∀ a,Sat n L a->R a)->∀ a,Sat n L a->wpQuiet P ops (St w0 M C0) R rest a

section
variable {P : Program} {n : Nat} {w0 : World} {ops : Array Oper} {C0 : List As} {rest : List Oper} {L : Lm} {M : Mem} {Γ : List As} {K : Lm->List As->Prop}

theorem QL.nil (h : K L Γ) : QL P n w0 ops C0 M [] L Γ K:=fun _ hC _ hR a ha=>hR L Γ h hC a ha

theorem QL.nE {F : Prop} (hF : ∀ w,St w0 M Γ w->F) (h : F->QL P n w0 ops C0 M rest L Γ K) : QL P n w0 ops C0 M rest L Γ K :=
 fun hex hC=>h (let ⟨w,hw⟩:=hex;hF w (hC w hw)) hex hC

theorem QL.more {Γ' : List As} (hG : ∀ w,St w0 M Γ w->St w0 M Γ' w) (h : QL P n w0 ops C0 M rest L Γ' K) : QL P n w0 ops C0 M rest L Γ K :=
 fun hex hC=>h hex fun w hw=>hG w (hC w hw)

theorem QL.q {op : Op} {ty : TypeId} {pos : String} {after : Array Edge} {d : Nat} {v : Value} (hy : Yq P w0 L M Γ ⟨some d,op,ty,pos,after,none⟩ v) (hd : Nat.blt d n = true)
  (h : QL P n w0 ops C0 M rest ((d,v)::L) Γ K) : QL P n w0 ops C0 M (⟨some d,op,ty,pos,after,none⟩::rest) L Γ K:=by
 intro hex hC R hR a ha
 unfold wpQuiet
 rw [if_pos (by simp [Region.wanted])]
 refine ⟨v,fun w hw=>?_,h hex hC R hR _ (ha.put hd)⟩
 unfold Oper.quietAt
 rw [hy n a w ha (hC w hw)]
 exact ⟨rfl,rfl⟩

theorem QL.qw {op : Op} {ty : TypeId} {pos : String} {after : Array Edge} {g : Option (Nat×Bool)} {d : Nat} {v : Value} (hg : Want ops L ⟨some d,op,ty,pos,after,g⟩ true) (hy : Yq P w0 L M Γ ⟨some d,op,ty,pos,after,g⟩ v) (hd : Nat.blt d n = true)
  (h : QL P n w0 ops C0 M rest ((d,v)::L) Γ K) : QL P n w0 ops C0 M (⟨some d,op,ty,pos,after,g⟩::rest) L Γ K:=by
 intro hex hC R hR a ha
 unfold wpQuiet
 rw [if_pos (hg.spec ha)]
 refine ⟨v,fun w hw=>?_,h hex hC R hR _ (ha.put hd)⟩
 unfold Oper.quietAt
 rw [hy n a w ha (hC w hw)]
 exact ⟨rfl,rfl⟩
theorem QL.c {op : Op} {ty : TypeId} {pos : String} {after : Array Edge} {g : Option (Nat×Bool)} {d : Nat} {f : FuncId} {args : Array Value} {v : Value} (hg : Want ops L ⟨some d,op,ty,pos,after,g⟩ true)
  (hy : ∀ n a w,Sat n L a->(execOp a.eval ⟨some d,op,ty,pos,after,g⟩).run P w = .ok (.enter f args) w) (hd : Nat.blt d n = true)
  (hc : ∀ Γ0,(∀ w,St w0 M Γ0 w->St w0 M Γ w)->aA P w0 M Γ0 f args (fun u M' Γ'=>u = v/\M' = M/\Γ' = Γ0))
  (h : QL P n w0 ops C0 M rest ((d,v)::L) Γ K) : QL P n w0 ops C0 M (⟨some d,op,ty,pos,after,g⟩::rest) L Γ K:=by
 intro hex hC R hR a ha
 unfold wpQuiet
 rw [if_pos (hg.spec ha)]
 refine ⟨v,fun w hw=>?_,h hex hC R hR _ (ha.put hd)⟩
 unfold Oper.quietAt
 rw [hy n a w ha]
 refine ⟨rfl,(hc C0 hC w hw).mono ?_⟩
 rintro e w' ⟨u,M',Γ',rfl,⟨rfl,rfl,rfl⟩,hw'⟩
 exact ⟨rfl,hw'⟩

theorem CW.A9 {id : Nat} {X : Pst} {l : List Oper} (hm : P.follows .mixedOrders = true) (hB : Region.lexB .any l.toArray = true) (h : QL P n w0 l.toArray Γ M l L Γ (fun L Γ=>X .normal L M Γ)) : CW P n w0 (.region id l.toArray true) X L M Γ:=by
 intro a w ha hw
 refine wp_region_quiet (C:=St w0 M Γ) hm hB (hw.draw _) ?_
 have:=h ⟨w,hw⟩ (fun _ hw=>hw) (fun a'=>∀ w',St w0 M Γ w'->Real n w0 X .normal a' w') (fun L Γ' hX hC a ha w' hw'=>⟨L,M,Γ',hX,ha,hC w' hw'⟩) a ha
 simpa using this
end


def endX (w0 : World) (r : Nat) (R : Post) : Pst
 | .ret,L,M,Γ | .normal,L,M,Γ=>∃ v,cR L r = some v/\az w0 M Γ (R v)
 | _,_,_,_=>False

def slotsOf : Nat->List Value->Lm
 | _,[]=>[]
 | i,v::vs=>(i,v)::slotsOf (i+1) vs

theorem qb : ∀ (vs : List Value) (i t : Nat) (v : Value),cR (slotsOf i vs) t = some v->∃ k,t = i+k/\vs[k]? = some v
 | [],_,_,_,h=>by simp [slotsOf,cR] at h
 | x::xs,i,t,v,h=>by
  simp only [slotsOf,cR] at h
  cases hb : Nat.beq t i with
  | true =>
   rw [hb] at h
   simp only [Option.some.injEq] at h
   exact ⟨0,by have:=Nat.eq_of_beq_eq_true hb;omega,by simp [h]⟩
  | false =>
   rw [hb] at h
   obtain ⟨k,h1,h2⟩:=qb xs (i+1) t v h
   exact ⟨k+1,by omega,by simpa using h2⟩

theorem fE (n : Nat) (args : List Value) (hn : Nat.ble args.length n = true) :
  Sat n (slotsOf 0 args) { tmps:=args.toArray++Array.replicate (n - args.toArray.size) undef,defers:=[] }:=by
 have hn' : args.length<=n:=by simpa [Nat.ble_eq] using hn
 refine ⟨by simp;omega,rfl,fun t v h=>?_⟩
 obtain ⟨k,rfl,hk⟩:=qb args 0 t v h
 have : k < args.length:=by
  rcases Nat.lt_or_ge k args.length with h | h
  ·exact h
  ·rw [List.getElem?_eq_none h] at hk;cases hk
 simp only [Nat.zero_add]
 rw [Array.getElem?_append_left (by simpa using this)]
 simpa using hk

theorem enter {P : Program} {f : FuncId} {fn : Func} {c : Code} {args : List Value} {w0 : World} {M : Mem} {Γ : List As} {R : Post} {r n : Nat}
  (hf : P.funcs[f]? = some fn) (hb : fn.body = some c) (hn : fn.ntmps = n) (hr : fn.results = #[.tmp r]) (ha : Nat.ble args.length n = true)
  (h : ∀ w1,St w0 M Γ w1->CW P n w0 c (endX w0 r R) (slotsOf 0 args) M Γ) : aA P w0 M Γ f args.toArray R:=by
 intro w hw
 refine calls_of_wp hf hb ?_
 rw [hn]
 refine wp_mono (h w hw _ w (fE n args ha) hw) ?_
 rintro e a w' ⟨L,M1,Γ1,hX,h1,h2⟩
 cases e with
 | normal | ret =>
  obtain ⟨v,hv,hi⟩:=hX
  obtain ⟨M',Γ',hR,hw'⟩:=hi w' h2
  refine ⟨h1.defers,v,?_,v,M',Γ',rfl,hR,hw'⟩
  have:=h1.get r v hv
  simp [results,hr,this]
 | _=>exact hX.elim

def eL (P : Program) (t : TypeId) : Bool:=match P.underlying t with
 | some (.struct _)=>false
 | some (.array ..)=>false
 | none=>false
 | _=>true
def fX (P : Program) (t : TypeId) (sz : Nat) : Bool:=(match P.underlying t with
 | some (.struct _)=>true
 | some (.array ..)=>true
 | _=>false) && (match P.info? t with
 | some i=>Nat.beq i.size sz
 | none=>false)
def eV (P : Program) (t : TypeId) (sz : Nat) : Bool:=match P.info? t with
 | some i=>Nat.beq i.size sz
 | none=>false
def sliceB (P : Program) (t e sz : Nat) : Bool:=(match P.underlying t with
 | some (.slice e')=>Nat.beq e' e
 | _=>false) && eV P e sz
def cB (P : Program) (s i off : Nat) : Bool:=match P.underlying s with
 | some (.struct fs)=>match fs[i]? with
  | some f=>Nat.beq f.offset off && (match P.info? f.type with
   | some j=>Nat.blt 0 j.size
   | none=>false)
  | none=>false
 | _=>false
def bC (P : Program) (f : FuncId) : Bool:=match P.funcs[f]? with
 | some fn => !(fn.name == "runtime.NumGoroutine") && fn.body.isSome
 | none=>false

section
variable {P : Program} {w : World}
theorem rF {t : TypeId} (h : eL P t = true) : (isAgg t).run P w = .ok false w:=by
 unfold eL at h
 unfold isAgg
 cases hu : P.underlying t with
 | none=>simp [hu] at h
 | some d =>
  simp only [Sem.run_bind,run_underlying hu,Result.andThen_ok]
  cases d <;> first | rfl | simp [hu] at h
theorem xL {t : TypeId} {sz : Nat} (h : fX P t sz = true) : (isAgg t).run P w = .ok true w/\(Go.sizeOf t).run P w = .ok sz w:=by
 unfold fX at h
 simp only [Bool.and_eq_true] at h
 obtain ⟨h1,h2⟩:=h
 constructor
 ·unfold isAgg
  cases hu : P.underlying t with
  | none=>simp [hu] at h1
  | some d =>
   simp only [Sem.run_bind,run_underlying hu,Result.andThen_ok]
   cases d <;> first | rfl | simp [hu] at h1
 ·cases hi : P.info? t with
  | none=>simp [hi] at h2
  | some i =>
   rw [hi] at h2
   have:=Nat.eq_of_beq_eq_true h2
   simp [Go.sizeOf,typeInfo,hi,this]
theorem ia {t : TypeId} {sz : Nat} (h : eV P t sz = true) : (Go.sizeOf t).run P w = .ok sz w:=by
 unfold eV at h
 cases hi : P.info? t with
 | none=>simp [hi] at h
 | some i =>
  rw [hi] at h
  have:=Nat.eq_of_beq_eq_true h
  simp [Go.sizeOf,typeInfo,hi,this]
theorem kU {t e sz : Nat} (h : sliceB P t e sz = true) : P.underlying t = some (.slice e)/\eV P e sz = true:=by
 unfold sliceB at h
 simp only [Bool.and_eq_true] at h
 obtain ⟨h1,h2⟩:=h
 refine ⟨?_,h2⟩
 cases hu : P.underlying t with
 | none=>simp [hu] at h1
 | some d =>
  rw [hu] at h1
  cases d <;> first | (have:=Nat.eq_of_beq_eq_true h1;subst this;rfl) | simp at h1
theorem zw {s i off : Nat} (h : cB P s i off = true) (x : Addr) : (Instr.fieldAt s (.pointer (some x)) i).run P w = .ok (.pointer (some (x.add off))) w:=by
 unfold cB at h
 unfold Instr.fieldAt
 cases hu : P.underlying s with
 | none=>simp [hu] at h
 | some d =>
  rw [hu] at h
  cases d with
  | struct fs =>
   simp only [] at h
   cases hf : fs[i]? with
   | none=>simp [hf] at h
   | some f =>
    rw [hf] at h
    simp only [Bool.and_eq_true] at h
    obtain ⟨h1,h2⟩:=h
    have h1:=Nat.eq_of_beq_eq_true h1
    cases hi : P.info? f.type with
    | none=>simp [hi] at h2
    | some j =>
     rw [hi] at h2
     have h2 : 0 < j.size:=by simpa [Nat.blt_eq] using h2
     have h3 : j.size ≠ 0:=by omega
     simp [run_underlying hu,hf,Instr.sureAddr,fieldPlace,Go.sizeOf,typeInfo,hi,h3,h1]
  | _=>simp at h
end

section
variable {P : Program} {w0 : World} {L : Lm} {M : Mem} {Γ : List As} {d : Option Nat} {ty : TypeId} {pos : String} {af : Array Edge} {g : Option (Nat×Bool)}

namespace Y
theorem move {x : Operand} {v : Value} (h : evL L x = some v) : Yq P w0 L M Γ ⟨d,.move x,ty,pos,af,g⟩ v:=fun n a w ha _=>by
 simp [execOp,ha.ev h]
theorem assign {x : Operand} {v : Value} (h : evL L x = some v) : Yq P w0 L M Γ ⟨d,.assign x,ty,pos,af,g⟩ v:=fun n a w ha _=>by
 simp [execOp,ha.ev h]
theorem fF {c x y : Operand} {u : Value} (hc : evL L c = some (.bool true)) (hx : evL L x = some u) : Yq P w0 L M Γ ⟨d,.pick c x y,ty,pos,af,g⟩ u:=fun n a w ha _=>by
 simp [execOp,ha.ev hc,ha.ev hx,asBool]
theorem fG {c x y : Operand} {v : Value} (hc : evL L c = some (.bool false)) (hy : evL L y = some v) : Yq P w0 L M Γ ⟨d,.pick c x y,ty,pos,af,g⟩ v:=fun n a w ha _=>by
 simp [execOp,ha.ev hc,ha.ev hy,asBool]

theorem nR {z : Int} (h : -9223372036854775808<=z/\z<=9223372036854775807) : IntKind.i64.wrap z = z:=IntWalk.i64_in z h

theorem add {x y : Operand} {m k : Int} {t : TypeId} (hx : evL L x = some (.int .i64 m)) (hy : evL L y = some (.int .i64 k)) (hb : -9223372036854775808<=m+k/\m+k<=9223372036854775807) :
  Yq P w0 L M Γ ⟨d,.binOp .add t x y t,ty,pos,af,g⟩ (.int .i64 (m+k)):=fun n a w ha _=>by
 simp [execOp,ha.ev hx,ha.ev hy,eqGuard,Go.binOp,Op.intArith,nR hb]
theorem sub {x y : Operand} {m k : Int} {t : TypeId} (hx : evL L x = some (.int .i64 m)) (hy : evL L y = some (.int .i64 k)) (hb : -9223372036854775808<=m - k/\m - k<=9223372036854775807) :
  Yq P w0 L M Γ ⟨d,.binOp .sub t x y t,ty,pos,af,g⟩ (.int .i64 (m - k)):=fun n a w ha _=>by
 simp [execOp,ha.ev hx,ha.ev hy,eqGuard,Go.binOp,Op.intArith,nR hb]
theorem mul {x y : Operand} {m k : Int} {t : TypeId} (hx : evL L x = some (.int .i64 m)) (hy : evL L y = some (.int .i64 k)) (hb : -9223372036854775808<=m * k/\m * k<=9223372036854775807) :
  Yq P w0 L M Γ ⟨d,.binOp .mul t x y t,ty,pos,af,g⟩ (.int .i64 (m * k)):=fun n a w ha _=>by
 simp [execOp,ha.ev hx,ha.ev hy,eqGuard,Go.binOp,Op.intArith,nR hb]
theorem quo {x y : Operand} {m k : Int} {t : TypeId} (hx : evL L x = some (.int .i64 m)) (hy : evL L y = some (.int .i64 k)) (h0 : k ≠ 0) (hb : -9223372036854775808<=m.tdiv k/\m.tdiv k<=9223372036854775807) :
  Yq P w0 L M Γ ⟨d,.binOp .quo t x y t,ty,pos,af,g⟩ (.int .i64 (m.tdiv k)):=fun n a w ha _=>by
 simp [execOp,ha.ev hx,ha.ev hy,eqGuard,Go.binOp,Op.intDiv,h0,nR hb]
theorem rem {x y : Operand} {m k : Int} {t : TypeId} (hx : evL L x = some (.int .i64 m)) (hy : evL L y = some (.int .i64 k)) (h0 : k ≠ 0) :
  Yq P w0 L M Γ ⟨d,.binOp .rem t x y t,ty,pos,af,g⟩ (.int .i64 (m.tmod k)):=fun n a w ha _=>by
 simp [execOp,ha.ev hx,ha.ev hy,eqGuard,Go.binOp,Op.intDiv,h0]
theorem lss {x y : Operand} {m k : Int} {t : TypeId} (hx : evL L x = some (.int .i64 m)) (hy : evL L y = some (.int .i64 k)) :
  Yq P w0 L M Γ ⟨d,.binOp .lss t x y t,ty,pos,af,g⟩ (.bool (decide (m < k))):=fun n a w ha _=>by
 simp [execOp,ha.ev hx,ha.ev hy,eqGuard,Go.binOp,Op.intCmp]
theorem leq {x y : Operand} {m k : Int} {t : TypeId} (hx : evL L x = some (.int .i64 m)) (hy : evL L y = some (.int .i64 k)) :
  Yq P w0 L M Γ ⟨d,.binOp .leq t x y t,ty,pos,af,g⟩ (.bool (decide (m<=k))):=fun n a w ha _=>by
 simp [execOp,ha.ev hx,ha.ev hy,eqGuard,Go.binOp,Op.intCmp]
theorem gtr {x y : Operand} {m k : Int} {t : TypeId} (hx : evL L x = some (.int .i64 m)) (hy : evL L y = some (.int .i64 k)) :
  Yq P w0 L M Γ ⟨d,.binOp .gtr t x y t,ty,pos,af,g⟩ (.bool (decide (k < m))):=fun n a w ha _=>by
 simp [execOp,ha.ev hx,ha.ev hy,eqGuard,Go.binOp,Op.intCmp]
theorem geq {x y : Operand} {m k : Int} {t : TypeId} (hx : evL L x = some (.int .i64 m)) (hy : evL L y = some (.int .i64 k)) :
  Yq P w0 L M Γ ⟨d,.binOp .geq t x y t,ty,pos,af,g⟩ (.bool (decide (k<=m))):=fun n a w ha _=>by
 simp [execOp,ha.ev hx,ha.ev hy,eqGuard,Go.binOp,Op.intCmp]
theorem eql {x y : Operand} {m k : Int} {t : TypeId} (hx : evL L x = some (.int .i64 m)) (hy : evL L y = some (.int .i64 k)) :
  Yq P w0 L M Γ ⟨d,.binOp .eql t x y t,ty,pos,af,g⟩ (.bool (decide (m = k))):=fun n a w ha _=>by
 simp [execOp,ha.ev hx,ha.ev hy,eqGuard,Go.binOp,Op.intCmp]
 by_cases h : m = k <;> simp [h]
theorem neq {x y : Operand} {m k : Int} {t : TypeId} (hx : evL L x = some (.int .i64 m)) (hy : evL L y = some (.int .i64 k)) :
  Yq P w0 L M Γ ⟨d,.binOp .neq t x y t,ty,pos,af,g⟩ (.bool (decide (m ≠ k))):=fun n a w ha _=>by
 simp [execOp,ha.ev hx,ha.ev hy,eqGuard,Go.binOp,Op.intCmp]
 by_cases h : m = k <;> simp [h]
theorem neg {x : Operand} {m : Int} {t : TypeId} (hx : evL L x = some (.int .i64 m)) (hb : -9223372036854775808<=-m/\-m<=9223372036854775807) :
  Yq P w0 L M Γ ⟨d,.unOp .neg t x,ty,pos,af,g⟩ (.int .i64 (-m)):=fun n a w ha _=>by
 have hb' : -9223372036854775808<=0 - m/\0 - m<=9223372036854775807:=by omega
 simp only [execOp,ha.ev hx,Op.unary,Op.intArith,nR hb']
 simp
theorem not {x : Operand} {b : Bool} {t : TypeId} (hx : evL L x = some (.bool b)) :
  Yq P w0 L M Γ ⟨d,.unOp .not t x,ty,pos,af,g⟩ (.bool (!b)):=fun n a w ha _=>by
 simp [execOp,ha.ev hx,Op.unary]
theorem notD {x : Operand} {p : Prop} [Decidable p] {t : TypeId} (hx : evL L x = some (.bool (decide p))) :
  Yq P w0 L M Γ ⟨d,.unOp .not t x,ty,pos,af,g⟩ (.bool (decide (¬ p))):=fun n a w ha _=>by
 simp [execOp,ha.ev hx,Op.unary]
theorem extract {x : Operand} {vs : List Value} {i : Nat} {v : Value} (hx : evL L x = some (.tuple vs.toArray)) (hi : vs[i]? = some v) :
  Yq P w0 L M Γ ⟨d,.extract x i,ty,pos,af,g⟩ v:=fun n a w ha _=>by
 simp [execOp,ha.ev hx,Instr.extract,hi]

theorem len {x : Operand} {t : TypeId} {a : Option Addr} {k c : Nat} {e : Nat} (hx : evL L x = some (.slice a k c)) (ht : P.underlying t = some (.slice e)) :
  Yq P w0 L M Γ ⟨d,.call ⟨.builtin .len,#[x],#[t]⟩,ty,pos,af,g⟩ (.int .i64 (k : Int)):=fun n a w ha _=>by
 simp [execOp,resolve,invoke,Go.builtin,Builtin.len_,ha.ev hx,run_underlying ht,goInt]
theorem min2 {x y : Operand} {m k : Int} {ts : Array TypeId} (hx : evL L x = some (.int .i64 m)) (hy : evL L y = some (.int .i64 k)) :
  Yq P w0 L M Γ ⟨d,.call ⟨.builtin .min,#[x,y],ts⟩,ty,pos,af,g⟩ (.int .i64 (min m k)):=fun n a w ha _=>by
 simp [execOp,resolve,invoke,Go.builtin,Builtin.min_,Builtin.min2,ha.ev hx,ha.ev hy]
 omega
theorem max2 {x y : Operand} {m k : Int} {ts : Array TypeId} (hx : evL L x = some (.int .i64 m)) (hy : evL L y = some (.int .i64 k)) :
  Yq P w0 L M Γ ⟨d,.call ⟨.builtin .max,#[x,y],ts⟩,ty,pos,af,g⟩ (.int .i64 (max m k)):=fun n a w ha _=>by
 simp [execOp,resolve,invoke,Go.builtin,Builtin.max_,Builtin.max2,ha.ev hx,ha.ev hy]
 omega

theorem index {x i : Operand} {t e sz : Nat} {a : Option Addr} {l c : Nat} {ik : IntKind} {z : Int} (k : Nat) (hx : evL L x = some (.slice a l c)) (hi : evL L i = some (.int ik z)) (hz : z = (k : Int)) (hk : k < l)
  (ht : sliceB P t e sz = true) (hs : ∀ w,St w0 M Γ w->a.isSome = true) :
  Yq P w0 L M Γ ⟨d,.indexAddr t x i,ty,pos,af,g⟩ (.pointer (some (adr a (k * sz)))):=fun n ac w ha hw=>by
 obtain ⟨b,rfl⟩:=Option.isSome_iff_exists.1 (hs w hw)
 subst hz
 obtain ⟨h1,h2⟩:=kU ht
 simp [execOp,ha.ev hx,ha.ev hi,Instr.indexAt,asIntOf,run_underlying h1,ia h2,hk,adr]
theorem field {x : Operand} {s i off : Nat} {a : Option Addr} {q : Nat} (hx : evL L x = some (.pointer (some (adr a q)))) (hf : cB P s i off = true) :
  Yq P w0 L M Γ ⟨d,.fieldAddr s x i,ty,pos,af,g⟩ (.pointer (some (adr a (q+off)))):=fun n ac w ha _=>by
 simp [execOp,ha.ev hx,zw hf,cn]

theorem load {x : Operand} {t : TypeId} {p : Addr} {v : Value} (hx : evL L x = some (.pointer (some p))) (hf : eL P t = true) (hc : ∀ w,St w0 M Γ w->w.cell? p = some v) :
  Yq P w0 L M Γ ⟨d,.load t x,ty,pos,af,g⟩ v:=fun n a w ha hw=>by
 simp [execOp,ha.ev hx,Instr.loadAt,Instr.sureAddr,loadVar,rF hf,hc w hw]
theorem run_loadCellsFrom {w : World} {p : Addr} : ∀ (vs : List Value) (i : Nat) (acc : Array Value),(∀ j v,vs[j]? = some v->w.cell? (p.add (i+j)) = some v) ->
  (loadCellsFrom p i vs.length acc).run P w = .ok (acc++vs.toArray) w
 | [],i,acc,_=>by simp [loadCellsFrom]
 | v::vs,i,acc,h=>by
  have h0 : w.cell? (p.add i) = some v:=by simpa using h 0 v rfl
  have ih:=run_loadCellsFrom (w:=w) (p:=p) vs (i+1) (acc.push v) fun j u hj=>by
   have:=h (j+1) u (by simpa using hj)
   rwa [show i+1+j = i+(j+1) from by omega]
  simp only [List.length_cons,loadCellsFrom,Sem.run_bind,run_load,h0,Result.andThen_ok,ih]
  simp
theorem aM {x : Operand} {t : TypeId} {p : Addr} {vs : List Value} (hx : evL L x = some (.pointer (some p))) (hf : fX P t vs.length = true) (hc : ∀ w,St w0 M Γ w->∀ j v,vs[j]? = some v->w.cell? (p.add j) = some v) :
  Yq P w0 L M Γ ⟨d,.load t x,ty,pos,af,g⟩ (.agg vs.toArray):=fun n a w ha hw=>by
 obtain ⟨h1,h2⟩:=xL (P:=P) (w:=w) hf
 have h3:=run_loadCellsFrom (P:=P) (w:=w) (p:=p) vs 0 #[] (by simpa using hc w hw)
 simp [execOp,ha.ev hx,Instr.loadAt,Instr.sureAddr,loadVar,h1,h2,loadCells,h3]
end Y
end

theorem St.cq {w0 w : World} {M : Mem} {Γ : List As} (h : St w0 M Γ w) {b : Nat} {e : TypeId} {cs : List Value} (hm : As.own b e cs∈Γ) {q : Nat} {v : Value} (hq : cs[q]? = some v) :
  w.cell? (adr (some ⟨b,0,none⟩) q) = some v:=by
 have:=(h.all _ hm).2
 rw [cF]
 simp [World.cell?,this,hq]
theorem St.mb {w0 w : World} {M : Mem} {Γ : List As} (h : St w0 M Γ w) {n sz : Nat} {cs : List D} {a : Option Addr} {l c : Nat} (hm : As.rd (.sl n sz cs) (.slice a l c)∈Γ) {q : Nat} {e : D} (hq : cs[q]? = some e) :
  ∃ u,dD M (adr a q) = some u/\Rd M e u:=by
 have:=h.rd hm
 simp only [Rd] at this
 obtain ⟨a',cap,h1,h2,h3,h4,h5,h6,h7⟩:=this
 simp only [Value.slice.injEq] at h1
 obtain ⟨rfl,rfl,rfl⟩:=h1
 simpa using RdC.get cs 0 h7 q e hq
theorem St.rd_some {w0 w : World} {M : Mem} {Γ : List As} (h : St w0 M Γ w) {n sz : Nat} {cs : List D} {a : Option Addr} {l c : Nat} (hm : As.rd (.sl n sz cs) (.slice a l c)∈Γ) (hn : 0 < l) : a.isSome = true:=by
 have:=h.rd hm
 simp only [Rd] at this
 obtain ⟨a',cap,h1,h2,h3,h4,h5,h6,h7⟩:=this
 simp only [Value.slice.injEq] at h1
 obtain ⟨rfl,rfl,rfl⟩:=h1
 exact h6 hn

end Xe

namespace Xe
open Go

theorem iV {cs ds : List D} {q sz : Nat} (hq : (cs.drop q).take sz = ds) {j : Nat} {e : D} (hj : ds[j]? = some e) : cs[q+j]? = some e:=by
 subst hq
 have hlt : j < ((cs.drop q).take sz).length:=by
  rcases Nat.lt_or_ge j ((cs.drop q).take sz).length with h | h
  ·exact h
  ·rw [List.getElem?_eq_none h] at hj;cases hj
 have h2 : j < sz:=by simp at hlt;omega
 rw [List.getElem?_take_of_lt h2,List.getElem?_drop] at hj
 exact hj

theorem gG {M : Mem} {a : Option Addr} {q : Nat} : ∀ {ds : List D},(∀ j e,ds[j]? = some e->∃ u,dD M (adr a (q+j)) = some u/\Rd M e u) ->
  ∃ us,RdL M ds us/\∀ j v,us[j]? = some v->dD M (adr a (q+j)) = some v:=by
 intro ds
 induction ds generalizing q with
 | nil=>exact fun _=>⟨[],RdL.nil M,fun j v h=>by simp at h⟩
 | cons d ds ih =>
  intro h
  obtain ⟨u,h1,h2⟩:=h 0 d rfl
  obtain ⟨us,h3,h4⟩:=ih (q:=q+1) fun j e hj=>by
   have:=h (j+1) e (by simpa using hj)
   rwa [show q+1+j = q+(j+1) from by omega]
  refine ⟨u::us,RdL.cons h2 h3,fun j v hj=>?_⟩
  cases j with
  | zero=>simp only [List.getElem?_cons_zero,Option.some.injEq] at hj;subst hj;exact h1
  | succ j =>
   have:=h4 j v (by simpa using hj)
   rwa [show q+1+j = q+(j+1) from by omega] at this

theorem RdL.get {M : Mem} {ds : List D} {us : List Value} (h : RdL M ds us) {q : Nat} {e : D} (hq : ds[q]? = some e) : ∃ u,us[q]? = some u/\Rd M e u:=by
 have hlt : q < us.length:=by
  rw [h.1]
  rcases Nat.lt_or_ge q ds.length with h | h
  ·exact h
  ·rw [List.getElem?_eq_none h] at hq;cases hq
 exact ⟨us[q],by simp [hlt],h.2 q _ _ hq (by simp [hlt])⟩

theorem Rd.one {M : Mem} : ∀ {d : D} {u : Value},Rd M d u->u.oneCell' = true
 | .v x,u,h=>by simp only [Rd] at h;rw [h.1];exact h.2
 | .sl n sz cs,u,h=>by
  simp only [Rd] at h
  obtain ⟨a,c,rfl,_⟩:=h
  rfl
theorem RdL.one {M : Mem} {ds : List D} {us : List Value} (h : RdL M ds us) : ∀ u∈us,u.oneCell' = true:=by
 intro u hu
 obtain ⟨k,hk,rfl⟩:=List.mem_iff_getElem.1 hu
 have hk' : k < ds.length:=by rw [<-h.1];exact hk
 exact Rd.one (h.2 k ds[k] us[k] (by simp [hk']) (by simp [hk]))

section
variable {P : Program} {w0 : World} {L : Lm} {M : Mem} {Γ : List As} {d : Option Nat} {ty : TypeId} {pos : String} {af : Array Edge} {g : Option (Nat×Bool)}
namespace Y
theorem zR {x : Operand} {t : TypeId} {a : Option Addr} {q n0 sz0 l c : Nat} {cs : List D} {v : Value} (hx : evL L x = some (.pointer (some (adr a q)))) (hm : As.rd (.sl n0 sz0 cs) (.slice a l c)∈Γ) (hq : cs[q]? = some (.v v)) (hf : eL P t = true) :
  Yq P w0 L M Γ ⟨d,.load t x,ty,pos,af,g⟩ v :=
 Y.load hx hf fun w hw=>by
  obtain ⟨u,h1,h2⟩:=hw.mb hm hq
  simp only [Rd] at h2
  rw [<-h2.1]
  exact hw.cell h1
theorem iZ {x : Operand} {t : TypeId} {b e q : Nat} {cs : List Value} {v : Value} (hx : evL L x = some (.pointer (some (adr (some ⟨b,0,none⟩) q)))) (hm : As.own b e cs∈Γ) (hq : cs[q]? = some v) (hf : eL P t = true) :
  Yq P w0 L M Γ ⟨d,.load t x,ty,pos,af,g⟩ v:=Y.load hx hf fun _ hw=>hw.cq hm hq
theorem bh {x : Operand} {t : TypeId} {b e q : Nat} {us : List Value} {ds : List D} {v : Value} (hx : evL L x = some (.pointer (some (adr (some ⟨b,0,none⟩) q)))) (hm : As.own b e us∈Γ) (hr : As.rds ds us∈Γ) (hq : ds[q]? = some (.v v)) (hf : eL P t = true) :
  Yq P w0 L M Γ ⟨d,.load t x,ty,pos,af,g⟩ v:=Y.load hx hf fun w hw=>by
   obtain ⟨u,h1,h2⟩:=RdL.get (hw.all _ hr) hq
   simp only [Rd] at h2
   rw [<-h2.1]
   exact hw.cq hm h1
theorem vs_get {vs : List Value} {j : Nat} {v : Value} (h : vs[j]? = some v) : (vs.map D.v)[j]? = some (.v v):=by simp [h]
theorem j7 {x : Operand} {t : TypeId} {b e q : Nat} {cs : List Value} (vs : List Value) (hx : evL L x = some (.pointer (some (adr (some ⟨b,0,none⟩) q)))) (hm : As.own b e cs∈Γ) (hq : ∀ j v,vs[j]? = some v->cs[q+j]? = some v) (hf : fX P t vs.length = true) :
  Yq P w0 L M Γ ⟨d,.load t x,ty,pos,af,g⟩ (.agg vs.toArray):=Y.aM hx hf fun _ hw j v hj=>by
   rw [cn]
   exact hw.cq hm (hq j v hj)
theorem gq {x : Operand} {t : TypeId} {b e : Nat} {cs : List Value} {sz : Nat} (hx : evL L x = some (.pointer (some (adr (some ⟨b,0,none⟩) 0)))) (hm : As.own b e cs∈Γ) (hl : cs.length = sz) (hf : fX P t sz = true) :
  Yq P w0 L M Γ ⟨d,.load t x,ty,pos,af,g⟩ (.agg cs.toArray):=j7 cs hx hm (fun j v h=>by simpa using h) (by rw [hl];exact hf)
theorem gD {x : Operand} {t : TypeId} {b e q : Nat} {us : List Value} {ds : List D} (vs : List Value) (hx : evL L x = some (.pointer (some (adr (some ⟨b,0,none⟩) q)))) (hm : As.own b e us∈Γ) (hr : As.rds ds us∈Γ) (hq : (ds.drop q).take vs.length = vs.map D.v) (hf : fX P t vs.length = true) :
  Yq P w0 L M Γ ⟨d,.load t x,ty,pos,af,g⟩ (.agg vs.toArray):=Y.aM hx hf fun w hw j v hj=>by
   obtain ⟨u,h1,h2⟩:=RdL.get (hw.all _ hr) (iV hq (vs_get hj))
   simp only [Rd] at h2
   rw [<-h2.1,cn]
   exact hw.cq hm h1
end Y
end

section
variable {P : Program} {n : Nat} {w0 : World} {ops : Array Oper} {rest : List Oper} {L : Lm} {M : Mem} {Γ : List As} {K : Lm->Mem->List As->Prop}
theorem RL.more {Γ' : List As} (hG : ∀ w,St w0 M Γ w->St w0 M Γ' w) (h : RL P n w0 ops rest L M Γ' K) : RL P n w0 ops rest L M Γ K:=RL.pre (cj.refl L) hG h

theorem RL.loadSl {x : Operand} {t : TypeId} {ty : TypeId} {pos : String} {af : Array Edge} {g : Option (Nat×Bool)} {d : Nat} {a : Option Addr} {q n0 sz0 l c n1 sz1 : Nat} {cs cs1 : List D}
  (hg : Want ops L ⟨some d,.load t x,ty,pos,af,g⟩ true) (hx : evL L x = some (.pointer (some (adr a q)))) (hm : As.rd (.sl n0 sz0 cs) (.slice a l c)∈Γ) (hq : cs[q]? = some (.sl n1 sz1 cs1)) (hf : eL P t = true) (hd : Nat.blt d n = true)
  (h : ∀ a1 c1,n1<=c1->n1<=140737488355328->RL P n w0 ops rest ((d,.slice a1 n1 c1)::L) M (.rd (.sl n1 sz1 cs1) (.slice a1 n1 c1)::Γ) K) :
  RL P n w0 ops (⟨some d,.load t x,ty,pos,af,g⟩::rest) L M Γ K:=by
 refine RL.nE (F:=∃ u,dD M (adr a q) = some u/\Rd M (.sl n1 sz1 cs1) u) (fun w hw=>hw.mb hm hq) ?_
 rintro ⟨u,hu,hr⟩
 have hr':=hr
 simp only [Rd] at hr'
 obtain ⟨a1,c1,rfl,h2,h3,h4,_⟩:=hr'
 exact RL.qw hg (Y.load hx hf fun w hw=>hw.cell hu) hd (RL.more (fun w hw=>hw.add (x:=.rd (.sl n1 sz1 cs1) (.slice a1 n1 c1)) hr rfl) (h a1 c1 h2 h4))

theorem RL.aN {x : Operand} {t : TypeId} {ty : TypeId} {pos : String} {af : Array Edge} {g : Option (Nat×Bool)} {d b e : Nat} {q n1 sz1 : Nat} {us : List Value} {ds cs1 : List D}
  (hg : Want ops L ⟨some d,.load t x,ty,pos,af,g⟩ true) (hx : evL L x = some (.pointer (some (adr (some ⟨b,0,none⟩) q)))) (hm : As.own b e us∈Γ) (hr : As.rds ds us∈Γ) (hq : ds[q]? = some (.sl n1 sz1 cs1)) (hf : eL P t = true) (hd : Nat.blt d n = true)
  (h : ∀ a1 c1,us[q]? = some (.slice a1 n1 c1)->n1<=c1->n1<=140737488355328->RL P n w0 ops rest ((d,.slice a1 n1 c1)::L) M (.rd (.sl n1 sz1 cs1) (.slice a1 n1 c1)::Γ) K) :
  RL P n w0 ops (⟨some d,.load t x,ty,pos,af,g⟩::rest) L M Γ K:=by
 refine RL.nE (F:=∃ u,us[q]? = some u/\Rd M (.sl n1 sz1 cs1) u) (fun w hw=>?_) ?_
 ·have:=hw.all _ hr
  simp only [As.ok] at this
  have hlt : q < us.length:=by
   rw [this.1]
   rcases Nat.lt_or_ge q ds.length with h | h
   ·exact h
   ·rw [List.getElem?_eq_none h] at hq;cases hq
  exact ⟨us[q],by simp [hlt],this.2 q _ _ hq (by simp [hlt])⟩
 ·rintro ⟨u,hu,hr⟩
  have hr':=hr
  simp only [Rd] at hr'
  obtain ⟨a1,c1,rfl,h2,h3,h4,_⟩:=hr'
  exact RL.qw hg (Y.load hx hf fun w hw=>hw.cq hm hu) hd (RL.more (fun w hw=>hw.add (x:=.rd (.sl n1 sz1 cs1) (.slice a1 n1 c1)) hr rfl) (h a1 c1 hu h2 h4))

theorem RL.aM {x : Operand} {t : TypeId} {ty : TypeId} {pos : String} {af : Array Edge} {g : Option (Nat×Bool)} {d : Nat} {a : Option Addr} {q sz n0 sz0 l c : Nat} {cs ds : List D}
  (hg : Want ops L ⟨some d,.load t x,ty,pos,af,g⟩ true) (hx : evL L x = some (.pointer (some (adr a q)))) (hm : As.rd (.sl n0 sz0 cs) (.slice a l c)∈Γ) (hq : (cs.drop q).take sz = ds) (hl : ds.length = sz) (hf : fX P t sz = true) (hd : Nat.blt d n = true)
  (h : ∀ us,us.length = sz->RdL M ds us->RL P n w0 ops rest ((d,.agg us.toArray)::L) M (.rds ds us::Γ) K) :
  RL P n w0 ops (⟨some d,.load t x,ty,pos,af,g⟩::rest) L M Γ K:=by
 refine RL.nE (F:=∃ us,RdL M ds us/\∀ j v,us[j]? = some v->dD M (adr a (q+j)) = some v) (fun w hw=>gG (fun j e hj=>hw.mb hm (iV hq hj))) ?_
 rintro ⟨us,hr,hc⟩
 have hul : us.length = sz:=by rw [hr.1,hl]
 refine RL.qw hg (Y.aM (vs:=us) hx (by rw [hul];exact hf) fun _ hw j v hj=>?_) hd (RL.more (fun w hw=>hw.add (x:=.rds ds us) hr rfl) (h us hul hr))
 rw [cn]
 exact hw.cell (hc j v hj)

theorem RL.so {x : Operand} {t : TypeId} {ty : TypeId} {pos : String} {af : Array Edge} {g : Option (Nat×Bool)} {d b e : Nat} {q sz : Nat} {us : List Value} {ds ds' : List D}
  (hg : Want ops L ⟨some d,.load t x,ty,pos,af,g⟩ true) (hx : evL L x = some (.pointer (some (adr (some ⟨b,0,none⟩) q)))) (hm : As.own b e us∈Γ) (hr : As.rds ds us∈Γ) (hq : (ds.drop q).take sz = ds') (hl : ds'.length = sz) (hf : fX P t sz = true) (hd : Nat.blt d n = true)
  (h : ∀ us',us'.length = sz->RdL M ds' us'->RL P n w0 ops rest ((d,.agg us'.toArray)::L) M (.rds ds' us'::Γ) K) :
  RL P n w0 ops (⟨some d,.load t x,ty,pos,af,g⟩::rest) L M Γ K:=by
 refine RL.nE (F:=RdL M ds us) (fun w hw=>hw.all _ hr) ?_
 intro hus
 have hr' : RdL M ds' ((us.drop q).take sz):=by
  refine ⟨?_,fun k e u h1 h2=>?_⟩
  ·rw [<-hq];simp [hus.1]
  ·have h1':=iV hq h1
   have h2' : us[q+k]? = some u:=by
    have hk : k < sz:=by
     rcases Nat.lt_or_ge k sz with h | h
     ·exact h
     ·rw [List.getElem?_eq_none (by simp;omega)] at h2;cases h2
    rwa [List.getElem?_take_of_lt hk,List.getElem?_drop] at h2
   exact hus.2 _ _ _ h1' h2'
 have hul : ((us.drop q).take sz).length = sz:=by rw [hr'.1,hl]
 refine RL.qw hg (Y.j7 ((us.drop q).take sz) hx hm (fun j v hj=>?_) (by rw [hul];exact hf)) hd (RL.more (fun w hw=>hw.add (x:=.rds ds' _) hr' rfl) (h _ hul hr'))
 have hk : j < sz:=by
  rcases Nat.lt_or_ge j sz with h | h
  ·exact h
  ·rw [List.getElem?_eq_none (by simp;omega)] at hj;cases hj
 rwa [List.getElem?_take_of_lt hk,List.getElem?_drop] at hj
end

section
variable {P : Program} {n : Nat} {w0 : World} {ops : Array Oper} {C0 : List As} {rest : List Oper} {L : Lm} {M : Mem} {Γ : List As} {K : Lm->List As->Prop}

theorem QL.aM {x : Operand} {t : TypeId} {ty : TypeId} {pos : String} {af : Array Edge} {g : Option (Nat×Bool)} {d : Nat} {a : Option Addr} {q sz n0 sz0 l c : Nat} {cs ds : List D}
  (hg : Want ops L ⟨some d,.load t x,ty,pos,af,g⟩ true) (hx : evL L x = some (.pointer (some (adr a q)))) (hm : As.rd (.sl n0 sz0 cs) (.slice a l c)∈Γ) (hq : (cs.drop q).take sz = ds) (hl : ds.length = sz) (hf : fX P t sz = true) (hd : Nat.blt d n = true)
  (h : ∀ us,us.length = sz->RdL M ds us->QL P n w0 ops C0 M rest ((d,.agg us.toArray)::L)  (.rds ds us::Γ) K) :
  QL P n w0 ops C0 M (⟨some d,.load t x,ty,pos,af,g⟩::rest) L  Γ K:=by
 refine QL.nE (F:=∃ us,RdL M ds us/\∀ j v,us[j]? = some v->dD M (adr a (q+j)) = some v) (fun w hw=>gG (fun j e hj=>hw.mb hm (iV hq hj))) ?_
 rintro ⟨us,hr,hc⟩
 have hul : us.length = sz:=by rw [hr.1,hl]
 refine QL.qw hg (Y.aM (vs:=us) hx (by rw [hul];exact hf) fun _ hw j v hj=>?_) hd (QL.more (fun w hw=>hw.add (x:=.rds ds us) hr rfl) (h us hul hr))
 rw [cn]
 exact hw.cell (hc j v hj)

theorem QL.so {x : Operand} {t : TypeId} {ty : TypeId} {pos : String} {af : Array Edge} {g : Option (Nat×Bool)} {d b e : Nat} {q sz : Nat} {us : List Value} {ds ds' : List D}
  (hg : Want ops L ⟨some d,.load t x,ty,pos,af,g⟩ true) (hx : evL L x = some (.pointer (some (adr (some ⟨b,0,none⟩) q)))) (hm : As.own b e us∈Γ) (hr : As.rds ds us∈Γ) (hq : (ds.drop q).take sz = ds') (hl : ds'.length = sz) (hf : fX P t sz = true) (hd : Nat.blt d n = true)
  (h : ∀ us',us'.length = sz->RdL M ds' us'->QL P n w0 ops C0 M rest ((d,.agg us'.toArray)::L)  (.rds ds' us'::Γ) K) :
  QL P n w0 ops C0 M (⟨some d,.load t x,ty,pos,af,g⟩::rest) L  Γ K:=by
 refine QL.nE (F:=RdL M ds us) (fun w hw=>hw.all _ hr) ?_
 intro hus
 have hr' : RdL M ds' ((us.drop q).take sz):=by
  refine ⟨?_,fun k e u h1 h2=>?_⟩
  ·rw [<-hq];simp [hus.1]
  ·have h1':=iV hq h1
   have h2' : us[q+k]? = some u:=by
    have hk : k < sz:=by
     rcases Nat.lt_or_ge k sz with h | h
     ·exact h
     ·rw [List.getElem?_eq_none (by simp;omega)] at h2;cases h2
    rwa [List.getElem?_take_of_lt hk,List.getElem?_drop] at h2
   exact hus.2 _ _ _ h1' h2'
 have hul : ((us.drop q).take sz).length = sz:=by rw [hr'.1,hl]
 refine QL.qw hg (Y.j7 ((us.drop q).take sz) hx hm (fun j v hj=>?_) (by rw [hul];exact hf)) hd (QL.more (fun w hw=>hw.add (x:=.rds ds' _) hr' rfl) (h _ hul hr'))
 have hk : j < sz:=by
  rcases Nat.lt_or_ge j sz with h | h
  ·exact h
  ·rw [List.getElem?_eq_none (by simp;omega)] at hj;cases hj
 rwa [List.getElem?_take_of_lt hk,List.getElem?_drop] at hj
end

section
variable {P : Program} {n : Nat} {w0 : World} {ops : Array Oper} {rest : List Oper} {L : Lm} {M : Mem} {Γ : List As} {K : Lm->Mem->List As->Prop} {ty : TypeId} {pos : String} {af : Array Edge} {d : Nat}

theorem RL.box {e : TypeId} {x : Operand} {v : Value} (cs : List Value) (hx : evL L x = some v) (hc : v.cells = cs.toArray) (hd : Nat.blt d n = true)
  (h : ∀ b,RL P n w0 ops rest ((d,.pointer (some (adr (some ⟨b,0,none⟩) 0)))::L) M (.own b e cs::Γ) K) : RL P n w0 ops (⟨some d,.box e x,ty,pos,af,none⟩::rest) L M Γ K:=by
 refine RL.e (fun v M' Γ'=>∃ b,v = .pointer (some (adr (some ⟨b,0,none⟩) 0))/\M' = M/\Γ' = .own b e cs::Γ) (fun n a w ha hw=>?_) hd ?_
 ·refine ⟨.pointer (some ⟨w.heap.size,0,none⟩),_,M,_,?_,⟨w.heap.size,by rw [cF],rfl,rfl⟩,hw.alloc e cs⟩
  simp [execOp,ha.ev hx,Instr.box,newVar,newRow,hc]
 ·rintro v M' Γ' ⟨b,rfl,rfl,rfl⟩
  exact h b

def eC (P : Program) (e : TypeId) : Option Value:=(P.info? e).bind (·.zero)
theorem l9 {w : World} {e : TypeId} {z : Value} (h : eC P e = some z) : (zeroValue e).run P w = .ok z w:=by
 unfold eC at h
 cases hi : P.info? e with
 | none=>simp [hi] at h
 | some i =>
  simp only [hi,Option.bind_some] at h
  simp [zeroValue,typeInfo,hi,h]

theorem RL.alloc {e : TypeId} {z : Value} (cs : List Value) (hz : eC P e = some z) (hc : z.cells = cs.toArray) (hd : Nat.blt d n = true)
  (h : ∀ b,RL P n w0 ops rest ((d,.pointer (some (adr (some ⟨b,0,none⟩) 0)))::L) M (.own b e cs::Γ) K) : RL P n w0 ops (⟨some d,.alloc e,ty,pos,af,none⟩::rest) L M Γ K:=by
 refine RL.e (fun v M' Γ'=>∃ b,v = .pointer (some (adr (some ⟨b,0,none⟩) 0))/\M' = M/\Γ' = .own b e cs::Γ) (fun n a w ha hw=>?_) hd ?_
 ·refine ⟨.pointer (some ⟨w.heap.size,0,none⟩),_,M,_,?_,⟨w.heap.size,by rw [cF],rfl,rfl⟩,hw.alloc e cs⟩
  simp [execOp,Instr.alloc,l9 hz,newVar,newRow,hc]
 ·rintro v M' Γ' ⟨b,rfl,rfl,rfl⟩
  exact h b
end

inductive Repl (x x' : As) : List As->List As->Prop
 | here (Γ : List As) : Repl x x' (x::Γ) (x'::Γ)
 | there (y : As) {Γ Γ' : List As} : Repl x x' Γ Γ'->Repl x x' (y::Γ) (y::Γ')

theorem Repl.perm {x x' : As} {Γ Γ' : List As} (h : Repl x x' Γ Γ') : ∃ R,List.Perm Γ (x::R)/\List.Perm (x'::R) Γ':=by
 induction h with
 | here Γ=>exact ⟨Γ,.refl _,.refl _⟩
 | there y _ ih =>
  obtain ⟨R,h1,h2⟩:=ih
  exact ⟨y::R,(h1.cons y).trans (.swap x y R),(List.Perm.swap y x' R).trans (h2.cons y)⟩

theorem St.xl {w0 w : World} {M : Mem} {Γ Γ' : List As} {b : Nat} {e : TypeId} {cs cs' : List Value} (hw : St w0 M Γ w) (hr : Repl (.own b e cs) (.own b e cs') Γ Γ') :
  St w0 M Γ' { w with heap:=w.heap.setIfInBounds b (.cells cs'.toArray e (0,0)) }:=by
 obtain ⟨R,h1,h2⟩:=hr.perm
 exact ((hw.perm h1).write cs' _ rfl).perm h2

theorem Repl.mem {x x' : As} {Γ Γ' : List As} (h : Repl x x' Γ Γ') : x∈Γ:=by
 induction h with
 | here Γ=>exact List.mem_cons_self ..
 | there y _ ih=>exact List.mem_cons_of_mem _ ih

theorem set_own {w : World} {b : Nat} {e : TypeId} {cs : List Value} (h : w.heap[b]? = some (.cells cs.toArray e (0,0))) (q : Nat) (v : Value) :
  w.setCell (adr (some ⟨b,0,none⟩) q) v = { w with heap:=w.heap.setIfInBounds b (.cells (cs.set q v).toArray e (0,0)) }:=by
 rw [cF]
 have hlt : b < w.heap.size:=(Array.getElem?_eq_some_iff.1 h).1
 have hb : w.heap[b] = .cells cs.toArray e (0,0):=(Array.getElem?_eq_some_iff.1 h).2
 simp only [World.setCell]
 congr 1
 apply Array.ext
 ·simp
 ·intro i h1 h2
  by_cases hi : b = i
  ·subst hi
   simp [Array.getElem_modify,hb]
  ·rw [Array.getElem_modify,if_neg hi,Array.getElem_setIfInBounds_ne (by simpa using h1) hi]

section
variable {P : Program} {n : Nat} {w0 : World} {ops : Array Oper} {rest : List Oper} {L : Lm} {M : Mem} {Γ : List As} {K : Lm->Mem->List As->Prop} {ty : TypeId} {pos : String} {af : Array Edge} {d : Nat}
theorem tN {w : World} {b : Nat} {e : TypeId} {cs : List Value} (h : w.heap[b]? = some (.cells cs.toArray e (0,0))) {q : Nat} {v : Value} (hq : q < cs.length) (h1 : v.oneCell' = true) :
  (store (adr (some ⟨b,0,none⟩) q) v).run P w = .ok () { w with heap:=w.heap.setIfInBounds b (.cells (cs.set q v).toArray e (0,0)) }:=by
 have hc : w.cell? (adr (some ⟨b,0,none⟩) q) = some cs[q]:=by rw [cF];simp [World.cell?,h,hq]
 have hf : w.frozen? (adr (some ⟨b,0,none⟩) q) = false:=by rw [cF];simp [World.frozen?,h]
 rw [run_store P w _ v _ h1,hc]
 simp only [hf]
 rw [set_own h]
 simp

theorem RL.store {t : TypeId} {x y : Operand} {b e q : Nat} {cs : List Value} {v : Value} {Γ' : List As} (cs' : List Value) (hx : evL L x = some (.pointer (some (adr (some ⟨b,0,none⟩) q)))) (hy : evL L y = some v)
  (hr : Repl (.own b e cs) (.own b e cs') Γ Γ') (hs : cs.set q v = cs') (hq : q < cs.length) (h1 : v.oneCell' = true) (ht : eV P t 1 = true)
  (h : RL P n w0 ops rest L M Γ' K) : RL P n w0 ops (⟨none,.store t x y,ty,pos,af,none⟩::rest) L M Γ K:=by
 refine RL.s (Γ':=Γ') (fun n a w ha hw=>?_) h
 have hb:=(hw.all _ hr.mem).2
 subst hs
 refine ⟨_,?_,hw.xl hr⟩
 have hcells : v.cells = #[v]:=by cases v <;> first | rfl | simp [Value.oneCell'] at h1
 have h2 : (adr (some ⟨b,0,none⟩) q).add 0 = adr (some ⟨b,0,none⟩) q:=by rw [cn];rfl
 simp [execOp,ha.ev hx,ha.ev hy,Instr.storeAt,Instr.sureAddr,storeVar,hcells,ia ht,storeCells,h2,tN hb hq h1]

theorem iC : ∀ (vs : List Value) (i : Nat) (w : World) (b : Nat) (e : TypeId) (cs : List Value) (q : Nat),w.heap[b]? = some (.cells cs.toArray e (0,0))->q+i+vs.length<=cs.length->(∀ v∈vs,v.oneCell' = true) ->
  (storeCells (adr (some ⟨b,0,none⟩) q) vs i).run P w = .ok () { w with heap:=w.heap.setIfInBounds b (.cells (cs.take (q+i)++vs++cs.drop (q+i+vs.length)).toArray e (0,0)) }:=by
 intro vs i w b e cs q h hl h1
 rw [cF]
 have:=run_storeCells_at P b (0+q) e vs i cs.toArray w (by rw [h]) (by simpa using hl) h1
 rw [this]
 simp only [World.setRow,Nat.zero_add]
 congr 2
 have hlt : b < w.heap.size:=(Array.getElem?_eq_some_iff.1 h).1
 have hb : w.heap[b] = .cells cs.toArray e (0,0):=(Array.getElem?_eq_some_iff.1 h).2
 apply Array.ext
 ·simp
 ·intro j h3 h4
  by_cases hi : b = j
  ·subst hi
   simp [Array.getElem_modify,hb]
  ·rw [Array.getElem_modify,if_neg hi,Array.getElem_setIfInBounds_ne (by simpa using h3) hi]

theorem RL.aG {t : TypeId} {x y : Operand} {b e q : Nat} {cs vs : List Value} {Γ' : List As} (cs' : List Value) (hx : evL L x = some (.pointer (some (adr (some ⟨b,0,none⟩) q)))) (hy : evL L y = some (.agg vs.toArray))
  (hr : Repl (.own b e cs) (.own b e cs') Γ Γ') (hs : cs.take q++vs++cs.drop (q+vs.length) = cs') (hq : q+vs.length<=cs.length) (h1 : ∀ w,St w0 M Γ w->∀ v∈vs,v.oneCell' = true) (ht : eV P t vs.length = true)
  (h : RL P n w0 ops rest L M Γ' K) : RL P n w0 ops (⟨none,.store t x y,ty,pos,af,none⟩::rest) L M Γ K:=by
 refine RL.s (Γ':=Γ') (fun n a w ha hw=>?_) h
 have hb:=(hw.all _ hr.mem).2
 subst hs
 refine ⟨_,?_,hw.xl hr⟩
 have h2:=iC (P:=P) vs 0 w b e cs q hb (by simpa using hq) (h1 w hw)
 simp only [Nat.add_zero] at h2
 simp [execOp,ha.ev hx,ha.ev hy,Instr.storeAt,Instr.sureAddr,storeVar,Value.cells,ia ht,h2]
end

def evs (L : Lm) : List Operand->Option (List Value)
 | []=>some []
 | x::xs=>match evL L x with
  | some v=>match evs L xs with
   | some vs=>some (v::vs)
   | none=>none
  | none=>none
theorem Sat.evs {n : Nat} {L : Lm} {a : Act} (h : Sat n L a) : ∀ {xs : List Operand} {vs : List Value},evs L xs = some vs->xs.map a.eval = vs
 | [],vs,hv=>by simp only [Xe.evs,Option.some.injEq] at hv;simp [<-hv]
 | x::xs,vs,hv=>by
  simp only [Xe.evs] at hv
  cases hx : evL L x with
  | none=>simp [hx] at hv
  | some v =>
   rw [hx] at hv
   simp only [] at hv
   cases hxs : Xe.evs L xs with
   | none=>simp [hxs] at hv
   | some us =>
    rw [hxs] at hv
    simp only [Option.some.injEq] at hv
    rw [<-hv]
    simp [h.ev hx,h.evs hxs]

section
variable {P : Program} {w0 : World} {L : Lm} {M : Mem} {Γ : List As} {d : Option Nat} {ty : TypeId} {pos : String} {af : Array Edge} {g : Option (Nat×Bool)}
theorem o5 {w : World} {f : FuncId} (h : bC P f = true) (args : Array Value) : (callFunc f args).run P w = .ok (.enter f args) w:=by
 unfold bC at h
 cases hf : P.funcs[f]? with
 | none=>simp [hf] at h
 | some fn =>
  rw [hf] at h
  simp only [Bool.and_eq_true,Bool.not_eq_true',beq_eq_false_iff_ne] at h
  obtain ⟨h1,h2⟩:=h
  have h3 : fn.body ≠ none:=by intro e;rw [e] at h2;cases h2
  simp [callFunc,hf,h1,h3]
theorem iM {f : FuncId} {xs : List Operand} {ts : Array TypeId} {vs : List Value} (hf : bC P f = true) (hx : evs L xs = some vs) :
  ∀ n a w,Sat n L a->(execOp a.eval ⟨d,.call ⟨.value (.func f),xs.toArray,ts⟩,ty,pos,af,g⟩).run P w = .ok (.enter f vs.toArray) w:=fun n a w ha=>by
 have h1 : (xs.toArray.map a.eval) = vs.toArray:=by rw [List.map_toArray,ha.evs hx]
 simp only [execOp,resolve,h1,Act.eval,Deferred.ofValue]
 simp [invoke,o5 hf]
theorem th {f : FuncId} {y : Operand} {first captured : Array Value} {xs : List Operand} {ts : Array TypeId} {vs : List Value} (hf : bC P f = true) (hy : evL L y = some (.func (.func f) first captured)) (hx : evs L xs = some vs) :
  ∀ n a w,Sat n L a->(execOp a.eval ⟨d,.call ⟨.value y,xs.toArray,ts⟩,ty,pos,af,g⟩).run P w = .ok (.enter f (first++vs.toArray++captured)) w:=fun n a w ha=>by
 have h1 : (xs.toArray.map a.eval) = vs.toArray:=by rw [List.map_toArray,ha.evs hx]
 simp only [execOp,resolve,h1,ha.ev hy,Deferred.ofValue]
 simp [invoke,o5 hf]
end

section
variable {P : Program} {n : Nat} {w0 : World} {ops : Array Oper} {rest : List Oper} {L : Lm} {M : Mem} {Γ : List As} {K : Lm->Mem->List As->Prop} {ty : TypeId} {pos : String} {af : Array Edge} {d : Nat}
theorem RL.call {g : Option (Nat×Bool)} {f : FuncId} {xs : List Operand} {ts : Array TypeId} {vs : List Value} {F : Post} (hg : Want ops L ⟨some d,.call ⟨.value (.func f),xs.toArray,ts⟩,ty,pos,af,g⟩ true) (hf : bC P f = true) (hx : evs L xs = some vs) (hd : Nat.blt d n = true)
  (hc : aA P w0 M Γ f vs.toArray F) (h : ∀ v M' Γ',F v M' Γ'->RL P n w0 ops rest ((d,v)::L) M' Γ' K) :
  RL P n w0 ops (⟨some d,.call ⟨.value (.func f),xs.toArray,ts⟩,ty,pos,af,g⟩::rest) L M Γ K:=RL.c hg (iM hf hx) hd hc h
theorem RL.er {g : Option (Nat×Bool)} {f : FuncId} {xs : List Operand} {ts : Array TypeId} {vs : List Value} {v : Value} (hg : Want ops L ⟨some d,.call ⟨.value (.func f),xs.toArray,ts⟩,ty,pos,af,g⟩ true) (hf : bC P f = true) (hx : evs L xs = some vs) (hd : Nat.blt d n = true)
  (hc : aA P w0 M Γ f vs.toArray (fun u M' Γ'=>u = v/\M' = M/\Γ' = Γ)) (h : RL P n w0 ops rest ((d,v)::L) M Γ K) :
  RL P n w0 ops (⟨some d,.call ⟨.value (.func f),xs.toArray,ts⟩,ty,pos,af,g⟩::rest) L M Γ K:=RL.c hg (iM hf hx) hd hc (by rintro u M' Γ' ⟨rfl,rfl,rfl⟩;exact h)
theorem RL.FN {g : Option (Nat×Bool)} {f : FuncId} {y : Operand} {first captured : Array Value} {xs : List Operand} {ts : Array TypeId} {vs : List Value} {v : Value} (hg : Want ops L ⟨some d,.call ⟨.value y,xs.toArray,ts⟩,ty,pos,af,g⟩ true) (hf : bC P f = true) (hy : evL L y = some (.func (.func f) first captured)) (hx : evs L xs = some vs) (hd : Nat.blt d n = true)
  (hc : aA P w0 M Γ f (first++vs.toArray++captured) (fun u M' Γ'=>u = v/\M' = M/\Γ' = Γ)) (h : RL P n w0 ops rest ((d,v)::L) M Γ K) :
  RL P n w0 ops (⟨some d,.call ⟨.value y,xs.toArray,ts⟩,ty,pos,af,g⟩::rest) L M Γ K:=RL.c hg (th hf hy hx) hd hc (by rintro u M' Γ' ⟨rfl,rfl,rfl⟩;exact h)
end
section
variable {P : Program} {n : Nat} {w0 : World} {ops : Array Oper} {C0 : List As} {rest : List Oper} {L : Lm} {M : Mem} {Γ : List As} {K : Lm->List As->Prop} {ty : TypeId} {pos : String} {af : Array Edge} {d : Nat} {g : Option (Nat×Bool)}
theorem QL.er {f : FuncId} {xs : List Operand} {ts : Array TypeId} {vs : List Value} {v : Value} (hg : Want ops L ⟨some d,.call ⟨.value (.func f),xs.toArray,ts⟩,ty,pos,af,g⟩ true) (hf : bC P f = true) (hx : evs L xs = some vs) (hd : Nat.blt d n = true)
  (hc : ∀ Γ0,(∀ w,St w0 M Γ0 w->St w0 M Γ w)->aA P w0 M Γ0 f vs.toArray (fun u M' Γ'=>u = v/\M' = M/\Γ' = Γ0)) (h : QL P n w0 ops C0 M rest ((d,v)::L) Γ K) :
  QL P n w0 ops C0 M (⟨some d,.call ⟨.value (.func f),xs.toArray,ts⟩,ty,pos,af,g⟩::rest) L Γ K:=QL.c hg (iM hf hx) hd hc h
end
end Xe

namespace Xe
open Go

def EndR (w0 : World) (M : Mem) (L0 : Lm) (Γ0 : List As) (I : Nat->Lm->Mem->List As->Prop) (m : Nat) (L2 : Lm) (M2 : Mem) (Γ2 : List As) : Prop :=
 ∃ m' Lc,m' < m/\cj L2 (Lc++L0)/\az w0 M2 Γ2 (fun M3 Γ3=>∃ Γc,Γ3 = Γc++Γ0/\Sub M M3/\I m' Lc M3 Γc)

theorem CW.ou {P : Program} {n : Nat} {w0 : World} {X : Pst} {L : Lm} {M : Mem} {Γ : List As} {c : Code} (I : Nat->Lm->Mem->List As->Prop) (m : Nat) (Lc : Lm) (Γc : List As) {L0 : Lm} {Γ0 : List As}
  (hL : L = Lc++L0) (hG : Γ = Γc++Γ0) (h0 : I m Lc M Γc)
  (round : ∀ m Lc M1 Γc,Sub M M1->I m Lc M1 Γc->CW P n w0 c (AU (EndR w0 M L0 Γ0 I m) X) (Lc++L0) M1 (Γc++Γ0)) : CW P n w0 (.loop c) X L M Γ:=by
 subst hL hG
 refine CW.loop (fun m L M1 Γ=>∃ Lc Γc,L = Lc++L0/\Γ = Γc++Γ0/\Sub M M1/\I m Lc M1 Γc) m ⟨Lc,Γc,rfl,rfl,Sub.refl M,h0⟩ ?_
 rintro m L M1 Γ ⟨Lc,Γc,rfl,rfl,hs,hI⟩
 intro a w ha hw
 refine wp_mono (round m Lc M1 Γc hs hI a w ha hw) ?_
 rintro e a w ⟨L2,M2,Γ2,hX,h1,h2⟩
 cases e with
 | normal =>
  obtain ⟨m',Lc',hlt,hk,ht⟩:=hX
  obtain ⟨M3,Γ3,⟨Γc',rfl,hs3,hI3⟩,hw3⟩:=ht w h2
  exact ⟨Lc'++L0,M3,Γc'++Γ0,⟨m',hlt,Lc',Γc',rfl,rfl,hs3,hI3⟩,h1.keep hk,hw3⟩
 | _=>exact ⟨L2,M2,Γ2,hX,h1,h2⟩

def Mem.put (M : Mem) (b : Nat) (o : Obj) : Mem:=fun k=>if k = b then some o else M k
theorem Mem.nZ {M : Mem} {b : Nat} {o : Obj} (h : M b = none) : Sub M (M.put b o):=fun k x hk=>by
 unfold Mem.put
 by_cases e : k = b
 ·subst e;rw [h] at hk;cases hk
 ·rw [if_neg e];exact hk

theorem St.nj {w0 w : World} {M : Mem} {Γ : List As} {x : As} {b : Nat} {o : Obj} (hw : St w0 M (x::Γ) w) (hx : x.blk = some b) (ho : w.heap[b]? = some o) : St w0 (M.put b o) Γ w:=by
 have hb:=As.bu (hw.all x (List.mem_cons_self ..)) hx
 have hs : Sub M (M.put b o):=Mem.nZ hb.2
 have hnd:=hw.nodup
 simp only [List.filterMap_cons,hx] at hnd
 refine ⟨hw.os,hw.tape,hw.output,hw.size,fun k y hk=>?_,fun y hy=>?_,(List.nodup_cons.1 hnd).2⟩
 ·unfold Mem.put at hk
  by_cases e : k = b
  ·subst e;rw [if_pos rfl] at hk;cases hk;exact ho
  ·rw [if_neg e] at hk;exact hw.mem k y hk
 ·have hy':=hw.all y (List.mem_cons_of_mem _ hy)
  refine As.gX hy' hs fun k hk=>⟨rfl,?_⟩
  have hne : k ≠ b:=fun e=>by subst e;exact (List.nodup_cons.1 hnd).1 (j5 hy hk)
  unfold Mem.put
  rw [if_neg hne]
  exact (As.bu hy' hk).2

theorem Da {M : Mem} {b : Nat} {c : Array Value} {e : TypeId} {i : Nat} {v : Value} (h : c[i]? = some v) : dD (M.put b (.cells c e (0,0))) (adr (some ⟨b,0,none⟩) i) = some v:=by
 rw [cF]
 simp [dD,Mem.put,h]

theorem St.gp {w0 w : World} {M : Mem} {Γ : List As} {u : Value} {e : TypeId} {sz n : Nat} {us : List Value} {ds : List D} (hw : St w0 M (.acc u e sz n us::Γ) w) (hr : RdL M ds us) (hn : n<=lim) :
  ∃ M',Sub M M'/\Rd M' (.sl n sz ds) u/\St w0 M' (.rd (.sl n sz ds) u::Γ) w:=by
 have hx:=hw.all _ (List.mem_cons_self ..)
 obtain ⟨⟨hl,hh⟩,hM⟩:=hx
 rcases hh with ⟨rfl,rfl⟩ | ⟨b,cap,cur,rfl,_,hb,hnc,hcm,hcs,htk⟩
 ·have hd : ds = []:=by
   have h1:=hr.1
   have : us.length = 0:=by simpa using hl
   rw [this] at h1
   exact List.eq_nil_of_length_eq_zero h1.symm
  subst hd
  have hrd : Rd M (.sl 0 sz []) (.slice none 0 0):=by
   simp only [Rd]
   exact ⟨none,0,rfl,Nat.le_refl _,Nat.zero_le _,Nat.zero_le _,by simp,by simp,by simp [RdC]⟩
  refine ⟨M,Sub.refl M,hrd,?_⟩
  exact (hw.sub (List.sublist_cons_self _ _)).add (x:=.rd (.sl 0 sz []) (.slice none 0 0)) hrd rfl
 ·have hMb : M b = none:=hM b rfl
  have hs : Sub M (M.put b (.cells cur e (0,0))):=Mem.nZ hMb
  have hw':=hw.nj (b:=b) rfl hb
  have hrd : Rd (M.put b (.cells cur e (0,0))) (.sl n sz ds) (.slice (some ⟨b,0,none⟩) n cap):=by
   simp only [Rd]
   refine ⟨some ⟨b,0,none⟩,cap,rfl,hnc,hcm,hn,by rw [<-hr.1];exact hl,fun _=>rfl,RdC.mk ds 0 fun k d hk=>?_⟩
   obtain ⟨v,h1,h2⟩:=RdL.get hr hk
   refine ⟨v,?_,Rd.mono hs d v h2⟩
   rw [Nat.zero_add]
   apply Da
   have hk' : k < n * sz:=by
    rw [<-hl]
    rcases Nat.lt_or_ge k us.length with h | h
    ·exact h
    ·rw [List.getElem?_eq_none h] at h1;cases h1
   rw [<-htk,List.getElem?_take_of_lt hk'] at h1
   simpa using h1
  exact ⟨_,hs,hrd,hw'.add (x:=.rd _ _) hrd rfl⟩

theorem St.wg {w0 w : World} {M : Mem} {Γ : List As} {b n : Nat} {e : TypeId} {sz : Nat} {us : List Value} (hw : St w0 M (.own b e us::Γ) w) (hl : us.length = n * sz) (hn : n<=maxLen) :
  St w0 M (.acc (.slice (some ⟨b,0,none⟩) n n) e sz n us::Γ) w:=by
 have hx:=hw.all _ (List.mem_cons_self ..)
 refine ⟨hw.os,hw.tape,hw.output,hw.size,hw.mem,fun y hy=>?_,by simpa [List.filterMap_cons,As.blk,Value.ownBlock] using hw.nodup⟩
 rcases List.mem_cons.1 hy with rfl | hy
 ·refine ⟨⟨hl,.inr ⟨b,n,us.toArray,rfl,Nat.zero_le _,hx.2,Nat.le_refl _,hn,by simpa using hl,?_⟩⟩,fun k hk=>?_⟩
  ·rw [List.take_of_length_le (by simp;omega)]
  ·simp only [Value.ownBlock,Option.some.injEq] at hk
   subst hk;exact hx.1
 ·exact hw.all y (List.mem_cons_of_mem _ hy)

theorem St.q6 {w0 w : World} {M : Mem} {Γ : List As} (hw : St w0 M Γ w) (e sz : Nat) : St w0 M (.acc (.slice none 0 0) e sz 0 []::Γ) w :=
 hw.add ⟨World.ownsRow_nil w 0 e sz,fun b hb=>by simp [Value.ownBlock] at hb⟩ rfl

structure ElemOk (P : Program) (t e sz bytes : Nat) : Prop where
 ut : P.underlying t = some (.slice e)
 info : ∃ i z,P.info? e = some i/\i.zero = some z/\i.size = sz/\i.bytes = bytes/\z.cells.size = sz
 pos : 0 < sz
theorem ElemOk.mk' {P : Program} {t e sz bytes : Nat} {z : Value} (h1 : P.underlying t = some (.slice e)) (h2 : (P.info? e).map (fun i=>(i.zero,i.size,i.bytes)) = some (some z,sz,bytes)) (h3 : z.cells.size = sz) (h4 : Nat.blt 0 sz = true) : ElemOk P t e sz bytes:=by
 refine ⟨h1,?_,by simpa [Nat.blt_eq] using h4⟩
 cases hi : P.info? e with
 | none=>simp [hi] at h2
 | some i =>
  simp only [hi,Option.map_some,Option.some.injEq,Prod.mk.injEq] at h2
  exact ⟨i,z,rfl,h2.1,h2.2.1,h2.2.2,h3⟩

def lS (w0 : World) (M : Mem) (Γ : List As) (x : Value) (sz m : Nat) (news : List Value) : Prop :=
 news.length = m * sz/\(∀ u∈news,u.oneCell' = true) /\
 ((∃ p c,x = .slice (some p) m c/\∀ w,St w0 M Γ w->∀ j u,news[j]? = some u->w.cell? (p.add j) = some u)\/(m = 0/\∃ c,x = .slice none 0 c))

theorem St.grown {w0 w w' : World} {M : Mem} {Γ : List As} {u u' : Value} {e : TypeId} {sz n n' : Nat} {us us' : List Value} (hw : St w0 M (.acc u e sz n us::Γ) w)
  (hg : w.grownBy w' u.ownBlock) (ho : w'.ownsRow 0 e sz u' n' us') (hb : ∀ b,u'.ownBlock = some b->u.ownBlock = some b\/w.heap.size<=b) : St w0 M (.acc u' e sz n' us'::Γ) w':=by
 have hx:=hw.all _ (List.mem_cons_self ..)
 have hold : ∀ k,k < w.heap.size->u.ownBlock ≠ some k->w'.heap[k]? = w.heap[k]?:=fun k hk hne=>hg.block k hk (fun e=>hne e.symm)
 have hnd:=hw.nodup
 have hrest : ∀ y∈Γ,∀ k,y.blk = some k->u.ownBlock ≠ some k:=fun y hy k hk e=>by
  simp only [List.filterMap_cons,As.blk,e] at hnd
  exact (List.nodup_cons.1 hnd).1 (j5 hy hk)
 refine ⟨hg.os.trans hw.os,hg.tape.trans hw.tape,hg.output.trans hw.output,Nat.le_trans hw.size hg.size,fun k o hk=>?_,fun y hy=>?_,?_⟩
 ·rw [hold k (hw.lt hk) (fun e=>by rw [hx.2 k e] at hk;cases hk)];exact hw.mem k o hk
 ·rcases List.mem_cons.1 hy with rfl | hm
  ·refine ⟨ho,fun b hbb=>?_⟩
   rcases hb b hbb with h | h
   ·exact hx.2 b h
   ·cases hM : M b with
    | none=>rfl
    | some o=>have:=hw.lt hM;omega
  ·have hy':=hw.all y (List.mem_cons_of_mem _ hm)
   refine As.gX hy' (Sub.refl M) fun k hk=>⟨hold k (As.bu hy' hk).1 (hrest y hm k hk),(As.bu hy' hk).2⟩
 ·simp only [List.filterMap_cons,As.blk] at hnd ⊢
  cases hu' : u'.ownBlock with
  | none =>
   cases hu : u.ownBlock with
   | none=>simpa [hu] using hnd
   | some k=>rw [hu] at hnd;exact (List.nodup_cons.1 hnd).2
  | some b =>
   have hnd2 : (List.filterMap As.blk Γ).Nodup:=by
    cases hu : u.ownBlock with
    | none=>simpa [hu] using hnd
    | some k=>rw [hu] at hnd;exact (List.nodup_cons.1 hnd).2
   refine List.nodup_cons.2 ⟨fun hm=>?_,hnd2⟩
   obtain ⟨y,hy,hk⟩:=List.mem_filterMap.1 hm
   rcases hb b hu' with h | h
   ·exact hrest y hy b hk h
   ·have:=(As.bu (hw.all y (List.mem_cons_of_mem _ hy)) hk).1
    omega

theorem iP {P : Program} {w0 w : World} {M : Mem} {Γ : List As} {t ty e sz bytes n m : Nat} {u x : Value} {us news : List Value} (hE : ElemOk P t e sz bytes)
  (hw : St w0 M (.acc u e sz n us::Γ) w) (hs : lS w0 M (.acc u e sz n us::Γ) x sz m news) (hb : (n+m) * bytes<=140737488355328) (hm : n+m<=lim) :
  ∃ u' w',(Builtin.append_ #[t,t] ty #[u,x]).run P w = .ok u' w'/\St w0 M (.acc u' e sz (n+m) (us++news)::Γ) w':=by
 obtain ⟨ht,⟨i,z,hi,hz,hsize,hby,hzs⟩,hpos⟩:=hE
 obtain ⟨hl,h1,hsrc⟩:=hs
 have hx:=hw.all _ (List.mem_cons_self ..)
 have h63 : n+m<=maxLen:=by unfold lim at hm;unfold maxLen;omega
 rcases hsrc with ⟨p,c,rfl,hnews⟩ | ⟨rfl,c,rfl⟩
 ·obtain ⟨v',w',hr,ho,hg,_⟩:=run_append_own (P:=P) w 0 t ty e i z sz bytes ht hi hz hsize hby hzs hpos u n us hx.1 p m c news hl (hnews w hw) h1 h63 hb (Nat.zero_le _)
  refine ⟨v',w',hr,hw.grown hg ho fun b hbb=>?_⟩
  subst hsize
  obtain ⟨hlen,hh⟩:=hx.1
  rcases hh with ⟨rfl,rfl⟩ | ⟨b0,cap,cur,rfl,_,hb0,hnc,hcm,hcs,htk⟩
  ·rcases Nat.eq_zero_or_pos m with rfl | hmp
   ·have e0 : news = []:=List.eq_nil_of_length_eq_zero (by simpa using hl)
    subst e0
    have hr2 : (Builtin.append_ #[t,t] ty #[.slice none 0 0,.slice (some p) 0 c]).run P w = .ok (.slice none 0 0) w:=by
     have hf:=run_firstCells_some (P:=P) w i.size 0 p 0 c [] (by simp) (by simp)
     simp [Builtin.append_,run_underlying ht,Go.sizeOf,typeInfo,hi,Builtin.lenOf,hf]
    rw [hr2] at hr
    cases hr
    simp [Value.ownBlock] at hbb
   ·have hr2:=run_append_nil (P:=P) w t ty e i z ht hi hz p m c news hl (hnews w hw) hmp (by unfold lim at hm;omega) (by rw [hby];simp at hb;omega)
    rw [hr2] at hr
    cases hr
    simp only [Value.ownBlock,Option.some.injEq] at hbb
    right;omega
  ·by_cases hroom : n+m<=cap
   ·have hr2:=run_append_room (P:=P) w t ty e i ht hi b0 n cap cur hb0 p m c news hl (hnews w hw) h1 hroom (by rw [hl,hcs,<-Nat.add_mul];exact Nat.mul_le_mul_right _ hroom)
    rw [hr2] at hr
    cases hr
    exact .inl hbb
   ·have holds : ∀ j v,us[j]? = some v->w.cell? ((⟨b0,0,none⟩ : Addr).add j) = some v:=hx.1.cells rfl
    have hr2:=run_append_grow (P:=P) w t ty e i z ht hi hz ⟨b0,0,none⟩ n cap us hlen holds p m c news hl (hnews w hw) (by omega) (by unfold lim at hm;omega)
     (by rw [hby];exact growslice_fits (by omega) hb)
    rw [hr2] at hr
    cases hr
    simp only [Value.ownBlock,Option.some.injEq] at hbb
    right;omega
 ·have e0 : news = []:=List.eq_nil_of_length_eq_zero (by simpa using hl)
  subst e0
  refine ⟨u,w,?_,by simpa using hw⟩
  obtain ⟨hlen,hh⟩:=hx.1
  rcases hh with ⟨rfl,rfl⟩ | ⟨b0,cap,cur,rfl,_,hb0,hnc,hcm,hcs,htk⟩
  ·simp [Builtin.append_,run_underlying ht,Go.sizeOf,typeInfo,hi,Builtin.lenOf,Builtin.firstCells]
  ·simp [Builtin.append_,run_underlying ht,Go.sizeOf,typeInfo,hi,Builtin.lenOf,Builtin.firstCells,hnc,storeCells]

def splice (cs : List Value) (off : Nat) (vs : List Value) : List Value:=cs.take off++vs++cs.drop (off+vs.length)
theorem mK {cs : List Value} {off : Nat} {vs : List Value} (h : off+vs.length<=cs.length) : (splice cs off vs).length = cs.length:=by
 simp [splice];omega

theorem qm : ∀ (l : List Value) (off k : Nat) (cs : List Value),off+k+l.length<=cs.length ->
  (l.zipIdx k).foldl (fun (c : Array Value) (x : Value×Nat)=>c.setIfInBounds (off+x.2) x.1) cs.toArray = (splice cs (off+k) l).toArray
 | [],off,k,cs,_=>by simp [splice]
 | v::l,off,k,cs,h=>by
  have h' : off+(k+1)+l.length<=cs.length:=by simp at h;omega
  simp only [List.zipIdx_cons,List.foldl_cons,List.setIfInBounds_toArray]
  rw [qm l off (k+1) (cs.set (off+k) v) (by simpa using h')]
  congr 1
  simp only [splice]
  have hk : off+k < cs.length:=by simp at h;omega
  rw [<-Nat.add_assoc,List.take_succ_eq_append_getElem (by simpa using hk),List.take_set_of_le (by omega)]
  simp only [List.getElem_set_self,List.length_cons,List.append_assoc,List.cons_append,List.nil_append,Nat.add_assoc]
  congr 3
  rw [List.drop_set,if_pos (by omega)]
  congr 1
  omega

def ga (place : Nat->Option (Nat×Nat)) : List Value->List (Nat×List Value)->Option (List Value)
 | cells,[]=>some cells
 | cells,(i,vs)::rest=>match place i with
  | none=>none
  | some (off,size)=>if vs.length = size/\off+size<=cells.length then ga place (splice cells off vs) rest else none

def cU : Value->List Value
 | .agg cs=>cs.toList
 | v=>[v]
theorem je (v : Value) : v.cells = (cU v).toArray:=by cases v <;> simp [Value.cells,cU]

theorem fill_eq (place : Nat->Option (Nat×Nat)) : ∀ (parts : List (Nat×Value)) (cells out : List Value),ga place cells (parts.map fun p=>(p.1,cU p.2)) = some out->Instr.fill place cells.toArray parts = some out.toArray
 | [],cells,out,h=>by simp only [List.map_nil,ga,Option.some.injEq] at h;simp [Instr.fill,h]
 | (i,v)::rest,cells,out,h=>by
  simp only [List.map_cons,ga] at h
  unfold Instr.fill
  cases hp : place i with
  | none=>simp [hp] at h
  | some os =>
   obtain ⟨off,size⟩:=os
   rw [hp] at h
   simp only [] at h ⊢
   split at h
   ·rename_i hc
    obtain ⟨h1,h2⟩:=hc
    have hsz : v.cells.size = size:=by rw [je];simpa using h1
    rw [if_neg (by simp [hsz];omega)]
    rw [je v,<-Array.foldl_toList,Array.toList_zipIdx]
    have:=qm (cU v) off 0 cells (by omega)
    simp only [Nat.add_zero] at this
    rw [this]
    exact fill_eq place rest _ _ h
   ·cases h

def pEv (L : Lm) : List (Nat×Operand)->Option (List (Nat×Value))
 | []=>some []
 | (i,x)::r=>match evL L x with
  | some v=>match pEv L r with
   | some vs=>some ((i,v)::vs)
   | none=>none
  | none=>none
theorem Sat.pEv {n : Nat} {L : Lm} {a : Act} (h : Sat n L a) : ∀ {xs : List (Nat×Operand)} {vs : List (Nat×Value)},pEv L xs = some vs->xs.map (fun p=>(p.1,a.eval p.2)) = vs
 | [],vs,hv=>by simp only [Xe.pEv,Option.some.injEq] at hv;simp [<-hv]
 | (i,x)::xs,vs,hv=>by
  simp only [Xe.pEv] at hv
  cases hx : evL L x with
  | none=>simp [hx] at hv
  | some v =>
   rw [hx] at hv
   simp only [] at hv
   cases hxs : Xe.pEv L xs with
   | none=>simp [hxs] at hv
   | some us =>
    rw [hxs] at hv
    simp only [Option.some.injEq] at hv
    rw [<-hv]
    simp [h.ev hx,h.pEv hxs]

def iY (P : Program) (t : TypeId) : Option (List (Nat×Nat)):=match P.underlying t with
 | some (.struct fs)=>fs.toList.mapM fun f=>match P.info? f.type with
  | some i=>some (f.offset,i.size)
  | none=>none
 | _=>none

theorem run_places {P : Program} {w : World} : ∀ (fs : List Field) (pl : List (Nat×Nat)),(fs.mapM fun f=>match P.info? f.type with
  | some i=>some (f.offset,i.size)
  | none=>none) = some pl->(fs.mapM fun f=>Prod.mk f.offset <$> Go.sizeOf f.type : Sem (List (Nat×Nat))).run P w = .ok pl w
 | [],pl,h=>by simp at h;simp [<-h]
 | f::fs,pl,h=>by
  simp only [List.mapM_cons] at h ⊢
  cases hi : P.info? f.type with
  | none=>simp [hi] at h
  | some i =>
   simp only [hi,Option.bind_eq_bind,Option.bind_some] at h
   cases hr : (fs.mapM fun f=>match P.info? f.type with
    | some i=>some (f.offset,i.size)
    | none=>none) with
   | none=>rw [hr] at h;simp at h
   | some pl' =>
    rw [hr] at h
    simp only [Option.bind_some,Option.pure_def,Option.some.injEq] at h
    subst h
    have ih:=run_places (P:=P) (w:=w) fs pl' hr
    have hs : (Go.sizeOf f.type).run P w = .ok i.size w:=by simp [Go.sizeOf,typeInfo,hi]
    simp only [Sem.run_bind,Sem.run_map,hs,Result.andThen_ok,ih,Sem.run_pure]

section
variable {P : Program} {w0 : World} {L : Lm} {M : Mem} {Γ : List As} {d : Option Nat} {ty : TypeId} {pos : String} {af : Array Edge} {g : Option (Nat×Bool)}
namespace Y
theorem build {t : TypeId} {parts : List (Nat×Operand)} {vs : List (Nat×Value)} {zs : List Value} {pl : List (Nat×Nat)} (out : List Value) (hp : pEv L parts = some vs) (hz : eC P t = some (.agg zs.toArray)) (hpl : iY P t = some pl)
  (hf : ga (pl[·]?) zs (vs.map fun p=>(p.1,cU p.2)) = some out) : Yq P w0 L M Γ ⟨d,.build t parts.toArray,ty,pos,af,g⟩ (.agg out.toArray):=fun n a w ha _=>by
 unfold iY at hpl
 cases hu : P.underlying t with
 | none=>simp [hu] at hpl
 | some dd =>
  rw [hu] at hpl
  cases dd with
  | struct fs =>
   simp only [] at hpl
   have h1:=run_places (P:=P) (w:=w) fs.toList pl hpl
   have h2:=fill_eq (pl[·]?) vs zs out hf
   have h3 : (parts.toArray.map fun x=>(x.1,a.eval x.2)) = vs.toArray:=by rw [List.map_toArray,ha.pEv hp]
   have h4 : (fs.mapM fun f=>(do pure (f.offset,<-Go.sizeOf f.type) : Sem (Nat×Nat))).run P w = .ok pl.toArray w:=by
    rw [Array.mapM_eq_mapM_toList]
    simp [h1]
   simp only [execOp,h3]
   simp only [Instr.build,Sem.run_bind,l9 hz,Result.andThen_ok,run_underlying hu,Value.cells,h4,List.getElem?_toArray,h2,Sem.run_pure]
  | _=>simp at hpl
end Y
end

section
variable {P : Program} {n : Nat} {w0 : World} {ops : Array Oper} {rest : List Oper} {L : Lm} {M : Mem} {Γ : List As} {K : Lm->Mem->List As->Prop} {ty : TypeId} {pos : String} {af : Array Edge} {d : Nat}

theorem iD {w : World} {t e sz bytes len : Nat} {vs : List (Nat×Value)} {out : List Value} (hE : ElemOk P t e sz bytes) (hlen : Nat.ble (len * sz) 16777216 = true)
  (hf : ∀ zs : List Value,zs.length = len * sz->ga (fun i=>some (i * sz,sz)) zs (vs.map fun p=>(p.1,cU p.2)) = some out) :
  (Instr.buildSlice t len vs.toArray).run P w = .ok (.slice (some ⟨w.heap.size,0,none⟩) len len) { w with heap:=w.heap.push (.cells out.toArray e (0,0)) }:=by
 obtain ⟨ht,⟨i,z,hi,hz,hsize,hby,hzs⟩,hpos⟩:=hE
 have hl : ¬ (16777216 < len * sz):=by simpa [Nat.ble_eq] using hlen
 by_cases h0 : len * sz = 0
 ·have h1:=fill_eq (fun i=>some (i * sz,sz)) vs [] out (hf [] (by simp [h0]))
  have e0 : Array.map (fun _=>(default : Value)) (Array.range 0) = #[]:=by simp
  simp [Instr.buildSlice,run_underlying ht,Go.sizeOf,typeInfo,hi,hsize,h0,h1,e0,newRow]
 ·have h1:=fill_eq (fun i=>some (i * sz,sz)) vs ((Array.range (len * sz)).map (z.cells[· % z.cells.size]!)).toList out (hf _ (by simp))
  simp only [Array.toArray_toList] at h1
  simp [Instr.buildSlice,run_underlying ht,Go.sizeOf,typeInfo,zeroValue,hi,hz,hsize,h0,hl,h1,newRow]

theorem RL.buildSlice {t e sz bytes len : Nat} {parts : List (Nat×Operand)} {vs : List (Nat×Value)} (out : List Value) (hE : ElemOk P t e sz bytes) (hp : pEv L parts = some vs) (hlen : Nat.ble (len * sz) 16777216 = true)
  (hf : ∀ zs : List Value,zs.length = len * sz->ga (fun i=>some (i * sz,sz)) zs (vs.map fun p=>(p.1,cU p.2)) = some out) (hd : Nat.blt d n = true)
  (h : ∀ b,RL P n w0 ops rest ((d,.slice (some ⟨b,0,none⟩) len len)::L) M (.own b e out::Γ) K) : RL P n w0 ops (⟨some d,.buildSlice t len parts.toArray,ty,pos,af,none⟩::rest) L M Γ K:=by
 refine RL.e (fun v M' Γ'=>∃ b,v = .slice (some ⟨b,0,none⟩) len len/\M' = M/\Γ' = .own b e out::Γ) (fun n a w ha hw=>?_) hd ?_
 ·refine ⟨_,_,M,_,?_,⟨w.heap.size,rfl,rfl,rfl⟩,hw.alloc e out⟩
  have h3 : (parts.toArray.map fun x=>(x.1,a.eval x.2)) = vs.toArray:=by rw [List.map_toArray,ha.pEv hp]
  simp only [execOp,h3]
  simp [iD hE hlen hf]
 ·rintro v M' Γ' ⟨b,rfl,rfl,rfl⟩
  exact h b

inductive Pick (x : As) : List As->List As->Prop
 | here (Γ : List As) : Pick x (x::Γ) Γ
 | there (y : As) {Γ R : List As} : Pick x Γ R->Pick x (y::Γ) (y::R)
theorem Pick.perm {x : As} {Γ R : List As} (h : Pick x Γ R) : List.Perm Γ (x::R):=by
 induction h with
 | here Γ=>exact .refl _
 | there y _ ih=>exact (ih.cons y).trans (.swap x y _)

theorem lS.own {b e c : Nat} {news : List Value} {sz m : Nat} (hm : As.own b e news∈Γ) (hl : news.length = m * sz) (h1 : ∀ u∈news,u.oneCell' = true) : lS w0 M Γ (.slice (some ⟨b,0,none⟩) m c) sz m news :=
 ⟨hl,h1,.inl ⟨_,c,rfl,fun w hw j u hj=>by
  have:=hw.cq hm hj
  rwa [show (⟨b,0,none⟩ : Addr).add j = adr (some ⟨b,0,none⟩) j from rfl]⟩⟩
theorem src_rd {w : World} {n sz : Nat} {ds : List D} {a : Option Addr} {l c : Nat} (hw : St w0 M Γ w) (hm : As.rd (.sl n sz ds) (.slice a l c)∈Γ) :
  ∃ news,RdL M ds news/\lS w0 M Γ (.slice a l c) sz l news:=by
 have hr:=hw.rd hm
 simp only [Rd] at hr
 obtain ⟨a',c',h1,h2,h3,h4,h5,h6,h7⟩:=hr
 simp only [Value.slice.injEq] at h1
 obtain ⟨rfl,rfl,rfl⟩:=h1
 obtain ⟨us,h8,h9⟩:=gG (M:=M) (a:=a) (q:=0) (ds:=ds) fun j e hj=>by simpa using RdC.get ds 0 h7 j e hj
 refine ⟨us,h8,by rw [h8.1];exact h5,h8.one,?_⟩
 cases a with
 | none =>
  have h0 : ¬ 0 < l:=fun h=>by have:=h6 h;simp at this
  obtain rfl : l = 0:=by omega
  exact .inr ⟨rfl,c,rfl⟩
 | some p=>exact .inl ⟨p,c,rfl,fun w hw j u hj=>hw.cell (by have:=h9 j u hj;rw [Nat.zero_add] at this;exact this)⟩

theorem gm {w : World} {u : Value} {e : TypeId} {sz n : Nat} {us : List Value} (h : As.ok M w (.acc u e sz n us)) : ∃ a c,u = .slice a n c/\n<=c:=by
 obtain ⟨⟨_,hh⟩,_⟩:=h
 rcases hh with ⟨rfl,rfl⟩ | ⟨b,cap,cur,rfl,_,_,hc,_⟩
 ·exact ⟨none,0,rfl,Nat.le_refl _⟩
 ·exact ⟨_,cap,rfl,hc⟩
theorem RL.append {t e sz bytes k m : Nat} {x y : Operand} {u xv : Value} {us news : List Value} {R : List As} (hE : ElemOk P t e sz bytes) (hx : evL L x = some u) (hy : evL L y = some xv) (hp : Pick (.acc u e sz k us) Γ R)
  (hs : lS w0 M Γ xv sz m news) (hb : (k+m) * bytes<=140737488355328) (hm : k+m<=lim) (hd : Nat.blt d n = true)
  (h : ∀ a' c',k+m<=c'->RL P n w0 ops rest ((d,.slice a' (k+m) c')::L) M (.acc (.slice a' (k+m) c') e sz (k+m) (us++news)::R) K) : RL P n w0 ops (⟨some d,.call ⟨.builtin .append,#[x,y],#[t,t]⟩,ty,pos,af,none⟩::rest) L M Γ K:=by
 refine RL.e (fun v M' Γ'=>M' = M/\Γ' = .acc v e sz (k+m) (us++news)::R) (fun n a w ha hw=>?_) hd ?_
 ·obtain ⟨hl,h1,hsrc⟩:=hs
  have hs' : lS w0 M (.acc u e sz k us::R) xv sz m news:=⟨hl,h1,hsrc.imp (fun ⟨p,c,h1,h2⟩=>⟨p,c,h1,fun w hw=>h2 w (hw.perm hp.perm.symm)⟩) id⟩
  obtain ⟨u',w',hr,hw'⟩:=iP (P:=P) (ty:=ty) hE (hw.perm hp.perm) hs' hb hm
  refine ⟨u',w',M,_,?_,⟨rfl,rfl⟩,hw'⟩
  simp [execOp,resolve,invoke,Go.builtin,ha.ev hx,ha.ev hy,hr]
 ·rintro v M' Γ' ⟨rfl,rfl⟩
  refine RL.nE (F:=∃ a' c',v = .slice a' (k+m) c'/\k+m<=c') (fun w hw=>gm (hw.all _ (List.mem_cons_self ..))) ?_
  rintro ⟨a',c',rfl,hc'⟩
  exact h a' c' hc'
theorem RL.F6 {t e sz bytes k m : Nat} {x y : Operand} {u : Value} {a : Option Addr} {c : Nat} {us : List Value} {ds : List D} {R : List As} (hE : ElemOk P t e sz bytes) (hx : evL L x = some u) (hy : evL L y = some (.slice a m c)) (hp : Pick (.acc u e sz k us) Γ R)
  (hs : As.rd (.sl m sz ds) (.slice a m c)∈Γ) (hb : (k+m) * bytes<=140737488355328) (hm : k+m<=lim) (hd : Nat.blt d n = true)
  (h : ∀ a' c' news,k+m<=c'->RdL M ds news->RL P n w0 ops rest ((d,.slice a' (k+m) c')::L) M (.acc (.slice a' (k+m) c') e sz (k+m) (us++news)::R) K) : RL P n w0 ops (⟨some d,.call ⟨.builtin .append,#[x,y],#[t,t]⟩,ty,pos,af,none⟩::rest) L M Γ K:=by
 refine RL.nE (F:=∃ news,RdL M ds news/\lS w0 M Γ (.slice a m c) sz m news) (fun w hw=>src_rd hw hs) ?_
 rintro ⟨news,hr,hs'⟩
 exact RL.append hE hx hy hp hs' hb hm hd fun a' c' hc'=>h a' c' news hc' hr
end

theorem az.drop {w0 : World} {M : Mem} {Γ Γ' : List As} {F : Mem->List As->Prop} (h : F M Γ') (hs : List.Sublist Γ' Γ) : az w0 M Γ F:=az.of h fun _ hw=>hw.sub hs
theorem CW.fV {P : Program} {n : Nat} {w0 : World} {c : Code} {X : Pst} {L : Lm} {M : Mem} {Γ : List As} {e : D} {u : Value} (hr : Rd M e u) (h : CW P n w0 c X L M (.rd e u::Γ)) : CW P n w0 c X L M Γ :=
 h.pre (cj.refl L) fun _ hw=>hw.add (x:=.rd e u) hr rfl
theorem CW.aW {P : Program} {n : Nat} {w0 : World} {c : Code} {X : Pst} {L : Lm} {M : Mem} {Γ : List As} {es : List D} {us : List Value} (hr : RdL M es us) (h : CW P n w0 c X L M (.rds es us::Γ)) : CW P n w0 c X L M Γ :=
 h.pre (cj.refl L) fun _ hw=>hw.add (x:=.rds es us) hr rfl
theorem Rd.slice {M : Mem} {n sz : Nat} {cs : List D} {u : Value} (h : Rd M (.sl n sz cs) u) : ∃ a c,u = .slice a n c/\n<=c/\n<=140737488355328/\cs.length = n * sz:=by
 simp only [Rd] at h
 obtain ⟨a,c,h1,h2,_,h4,h5,_⟩:=h
 exact ⟨a,c,h1,h2,h4,h5⟩
theorem az.gp {w0 : World} {M1 : Mem} {Γ Γ1 R : List As} {F : Mem->List As->Prop} {u : Value} {e : TypeId} {sz n : Nat} {us : List Value} {ds : List D} (hp : Pick (.acc u e sz n us) Γ1 R) (hr : RdL M1 ds us) (hn : n<=lim) (hl : List.Sublist Γ R)
  (hF : ∀ M',Sub M1 M'->Rd M' (.sl n sz ds) u->F M' Γ) : az w0 M1 Γ1 F:=fun _ hw=>by
 obtain ⟨M',h1,h2,h3⟩:=(hw.perm hp.perm).gp hr hn
 exact ⟨M',Γ,hF M' h1 h2,h3.sub (hl.trans (List.sublist_cons_self _ _))⟩
theorem CW.AI {P : Program} {n : Nat} {w0 : World} {c : Code} {X : Pst} {L : Lm} {M : Mem} {Γ : List As} (e sz : Nat) (h : CW P n w0 c X L M (.acc (.slice none 0 0) e sz 0 []::Γ)) : CW P n w0 c X L M Γ:=h.pre (cj.refl L) fun _ hw=>hw.q6 e sz
theorem fill1 {sz : Nat} {v : Value} {out : List Value} (h : cU v = out) (hl : out.length = sz) : ∀ zs : List Value,zs.length = 1 * sz->ga (fun i=>some (i * sz,sz)) zs ([(0,v)].map fun p=>(p.1,cU p.2)) = some out:=fun zs hz=>by
 have h1 : zs.length = sz:=by omega
 simp only [List.map_cons,List.map_nil,h,ga,hl,h1,Nat.zero_mul,Nat.zero_add,Nat.le_refl,and_self,if_true,splice,List.take_zero,List.nil_append]
 rw [List.drop_of_length_le (by omega),List.append_nil]
theorem fill2 {sz : Nat} {v v' : Value} {out out' : List Value} (h : cU v = out) (hl : out.length = sz) (h' : cU v' = out') (hl' : out'.length = sz) : ∀ zs : List Value,zs.length = 2 * sz->ga (fun i=>some (i * sz,sz)) zs ([(0,v),(1,v')].map fun p=>(p.1,cU p.2)) = some (out++out'):=fun zs hz=>by
 have h1 : (splice zs 0 out).length = 2 * sz:=by rw [mK (by omega),hz]
 simp only [List.map_cons,List.map_nil,h,h',ga,hl,hl',hz,Nat.zero_mul,Nat.zero_add,Nat.one_mul]
 rw [if_pos ⟨trivial,by omega⟩,h1,if_pos ⟨trivial,by omega⟩]
 congr 1
 simp only [splice,hl,hl',List.take_zero,List.nil_append,Nat.zero_add]
 rw [List.take_append_of_le_length (by omega),List.take_of_length_le (by omega),List.drop_append,List.drop_of_length_le (by omega),List.drop_of_length_le (by simp;omega)]
 simp
theorem CW.front {P : Program} {n : Nat} {w0 : World} {c : Code} {X : Pst} {L : Lm} {M : Mem} {Γ R : List As} {x : As} (hp : Pick x Γ R) (h : CW P n w0 c X L M (x::R)) : CW P n w0 c X L M Γ :=
 h.pre (cj.refl L) fun _ hw=>hw.perm hp.perm
end Xe

namespace Xe
open Go

def Norm (R : Act->World->Prop) : Exit->Act->World->Prop
 | .normal,a,w=>R a w
 | _,_,_=>False

theorem tW {P : Program} {o : Oper} {a : Act} {K : Act->World->Prop} {R R' : Act->World->Prop} {r : Result Next} (h : o.upon P a K (Norm R) r) : o.upon P a K (Norm R') r:=by
 cases r with
 | ok x w =>
  cases x <;> simp only [Oper.upon] at h ⊢ <;> first | exact h | (refine h.mono fun e w'' he=>?_;cases e <;> first | exact he | exact he.elim | (obtain ⟨a,w,hf⟩:=he;exact hf.elim))
 | halt x w=>cases x <;> simp only [Oper.upon] at h ⊢ <;> exact h

def HL (P : Program) (n : Nat) (w0 : World) (ops : Array Oper) (Mc : Mem) (Γc : List As) (fuel : Nat) (listed : Array Bool) (L : Lm) (M : Mem) (Γ : List As) (K : Lm->Mem->List As->Prop) : Prop :=
 (∃ w,St w0 Mc Γc w)->∀ R : Act->World->Prop,(∀ L M Γ,K L M Γ->∀ a w,Sat n L a->St w0 M Γ w->R a w) ->
 ∀ a w,Sat n L a->St w0 M Γ w->St w0 Mc Γc w->wpAnyH P .any ops (Norm R) (St w0 Mc Γc) fuel listed a w

section
variable {P : Program} {n : Nat} {w0 : World} {ops : Array Oper} {Mc : Mem} {Γc : List As} {fuel : Nat} {listed : Array Bool} {L : Lm} {M : Mem} {Γ : List As} {K : Lm->Mem->List As->Prop}

theorem HL.done (hr : Region.ready .any ops listed = []) (h : K L M Γ) : HL P n w0 ops Mc Γc fuel listed L M Γ K :=
 fun _ _ hR a w ha hw _=>wpAnyH_done hr (hR L M Γ h a w ha hw) fuel

theorem HL.take (i : Nat) {op : Op} {ty : TypeId} {pos : String} {after : Array Edge} {g : Option (Nat×Bool)} {d : Nat} {v : Value} (hi : ops[i]? = some ⟨some d,op,ty,pos,after,g⟩) (hs : Region.noSelect ops = true) (hf : Region.free .any ops listed i = true)
  (hr : (Region.ready .any ops listed).contains i = true) (hg : Want ops L ⟨some d,op,ty,pos,after,g⟩ true) (hy : Yq P w0 L Mc Γc ⟨some d,op,ty,pos,after,g⟩ v) (hd : Nat.blt d n = true)
  (h : HL P n w0 ops Mc Γc fuel (listed.setIfInBounds i true) ((d,v)::L) M Γ K) : HL P n w0 ops Mc Γc (fuel+1) listed L M Γ K :=
 fun hex R hR a w ha hw hc=>wpAnyH_take hi hs hf hr (fun _ _ _ h=>h) (.inl ⟨hg.spec ha,fun w hw=>hy n a w ha hw⟩) hc (h hex R hR _ w (ha.put hd) hw hc)

theorem HL.jO (i : Nat) {op : Op} {ty : TypeId} {pos : String} {after : Array Edge} {g : Option (Nat×Bool)} {d : Nat} (hi : ops[i]? = some ⟨some d,op,ty,pos,after,g⟩) (hs : Region.noSelect ops = true) (hf : Region.free .any ops listed i = true)
  (hr : (Region.ready .any ops listed).contains i = true) (hg : Want ops L ⟨some d,op,ty,pos,after,g⟩ false) (hd : Nat.blt d n = true)
  (h : HL P n w0 ops Mc Γc fuel (listed.setIfInBounds i true) ((d,undef)::L) M Γ K) : HL P n w0 ops Mc Γc (fuel+1) listed L M Γ K :=
 fun hex R hR _ w ha hw hc=>wpAnyH_take hi hs hf hr (fun _ _ _ h=>h) (.inr ⟨hg.spec ha,rfl⟩) hc (h hex R hR _ w (ha.put hd) hw hc)

theorem HL.nE {F : Prop} (hF : ∀ w,St w0 Mc Γc w->F) (h : F->HL P n w0 ops Mc Γc fuel listed L M Γ K) : HL P n w0 ops Mc Γc fuel listed L M Γ K :=
 fun hex=>h (let ⟨w,hw⟩:=hex;hF w hw) hex

theorem HL.more {Γc' : List As} (h1 : ∀ w,St w0 Mc Γc w↔St w0 Mc Γc' w) (h : HL P n w0 ops Mc Γc' fuel listed L M Γ K) : HL P n w0 ops Mc Γc fuel listed L M Γ K:=by
 have e : St w0 Mc Γc = St w0 Mc Γc':=funext fun w=>propext (h1 w)
 unfold HL at h ⊢
 rw [e]
 exact h

theorem mW {i : Nat} {o : Oper} {K' : Lm->Mem->List As->Prop} {R R' : Act->World->Prop} (hi : ops[i]? = some o) (h : RL P n w0 ops [o] L M Γ K') (hR : ∀ L M Γ,K' L M Γ->∀ a w,Sat n L a->St w0 M Γ w->R a w) {a : Act} {w : World} (ha : Sat n L a) (hw : St w0 M Γ w) :
  wpOp P ops (Norm R') i R a w:=by
 have h1:=h (Norm R) hR a w ha hw
 unfold wpOp
 simp only [hi]
 unfold wpList at h1
 split
 ·rename_i hwt
  rw [if_pos hwt] at h1
  rcases h1 with h1 | ⟨_,a,w,hf⟩
  ·exact .inl (tW (R:=R) h1)
  ·exact hf.elim
 ·rename_i hwt
  rw [if_neg hwt] at h1
  exact h1

theorem HL.step (i : Nat) {o : Oper} (hi : ops[i]? = some o) (hr : Region.ready .any ops listed = [i])
  (h : RL P n w0 ops [o] L M Γ (fun L' M' Γ'=>((∃ w,St w0 Mc Γc w)->∀ w,St w0 M' Γ' w->St w0 Mc Γc w)/\HL P n w0 ops Mc Γc fuel (listed.setIfInBounds i true) L' M' Γ' K)) : HL P n w0 ops Mc Γc (fuel+1) listed L M Γ K:=by
 intro hex R hR a w ha hw hc
 refine wpAnyH_all hr (by simp) fun j hj=>?_
 simp only [List.mem_singleton] at hj
 subst hj
 exact mW hi h (fun L' M' Γ' hK a' w' ha' hw'=>⟨hK.1 hex w' hw',hK.2 hex R hR a' w' ha' hw' (hK.1 hex w' hw')⟩) ha hw

theorem HL.step2 (i j : Nat) {o o' : Oper} (hi : ops[i]? = some o) (hj : ops[j]? = some o') (hr : Region.ready .any ops listed = [i,j])
  (h : RL P n w0 ops [o] L M Γ (fun L' M' Γ'=>((∃ w,St w0 Mc Γc w)->∀ w,St w0 M' Γ' w->St w0 Mc Γc w)/\HL P n w0 ops Mc Γc fuel (listed.setIfInBounds i true) L' M' Γ' K))
  (h' : RL P n w0 ops [o'] L M Γ (fun L' M' Γ'=>((∃ w,St w0 Mc Γc w)->∀ w,St w0 M' Γ' w->St w0 Mc Γc w)/\HL P n w0 ops Mc Γc fuel (listed.setIfInBounds j true) L' M' Γ' K)) : HL P n w0 ops Mc Γc (fuel+1) listed L M Γ K:=by
 intro hex R hR a w ha hw hc
 refine wpAnyH_all hr (by simp) fun k hk=>?_
 simp only [List.mem_cons,List.not_mem_nil,or_false] at hk
 rcases hk with rfl | rfl
 ·exact mW hi h (fun L' M' Γ' hK a' w' ha' hw'=>⟨hK.1 hex w' hw',hK.2 hex R hR a' w' ha' hw' (hK.1 hex w' hw')⟩) ha hw
 ·exact mW hj h' (fun L' M' Γ' hK a' w' ha' hw'=>⟨hK.1 hex w' hw',hK.2 hex R hR a' w' ha' hw' (hK.1 hex w' hw')⟩) ha hw

theorem aQ {Γ' : List As} (hl : List.Sublist Γc Γ') : (∃ w,St w0 Mc Γc w)->∀ w,St w0 Mc Γ' w->St w0 Mc Γc w:=fun _ _ hw=>hw.sub hl
theorem bT {M' : Mem} {Γ' : List As} (hs : Sub Mc M') (hl : List.Sublist Γc Γ') : (∃ w,St w0 Mc Γc w)->∀ w,St w0 M' Γ' w->St w0 Mc Γc w:=fun ⟨_,h⟩ _ hw=>h.back (hw.sub hl) hs

theorem CW.jT {id : Nat} {X : Pst} {l : List Oper} (hm : P.follows .mixedOrders = true) (Mc : Mem) (Γc : List As) (hc : ∀ w,St w0 M Γ w->St w0 Mc Γc w)
  (h : HL P n w0 l.toArray Mc Γc l.length (Array.replicate l.length false) L M Γ (X .normal)) : CW P n w0 (.region id l.toArray true) X L M Γ:=by
 intro a w ha hw
 have hw':=hw.draw (w.drawn+1)
 have h1:=h ⟨_,hc _ hw'⟩ (fun a w=>Real n w0 X .normal a w) (fun L M Γ hX a w ha hw=>⟨L,M,Γ,hX,ha,hw⟩) a _ ha hw' (hc _ hw')
 have h2:=wp_region_held (P:=P) (id:=id) (Q:=Norm (fun a w=>Real n w0 X .normal a w)) (S:=St w0 Mc Γc) (ops:=l.toArray) (a:=a) (w:=w) hm (by simpa using h1)
 refine wp_mono h2 fun e a w he=>?_
 cases e <;> first | exact he | exact he.elim

theorem xP {x : As} (hb : x.blk = none) (hx : ∀ w,x.ok M w) : ∀ w,St w0 M Γc w↔St w0 M (x::Γc) w:=fun w=>⟨fun h=>h.add (hx w) hb,fun h=>h.sub (List.sublist_cons_self _ _)⟩

theorem HL.AW (i : Nat) {op : Op} {ty : TypeId} {pos : String} {after : Array Edge} {g : Option (Nat×Bool)} {d : Nat} (hi : ops[i]? = some ⟨some d,op,ty,pos,after,g⟩) (hs : Region.noSelect ops = true) (hf : Region.free .any ops listed i = true)
  (hr : (Region.ready .any ops listed).contains i = true) (hg : Want ops L ⟨some d,op,ty,pos,after,g⟩ true) (F : Value->As->Prop) (hex : ∀ w,St w0 M Γc w->∃ v x,F v x)
  (hF : ∀ v x,F v x->Yq P w0 L M Γc ⟨some d,op,ty,pos,after,g⟩ v/\x.blk = none/\∀ w,x.ok M w) (hd : Nat.blt d n = true)
  (h : ∀ v x,F v x->HL P n w0 ops M (x::Γc) fuel (listed.setIfInBounds i true) ((d,v)::L) M (x::Γ) K) : HL P n w0 ops M Γc (fuel+1) listed L M Γ K:=by
 refine HL.nE hex ?_
 rintro ⟨v,x,hv⟩
 obtain ⟨h1,h2,h3⟩:=hF v x hv
 refine HL.take i hi hs hf hr hg h1 hd ?_
 have h4:=h v x hv
 refine HL.more (xP h2 h3) ?_
 exact fun hex R hR a w ha hw hc=>h4 hex R hR a w ha (hw.add (h3 w) h2) hc

theorem HL.aM (i : Nat) {x : Operand} {t : TypeId} {ty : TypeId} {pos : String} {af : Array Edge} {g : Option (Nat×Bool)} {d : Nat} {a : Option Addr} {q sz n0 sz0 l c : Nat} {cs ds : List D} (hi : ops[i]? = some ⟨some d,.load t x,ty,pos,af,g⟩) (hs : Region.noSelect ops = true) (hf : Region.free .any ops listed i = true)
  (hr : (Region.ready .any ops listed).contains i = true) (hg : Want ops L ⟨some d,.load t x,ty,pos,af,g⟩ true)
  (hx : evL L x = some (.pointer (some (adr a q)))) (hm : As.rd (.sl n0 sz0 cs) (.slice a l c)∈Γc) (hq : (cs.drop q).take sz = ds) (hl : ds.length = sz) (hag : fX P t sz = true) (hd : Nat.blt d n = true)
  (h : ∀ us,us.length = sz->RdL M ds us->HL P n w0 ops M (.rds ds us::Γc) fuel (listed.setIfInBounds i true) ((d,.agg us.toArray)::L) M (.rds ds us::Γ) K) :
  HL P n w0 ops M Γc (fuel+1) listed L M Γ K:=by
 refine HL.AW i hi hs hf hr hg (fun v x=>∃ us,v = .agg us.toArray/\x = .rds ds us/\RdL M ds us/\∀ j v,us[j]? = some v->dD M (adr a (q+j)) = some v) (fun w hw=>?_) ?_ hd ?_
 ·obtain ⟨us,h1,h2⟩:=gG (M:=M) (a:=a) (q:=q) (ds:=ds) (fun j e hj=>hw.mb hm (iV hq hj))
  exact ⟨_,_,us,rfl,rfl,h1,h2⟩
 ·rintro _ _ ⟨us,rfl,rfl,h1,h2⟩
  refine ⟨Y.aM hx (by rw [h1.1,hl];exact hag) fun w hw j v hj=>?_,rfl,fun _=>h1⟩
  rw [cn]
  exact hw.cell (h2 j v hj)
 ·rintro _ _ ⟨us,rfl,rfl,h1,h2⟩
  exact h us (by rw [h1.1,hl]) h1

theorem CW.xO {id : Nat} {X : Pst} {l : List Oper} {x : As} {R : List As} (hm : P.follows .mixedOrders = true) (hp : Pick x Γ R)
  (h : HL P n w0 l.toArray M R l.length (Array.replicate l.length false) L M Γ (X .normal)) : CW P n w0 (.region id l.toArray true) X L M Γ :=
 CW.jT hm M R (fun _ hw=>(hw.perm hp.perm).sub (List.sublist_cons_self _ _)) h
end
def aC (P : Program) (w0 : World) (r : Nat) (t : TypeId) (L : Lm) (M : Mem) (Γ : List As) (R : Post) : Prop :=
 ∃ b e cs,cR L r = some (.pointer (some (adr (some ⟨b,0,none⟩) 0)))/\As.own b e cs∈Γ/\fX P t cs.length = true/\az w0 M Γ (R (.agg cs.toArray))

theorem aC.mk {P : Program} {w0 : World} {r : Nat} {t : TypeId} {L : Lm} {M : Mem} {Γ : List As} {R : Post} {b e sz : Nat} {cs : List Value} (h1 : cR L r = some (.pointer (some (adr (some ⟨b,0,none⟩) 0)))) (h2 : As.own b e cs∈Γ)
  (h3 : cs.length = sz) (h4 : fX P t sz = true) (h5 : az w0 M Γ (R (.agg cs.toArray))) : aC P w0 r t L M Γ R:=⟨b,e,cs,h1,h2,by rw [h3];exact h4,h5⟩

theorem gx {P : Program} {w0 w : World} {M : Mem} {Γ : List As} {b : Nat} {e t : TypeId} {cs : List Value} (hw : St w0 M Γ w) (hm : As.own b e cs∈Γ) (ha : fX P t cs.length = true) :
  (loadVar t (adr (some ⟨b,0,none⟩) 0)).run P w = .ok (.agg cs.toArray) w:=by
 obtain ⟨h1,h2⟩:=xL (P:=P) (w:=w) ha
 have h3:=Y.run_loadCellsFrom (P:=P) (w:=w) (p:=adr (some ⟨b,0,none⟩) 0) cs 0 #[] (by
  intro j v hj
  rw [cn]
  simpa using hw.cq hm hj)
 simp [loadVar,h1,h2,loadCells,h3]

theorem mq {P : Program} {f : FuncId} {fn : Func} {c : Code} {args : List Value} {w0 : World} {M : Mem} {Γ : List As} {R : Post} {r n : Nat} {t : TypeId}
  (hf : P.funcs[f]? = some fn) (hb : fn.body = some c) (hn : fn.ntmps = n) (hr : fn.results = #[.cell r t]) (ha : Nat.ble args.length n = true)
  (h : ∀ w1,St w0 M Γ w1->CW P n w0 c (fun e L M Γ=>match e with
   | .ret | .normal=>aC P w0 r t L M Γ R
   | _=>False) (slotsOf 0 args) M Γ) : aA P w0 M Γ f args.toArray R:=by
 intro w hw
 refine calls_of_wp hf hb ?_
 rw [hn]
 refine wp_mono (h w hw _ w (fE n args ha) hw) ?_
 rintro e a w' ⟨L,M1,Γ1,hX,h1,h2⟩
 cases e with
 | normal | ret =>
  obtain ⟨b,e,cs,hv,hm,hag,hi⟩:=hX
  obtain ⟨M',Γ',hR,hw'⟩:=hi w' h2
  refine ⟨h1.defers,.agg cs.toArray,?_,_,M',Γ',rfl,hR,hw'⟩
  have e1:=h1.get r _ hv
  simp [results,hr,e1,asAddr,gx h2 hm hag]
 | _=>exact hX.elim

theorem sV {P : Program} {f : FuncId} {fn : Func} {c : Code} {args : List Value} {w0 : World} {M : Mem} {Γ : List As} {R : Post} {r s n : Nat} {t : TypeId}
  (hf : P.funcs[f]? = some fn) (hb : fn.body = some c) (hn : fn.ntmps = n) (hr : fn.results = #[.cell r t,.tmp s]) (ha : Nat.ble args.length n = true)
  (h : ∀ w1,St w0 M Γ w1->CW P n w0 c (fun e L M Γ=>match e with
   | .ret | .normal=>∃ v,cR L s = some v/\aC P w0 r t L M Γ (fun u=>R (.tuple #[u,v]))
   | _=>False) (slotsOf 0 args) M Γ) : aA P w0 M Γ f args.toArray R:=by
 intro w hw
 refine calls_of_wp hf hb ?_
 rw [hn]
 refine wp_mono (h w hw _ w (fE n args ha) hw) ?_
 rintro e a w' ⟨L,M1,Γ1,hX,h1,h2⟩
 cases e with
 | normal | ret =>
  obtain ⟨v,hs,b,e,cs,hv,hm,hag,hi⟩:=hX
  obtain ⟨M',Γ',hR,hw'⟩:=hi w' h2
  refine ⟨h1.defers,.tuple #[.agg cs.toArray,v],?_,_,M',Γ',rfl,hR,hw'⟩
  have e1:=h1.get r _ hv
  have e2:=h1.get s _ hs
  simp [results,hr,e1,e2,asAddr,gx h2 hm hag]
 | _=>exact hX.elim

abbrev ints (l : List Int) : List Value:=l.map fun n=>.int .i64 n
def mat (l : List (Nat×List Int)) : List As:=l.map fun p=>.own p.1 3 (ints p.2)
def qz (L : Lm) : Option Operand->Nat->Nat->Prop
 | none,d,k=>k = d
 | some x,_,k=>∃ z,evL L x = some (.int .i64 z)/\z = (k : Int)
theorem run_sliceBound {P : Program} {w : World} {z : Int} {y k : Nat} {c : BoundsCode} (h : z = (k : Int)) (hk : k<=y) : (Instr.sliceBound (.int .i64 z) y c).run P w = .ok k w:=by
 subst h
 simp [Instr.sliceBound,asIntOf,hk]
def s7 (a : Option Addr) (l h m sz : Nat) : Value:=.slice (if m = l then a else a.map (·.add (l * sz))) (h - l) (m - l)
theorem Y.slice {P : Program} {w0 : World} {L : Lm} {M : Mem} {Γ : List As} {d : Option Nat} {ty : TypeId} {pos : String} {af : Array Edge} {g : Option (Nat×Bool)} {x : Operand} {lo hi mx : Option Operand} {t e sz : Nat} {a : Option Addr} {n c : Nat} (l h m : Nat)
  (hx : evL L x = some (.slice a n c)) (hlo : qz L lo 0 l) (hhi : qz L hi n h) (hmx : qz L mx c m) (hb : hi.isSome = true\/mx.isSome = false) (h1 : l<=h) (h2 : h<=m) (h3 : m<=c) (ht : sliceB P t e sz = true) :
  Yq P w0 L M Γ ⟨d,.slice t x lo hi mx,ty,pos,af,g⟩ (s7 a l h m sz):=fun k ac w ha _=>by
 obtain ⟨e1,e2⟩:=kU ht
 have r3:=ia (P:=P) (w:=w) e2
 have key : (Instr.slice t (.slice a n c) (lo.map ac.eval) (hi.map ac.eval) (mx.map ac.eval)).run P w = .ok (s7 a l h m sz) w:=by
  have hl : lo = none/\l = 0\/∃ y z,lo = some y/\ac.eval y = .int .i64 z/\z = (l : Int):=by
   cases lo with
   | none=>exact .inl ⟨rfl,hlo⟩
   | some y=>obtain ⟨z,hz,e⟩:=hlo;exact .inr ⟨y,z,rfl,ha.ev hz,e⟩
  cases mx with
  | none =>
   simp only [qz] at hmx;subst hmx
   cases hi with
   | none =>
    simp only [qz] at hhi;subst hhi
    rcases hl with ⟨rfl,rfl⟩ | ⟨y,z,rfl,hy,hz⟩
    ·simp [Instr.slice,run_underlying e1,Instr.sliceBounds,r3,s7]
    ·simp [Instr.slice,run_underlying e1,Instr.sliceBounds,hy,r3,run_sliceBound hz h1,s7]
   | some y =>
    obtain ⟨z,hz,e⟩:=hhi
    rcases hl with ⟨rfl,rfl⟩ | ⟨y',z',rfl,hy,hz'⟩
    ·simp [Instr.slice,run_underlying e1,Instr.sliceBounds,ha.ev hz,r3,run_sliceBound e h2,s7]
    ·simp [Instr.slice,run_underlying e1,Instr.sliceBounds,ha.ev hz,hy,r3,run_sliceBound e h2,run_sliceBound hz' h1,s7]
  | some u =>
   obtain ⟨z',hz',e'⟩:=hmx
   cases hi with
   | none=>simp at hb
   | some y =>
    obtain ⟨z,hz,e⟩:=hhi
    rcases hl with ⟨rfl,rfl⟩ | ⟨y',z'',rfl,hy,hz''⟩
    ·simp [Instr.slice,run_underlying e1,Instr.sliceBounds,ha.ev hz,ha.ev hz',r3,run_sliceBound e h2,run_sliceBound e' h3,s7]
    ·simp [Instr.slice,run_underlying e1,Instr.sliceBounds,ha.ev hz,ha.ev hz',hy,r3,run_sliceBound e h2,run_sliceBound e' h3,run_sliceBound hz'' h1,s7]
 simp [execOp,ha.ev hx,Instr.sliceAt,run_underlying e1,key]
theorem Rd.cut {M : Mem} {n sz : Nat} {cs : List D} {a : Option Addr} {c : Nat} (hr : Rd M (.sl n sz cs) (.slice a n c)) (l h m : Nat) (h1 : l<=h) (h2 : h<=m) (h3 : m<=c) (h4 : h<=n) :
  Rd M (.sl (h - l) sz ((cs.drop (l * sz)).take ((h - l) * sz))) (s7 a l h m sz):=by
 simp only [Rd] at hr ⊢
 obtain ⟨a',cap,e,k1,k2,k3,k4,k5,k6⟩:=hr
 simp only [Value.slice.injEq] at e
 obtain ⟨rfl,_,rfl⟩:=e
 refine ⟨_,_,rfl,by omega,by omega,by omega,?_,?_,?_⟩
 ·have:=Nat.mul_le_mul_right sz h4
  simp only [List.length_take,List.length_drop,k4,Nat.sub_mul]
  omega
 ·intro hp
  have:=k5 (by omega)
  by_cases hm : m = l
  ·omega
  ·rw [if_neg hm];simpa using this
 ·by_cases hm : m = l
  ·have : h - l = 0:=by omega
   simp [this,RdC]
  ·rw [if_neg hm]
   refine RdC.mk _ 0 fun k d hk=>?_
   have hk' : cs[l * sz+k]? = some d:=by
    rw [List.getElem?_take] at hk
    split at hk
    ·simpa using hk
    ·cases hk
   have hk2 : k < (h - l) * sz:=by
    rw [List.getElem?_take] at hk
    split at hk
    ·assumption
    ·cases hk
   obtain ⟨u,q1,q2⟩:=RdC.get cs 0 k6 _ d hk'
   have hp : 0 < h - l:=by
    rcases Nat.eq_zero_or_pos (h - l) with e | e
    ·rw [e] at hk2;omega
    ·exact e
   have:=k5 (by omega)
   obtain ⟨b,rfl⟩:=Option.isSome_iff_exists.1 this
   refine ⟨u,?_,q2⟩
   rw [Nat.zero_add] at q1 ⊢
   have : adr ((some b).map (·.add (l * sz))) k = adr (some b) (l * sz+k):=by
    have h0 : b.add (l * sz) = adr (some b) (l * sz):=rfl
    show (b.add (l * sz)).add k = _
    rw [h0,cn]
   rw [this]
   exact q1

theorem St.D2 {w0 w : World} {M : Mem} {Γ : List As} {b n cap : Nat} {e : TypeId} {sz : Nat} {cs us : List Value} (hw : St w0 M (.own b e cs::Γ) w) (hl : us.length = n * sz) (hc : cs.length = cap * sz) (ht : cs.take (n * sz) = us) (hn : n<=cap) (hm : cap<=maxLen) :
  St w0 M (.acc (.slice (some ⟨b,0,none⟩) n cap) e sz n us::Γ) w:=by
 have hx:=hw.all _ (List.mem_cons_self ..)
 refine ⟨hw.os,hw.tape,hw.output,hw.size,hw.mem,fun y hy=>?_,by simpa [List.filterMap_cons,As.blk,Value.ownBlock] using hw.nodup⟩
 rcases List.mem_cons.1 hy with rfl | hy
 ·refine ⟨⟨hl,.inr ⟨b,cap,cs.toArray,rfl,Nat.zero_le _,hx.2,hn,hm,by simpa using hc,by simpa using ht⟩⟩,fun k hk=>?_⟩
  simp only [Value.ownBlock,Option.some.injEq] at hk
  subst hk;exact hx.1
 ·exact hw.all y (List.mem_cons_of_mem _ hy)

section
variable {P : Program} {n : Nat} {w0 : World} {ops : Array Oper} {rest : List Oper} {L : Lm} {M : Mem} {Γ : List As} {K : Lm->Mem->List As->Prop} {ty : TypeId} {pos : String} {af : Array Edge} {d : Nat}
theorem RL.fV {dd : D} {u : Value} (hr : Rd M dd u) (h : RL P n w0 ops rest L M (.rd dd u::Γ) K) : RL P n w0 ops rest L M Γ K :=
 h.pre (fun _ _ h=>h) fun _ hw=>hw.add (x:=.rd dd u) hr rfl
theorem RL.gp {u : Value} {e : TypeId} {sz k : Nat} {us : List Value} {ds : List D} {R : List As} (hp : Pick (.acc u e sz k us) Γ R) (hr : RdL M ds us) (hn : k<=lim)
  (h : ∀ M' a c',Sub M M'->u = .slice a k c'->k<=c'->Rd M' (.sl k sz ds) (.slice a k c')->RL P n w0 ops rest L M' (.rd (.sl k sz ds) (.slice a k c')::R) K) : RL P n w0 ops rest L M Γ K:=by
 refine RL.aF (F:=fun M' Γ'=>Sub M M'/\Rd M' (.sl k sz ds) u/\Γ' = .rd (.sl k sz ds) u::R) (fun _ hw=>?_) ?_
 ·obtain ⟨M',h1,h2,h3⟩:=(hw.perm hp.perm).gp hr hn
  exact ⟨M',_,⟨h1,h2,rfl⟩,h3⟩
 ·rintro M' _ ⟨h1,h2,rfl⟩
  obtain ⟨a,c',rfl,h3,_⟩:=h2.slice
  exact h M' a c' h1 rfl h3 h2
end
def Mem.diff (M' M : Mem) : Mem:=fun b=>if (M b).isSome then none else M' b
theorem yO {M : Mem} {b : Nat} {c : Array Value} {e : TypeId} {i : Nat} {v : Value} (hM : M b = some (.cells c e (0,0))) (h : c[i]? = some v) : dD M (adr (some ⟨b,0,none⟩) i) = some v:=by
 rw [cF]
 simp [dD,hM,h]

theorem Rd.ofBlock {M : Mem} {b n cap : Nat} {e : TypeId} {sz : Nat} {cur : Array Value} {us : List Value} {ds : List D} (hM : M b = some (.cells cur e (0,0))) (hr : RdL M ds us) (hl : us.length = n * sz) (hn : n<=lim) (hc : n<=cap) (hm : cap<=maxLen) (ht : cur.toList.take (n * sz) = us) :
  Rd M (.sl n sz ds) (.slice (some ⟨b,0,none⟩) n cap):=by
 simp only [Rd]
 refine ⟨some ⟨b,0,none⟩,cap,rfl,hc,hm,hn,by rw [<-hr.1];exact hl,fun _=>rfl,RdC.mk ds 0 fun k d hk=>?_⟩
 obtain ⟨v,h1,h2⟩:=RdL.get hr hk
 refine ⟨v,?_,h2⟩
 rw [Nat.zero_add]
 apply yO hM
 have hk' : k < n * sz:=by
  rw [<-hl]
  rcases Nat.lt_or_ge k us.length with h | h
  ·exact h
  ·rw [List.getElem?_eq_none h] at h1;cases h1
 rw [<-ht,List.getElem?_take_of_lt hk'] at h1
 simpa using h1

def Mem.less (M : Mem) (bs : List Nat) : Mem:=fun b=>if b∈bs then none else M b
def As.owns : As->Prop
 | .own ..=>True
 | .acc ..=>True
 | _=>False
structure Lent (w0 : World) (M : Mem) (Γs Γ : List As) (M' : Mem) : Prop where
 sub : Sub M M'
 wit : ∃ w,St w0 M (Γs++Γ) w/\∀ x∈Γs,∀ b,x.blk = some b->M' b = w.heap[b]?
 only : ∀ b o,M' b = some o->M b = some o\/b∈Γs.filterMap As.blk

theorem St.lend {w0 w : World} {M : Mem} {Γ : List As} : ∀ (Γs : List As),(∀ x∈Γs,x.owns)->St w0 M (Γs++Γ) w->∃ M',Lent w0 M Γs Γ M'/\St w0 M' Γ w
 | [],_,h=>⟨M,⟨Sub.refl M,⟨w,h,fun x hx=>by simp at hx⟩,fun b o hb=>.inl hb⟩,h⟩
 | x::Γs,ho,h=>by
  have hp : St w0 M (Γs++(x::Γ)) w:=h.perm (List.perm_middle.symm)
  obtain ⟨M1,hl,h1⟩:=St.lend Γs (fun y hy=>ho y (List.mem_cons_of_mem _ hy)) hp
  have hx:=h1.all x (List.mem_cons_self ..)
  cases hb : x.blk with
  | none =>
   refine ⟨M1,⟨hl.sub,⟨w,h,fun y hy b hyb=>?_⟩,fun b o hbo=>?_⟩,h1.sub (List.sublist_cons_self _ _)⟩
   ·rcases List.mem_cons.1 hy with rfl | hy
    ·rw [hb] at hyb;cases hyb
    ·have hblk : b∈Γs.filterMap As.blk:=j5 hy hyb
     have:=h1.mem
     cases hM : M1 b with
     | some o=>exact (h1.mem b o hM).symm
     | none =>
      obtain ⟨w',hw',hw2⟩:=hl.wit
      have e1:=hw2 y hy b hyb
      have e2:=(As.bu (hw'.all y (List.mem_append_left _ hy)) hyb).1
      rw [hM] at e1
      exact absurd e1.symm (by rw [Array.getElem?_eq_getElem e2];simp)
   ·rcases hl.only b o hbo with h2 | h2
    ·exact .inl h2
    ·exact .inr (by simpa [List.filterMap_cons,hb] using h2)
  | some b =>
   have hlt:=(As.bu hx hb)
   obtain ⟨o,ho'⟩ : ∃ o,w.heap[b]? = some o:=⟨_,Array.getElem?_eq_getElem hlt.1⟩
   have h2:=h1.nj (b:=b) (o:=o) hb ho'
   refine ⟨M1.put b o,⟨hl.sub.trans (Mem.nZ hlt.2),⟨w,h,fun y hy c hyc=>?_⟩,fun c o' hc=>?_⟩,h2⟩
   ·rcases List.mem_cons.1 hy with rfl | hy
    ·rw [hb] at hyc;cases hyc
     simp [Mem.put,ho']
    ·obtain ⟨w',hw',hw2⟩:=hl.wit
     have e1:=hw2 y hy c hyc
     have e2:=(As.bu (hw'.all y (List.mem_append_left _ hy)) hyc).1
     cases hM : M1 c with
     | none=>rw [hM] at e1;exact absurd e1.symm (by rw [Array.getElem?_eq_getElem e2];simp)
     | some o2 =>
      have:=Mem.nZ hlt.2 (o:=o) c o2 hM
      rw [this]
      exact (h1.mem c o2 hM).symm
   ·unfold Mem.put at hc
    by_cases e : c = b
    ·right;simp [hb,e]
    ·rw [if_neg e] at hc
     rcases hl.only c o' hc with h3 | h3
     ·exact .inl h3
     ·right;simp only [List.filterMap_cons,hb];exact List.mem_cons_of_mem _ h3

theorem Lent.back {w0 w' : World} {M M1 M2 : Mem} {Γs Γ : List As} (h : Lent w0 M Γs Γ M1) (_ho : ∀ x∈Γs,x.owns) (hs : Sub M1 M2) (hw : St w0 M2 Γ w') :
  Sub M (M2.less (Γs.filterMap As.blk))/\Sub (M2.diff M1) (M2.less (Γs.filterMap As.blk))/\St w0 (M2.less (Γs.filterMap As.blk)) (Γs++Γ) w':=by
 obtain ⟨w,hw1,hl⟩:=h.wit
 have hMs : ∀ x∈Γs,∀ b,x.blk = some b->∃ o,M1 b = some o/\w.heap[b]? = some o:=fun x hx b hb=>by
  have e1:=hl x hx b hb
  have e2:=(As.bu (hw1.all x (List.mem_append_left _ hx)) hb).1
  rw [Array.getElem?_eq_getElem e2] at e1
  exact ⟨_,e1,Array.getElem?_eq_getElem e2⟩
 have hsubM : Sub M (M2.less (Γs.filterMap As.blk)):=fun b o hb=>by
  unfold Mem.less
  rw [if_neg fun hm=>?_]
  ·exact hs b o (h.sub b o hb)
  ·obtain ⟨x,hx,hxb⟩:=List.mem_filterMap.1 hm
   have:=(As.bu (hw1.all x (List.mem_append_left _ hx)) hxb).2
   rw [hb] at this;cases this
 have hle : Sub (M2.less (Γs.filterMap As.blk)) M2:=fun b o hb=>by
  unfold Mem.less at hb
  split at hb
  ·cases hb
  ·exact hb
 refine ⟨hsubM,fun b o hb=>?_,hw.os,hw.tape,hw.output,hw.size,fun b o hb=>hw.mem b o (hle b o hb),fun x hx=>?_,?_⟩
 ·unfold Mem.diff at hb
  split at hb
  ·cases hb
  ·rename_i hn
   unfold Mem.less
   rw [if_neg fun hm=>?_]
   ·exact hb
   ·obtain ⟨x,hx,hxb⟩:=List.mem_filterMap.1 hm
    obtain ⟨o',h1,h2⟩:=hMs x hx b hxb
    simp [h1] at hn
 ·rcases List.mem_append.1 hx with hx | hx
  ·have h0:=hw1.all x (List.mem_append_left _ hx)
   have hk : ∀ b,x.blk = some b->w'.heap[b]? = w.heap[b]?/\M2.less (Γs.filterMap As.blk) b = none:=fun b hb=>by
    obtain ⟨o,h1,h2⟩:=hMs x hx b hb
    refine ⟨by rw [hw.mem b o (hs b o h1),h2],?_⟩
    unfold Mem.less
    rw [if_pos (j5 hx hb)]
   exact As.gX h0 hsubM hk
  ·have h0:=hw1.all x (List.mem_append_right _ hx)
   have h2:=hw.all x hx
   cases x with
   | rd d u=>exact Rd.mono hsubM d u h0
   | rds d u=>exact RdL.mono hsubM h0
   | own b e cs =>
    refine ⟨?_,h2.2⟩
    cases hM : M2.less (Γs.filterMap As.blk) b with
    | none=>rfl
    | some o=>have:=hle b o hM;rw [h2.1] at this;cases this
   | acc u e sz n us =>
    refine ⟨h2.1,fun b hb=>?_⟩
    cases hM : M2.less (Γs.filterMap As.blk) b with
    | none=>rfl
    | some o=>have:=hle b o hM;rw [h2.2 b hb] at this;cases this
   | mp b l =>
    refine ⟨?_,h2.2⟩
    cases hM : M2.less (Γs.filterMap As.blk) b with
    | none=>rfl
    | some o=>have:=hle b o hM;rw [h2.1] at this;cases this
 ·exact hw1.nodup

theorem Lent.acc {w0 : World} {M M' : Mem} {Γs Γ : List As} (h : Lent w0 M Γs Γ M') {u : Value} {n : Nat} {e : TypeId} {sz : Nat} {us : List Value} {ds : List D} (hx : As.acc u e sz n us∈Γs) (hr : RdL M' ds us) (hn : n<=lim) :
  Rd M' (.sl n sz ds) u:=by
 obtain ⟨w,hw,hm⟩:=h.wit
 have h0:=hw.all _ (List.mem_append_left _ hx)
 obtain ⟨⟨hl,hh⟩,_⟩:=h0
 rcases hh with ⟨rfl,rfl⟩ | ⟨b,cap,cur,rfl,_,hb,hnc,hcm,hcs,htk⟩
 ·have hd : ds = []:=by
   have h1:=hr.1
   have : us.length = 0:=by simpa using hl
   rw [this] at h1
   exact List.eq_nil_of_length_eq_zero h1.symm
  subst hd
  simp only [Rd]
  exact ⟨none,0,rfl,Nat.le_refl _,Nat.zero_le _,Nat.zero_le _,by simp,by simp,by simp [RdC]⟩
 ·have h1:=hm _ hx b rfl
  rw [hb] at h1
  exact Rd.ofBlock h1 hr hl hn hnc hcm (by simpa using htk)

theorem St.lQ {w0 w : World} {M : Mem} {Γ : List As} (h : St w0 M Γ w) {a : Option Addr} {n c e sz : Nat} {us : List Value} (hm : As.acc (.slice a n c) e sz n us∈Γ) {q : Nat} {v : Value} (hq : us[q]? = some v) : a.isSome = true/\w.cell? (adr a q) = some v:=by
 obtain ⟨⟨hl,hh⟩,_⟩:=h.all _ hm
 rcases hh with ⟨e1,rfl⟩ | ⟨b,cap,cur,e1,_,hb,hnc,hcm,hcs,htk⟩
 ·have : us = []:=List.eq_nil_of_length_eq_zero (by rw [hl];simp)
  subst this
  simp at hq
 ·simp only [Value.slice.injEq] at e1
  obtain ⟨rfl,_,rfl⟩:=e1
  refine ⟨rfl,?_⟩
  rw [cF]
  have hk' : q < n * sz:=by
   rw [<-hl]
   rcases Nat.lt_or_ge q us.length with h | h
   ·exact h
   ·rw [List.getElem?_eq_none h] at hq;cases hq
  have h2:=hq
  rw [<-htk,List.getElem?_take_of_lt hk'] at h2
  have h3 : cur[q]? = some v:=by simpa using h2
  simp [World.cell?,hb,h3]

section
variable {P : Program} {w0 : World} {L : Lm} {M : Mem} {Γ : List As} {d : Option Nat} {ty : TypeId} {pos : String} {af : Array Edge} {g : Option (Nat×Bool)}
theorem Y.ql {x : Operand} {t : TypeId} {p : Addr} {v : Value} (hx : evL L x = some (.pointer (some p))) (hc : dD M p = some v) (hf : eL P t = true) :
  Yq P w0 L M Γ ⟨d,.load t x,ty,pos,af,g⟩ v:=Y.load hx hf fun _ hw=>hw.cell hc
end

structure KeyOk (P : Program) (kt : TypeId) {κ : Type} [DecidableEq κ] (kv : κ->Value) : Prop where
 kind : ∃ fs,P.underlying kt = some (.struct fs)
 check : ∀ k b w,(Instr.checkKey b 10000 kt (kv k)).run P w = .ok () w
 eq : ∀ k k' w,(Op.equal kt (kv k) (kv k')).run P w = .ok (decide (k = k')) w

variable {P : Program} {κ : Type} [DecidableEq κ] {kv : κ->Value}

def eo (k : κ) : List (κ×Value)->Option Value
 | []=>none
 | p::l=>if k = p.1 then some p.2 else eo k l
abbrev kvs (kv : κ->Value) (l : List (κ×Value)) : List (Value×Value):=l.map fun p=>(kv p.1,p.2)

theorem kW {kt : TypeId} (hK : KeyOk P kt kv) (k : κ) : ∀ (l : List (κ×Value)) (es : List MapEntry) (i : Nat) (w : World),es.map (fun e=>(e.key,e.val)) = kvs kv l ->
  ∃ r : Option (Nat×Value),(Instr.findAsking kt (kv k) es i).run P w = .ok r w/\r.map (·.2) = eo k l
 | [],[],i,w,_=>⟨none,by simp [Instr.findAsking],rfl⟩
 | p::l,e::es,i,w,h=>by
  simp only [kvs,List.map_cons,List.cons.injEq,Prod.mk.injEq] at h
  obtain ⟨⟨h0,h00⟩,ht⟩:=h
  have h1:=hK.eq k p.1 w
  by_cases he : k = p.1
  ·refine ⟨some (i,e.val),?_,by simp [eo,he,h00]⟩
   rw [decide_eq_true he] at h1
   simp only [Instr.findAsking,h0]
   simp [h1]
  ·obtain ⟨r,h2,h3⟩:=kW hK k l es (i+1) w ht
   rw [decide_eq_false he] at h1
   refine ⟨r,?_,by simp only [eo];rw [if_neg he];exact h3⟩
   simp only [Instr.findAsking,h0]
   simp [h1,h2]
 | [],_::_,_,_,h=>by simp [kvs] at h
 | _::_,[],_,_,h=>by simp [kvs] at h
theorem run_findKey {kt : TypeId} (hK : KeyOk P kt kv) (k : κ) (l : List (κ×Value)) (es : List MapEntry) (w : World) (h : es.map (fun e=>(e.key,e.val)) = kvs kv l) :
  ∃ r : Option (Nat×Value),(Instr.findKey kt (kv k) es).run P w = .ok r w/\r.map (·.2) = eo k l:=by
 obtain ⟨fs,hfs⟩:=hK.kind
 obtain ⟨r,h1,h2⟩:=kW hK k l es 0 w h
 cases es with
 | nil =>
  refine ⟨none,by simp [Instr.findKey,run_underlying hfs,Instr.findNow],?_⟩
  cases l with
  | nil=>rfl
  | cons p l=>simp [kvs] at h
 | cons e es =>
  refine ⟨r,?_,h2⟩
  simp [Instr.findKey,run_underlying hfs,Instr.findNow,Instr.sameNow,h1]

def wE (P : Program) (t k e : Nat) : Bool:=match P.underlying t with
 | some (.map k' e')=>Nat.beq k k' && Nat.beq e e'
 | _=>false
theorem me {t k e : Nat} (h : wE P t k e = true) : P.underlying t = some (.map k e):=by
 unfold wE at h
 cases hu : P.underlying t with
 | none=>simp [hu] at h
 | some d =>
  rw [hu] at h
  cases d <;> simp at h
  obtain ⟨h1,h2⟩:=h
  rw [h1,h2]

section
variable {w0 : World} {L : Lm} {M : Mem} {Γ : List As} {d : Option Nat} {ty : TypeId} {pos : String} {af : Array Edge} {g : Option (Nat×Bool)}
theorem rE {w : World} {t kt e b : Nat} {l : List (κ×Value)} {k : κ} {z : Value} (hK : KeyOk P kt kv) (ht : wE P t kt e = true) (hz : eC P e = some z) (hw : St w0 M Γ w) (hm : As.mp b (kvs kv l)∈Γ) (cm : Bool) :
  (Instr.lookup t (.map (some b)) (kv k) cm).run P w = .ok (if cm then .tuple #[(eo k l).getD z,.bool (eo k l).isSome] else (eo k l).getD z) w:=by
 obtain ⟨hM,es,clock,hb,hes⟩:=hw.all _ hm
 obtain ⟨r,h1,h2⟩:=run_findKey hK k l es.toList w hes
 have h3:=fun b=>hK.check k b w
 have h4 : (getObj b).run P w = .ok (.map es clock) w:=MapKept.run_getObj_map hb
 rw [<-h2]
 cases r with
 | none=>cases cm <;> simp [Instr.lookup,run_underlying (me ht),h4,h3,h1,l9 hz]
 | some r=>cases cm <;> simp [Instr.lookup,run_underlying (me ht),h4,h3,h1]
theorem Y.lookup {x y : Operand} {t kt e b : Nat} {l : List (κ×Value)} {k : κ} {z : Value} (hx : evL L x = some (.map (some b))) (hy : evL L y = some (kv k)) (hK : KeyOk P kt kv) (ht : wE P t kt e = true) (hz : eC P e = some z) (hm : As.mp b (kvs kv l)∈Γ) :
  Yq P w0 L M Γ ⟨d,.lookup t x y false,ty,pos,af,g⟩ ((eo k l).getD z):=fun n a w ha hw=>by
 have:=rE (k:=k) hK ht hz hw hm false
 simp only [Bool.false_eq_true,if_false] at this
 simp [execOp,ha.ev hx,ha.ev hy,this]
theorem Y.lookup2 {x y : Operand} {t kt e b : Nat} {l : List (κ×Value)} {k : κ} {z : Value} (hx : evL L x = some (.map (some b))) (hy : evL L y = some (kv k)) (hK : KeyOk P kt kv) (ht : wE P t kt e = true) (hz : eC P e = some z) (hm : As.mp b (kvs kv l)∈Γ) :
  Yq P w0 L M Γ ⟨d,.lookup t x y true,ty,pos,af,g⟩ (.tuple [(eo k l).getD z,.bool (eo k l).isSome].toArray):=fun n a w ha hw=>by
 have:=rE (k:=k) hK ht hz hw hm true
 simp only [if_true] at this
 simp [execOp,ha.ev hx,ha.ev hy,this]
theorem Y.makeFunc {f : FuncId} {first cap : List Operand} {vs us : List Value} (h1 : evs L first = some vs) (h2 : evs L cap = some us) :
  Yq P w0 L M Γ ⟨d,.makeFunc (.func f) first.toArray cap.toArray,ty,pos,af,g⟩ (.func (.func f) vs.toArray us.toArray):=fun n a w ha _=>by
 have e1 : first.toArray.map a.eval = vs.toArray:=by rw [List.map_toArray,ha.evs h1]
 have e2 : cap.toArray.map a.eval = us.toArray:=by rw [List.map_toArray,ha.evs h2]
 simp [execOp,Instr.makeFunc,e1,e2]
end

section
variable {n : Nat} {w0 : World} {ops : Array Oper} {rest : List Oper} {L : Lm} {M : Mem} {Γ : List As} {K : Lm->Mem->List As->Prop} {ty : TypeId} {pos : String} {af : Array Edge} {d : Nat}
theorem St.newMap {w : World} (h : St w0 M Γ w) : St w0 M (.mp w.heap.size []::Γ) { w with heap:=w.heap.push (.map #[] 0) }:=by
 have hold : ∀ b,b < w.heap.size->(w.heap.push (.map #[] 0))[b]? = w.heap[b]?:=fun b hb=>by
  rw [Array.getElem?_push,if_neg (by omega)]
 refine ⟨h.os,h.tape,h.output,by simp;have:=h.size;omega,fun b o hb=>?_,fun x hx=>?_,?_⟩
 ·rw [hold b (h.lt hb)];exact h.mem b o hb
 ·rcases List.mem_cons.1 hx with rfl | hx
  ·exact ⟨h.fresh,#[],0,by simp,rfl⟩
  ·exact As.gX (h.all x hx) (Sub.refl M) fun b hb=>⟨hold b (As.bu (h.all x hx) hb).1,(As.bu (h.all x hx) hb).2⟩
 ·simp only [List.filterMap_cons,As.blk]
  refine List.nodup_cons.2 ⟨fun hm=>?_,h.nodup⟩
  obtain ⟨x,hx,hb⟩:=List.mem_filterMap.1 hm
  have:=(As.bu (h.all x hx) hb).1
  omega
end
section
variable {n : Nat} {w0 : World} {ops : Array Oper} {rest : List Oper} {L : Lm} {M : Mem} {Γ : List As} {K : Lm->Mem->List As->Prop} {ty : TypeId} {pos : String} {af : Array Edge} {d : Nat}
end
theorem az.front {w0 : World} {M : Mem} {Γ R : List As} {x : As} {F : Mem->List As->Prop} (hp : Pick x Γ R) (h : az w0 M (x::R) F) : az w0 M Γ F:=fun w hw=>h w (hw.perm hp.perm)
def arrB (P : Program) (t n e sz : Nat) : Bool:=(match P.underlying t with
 | some (.array n' e')=>Nat.beq n n' && Nat.beq e e'
 | _=>false) && eV P e sz && Nat.blt 1 n
theorem Dg {t n e sz : Nat} (h : arrB P t n e sz = true) : P.underlying t = some (.array n e)/\eV P e sz = true/\1 < n:=by
 unfold arrB at h
 simp only [Bool.and_eq_true] at h
 obtain ⟨⟨h1,h2⟩,h3⟩:=h
 refine ⟨?_,h2,by simpa [Nat.blt_eq] using h3⟩
 cases hu : P.underlying t with
 | none=>simp [hu] at h1
 | some d =>
  rw [hu] at h1
  cases d <;> simp at h1
  obtain ⟨h4,h5⟩:=h1
  rw [h4,h5]
theorem Y.E4 {w0 : World} {L : Lm} {M : Mem} {Γ : List As} {d : Option Nat} {ty : TypeId} {pos : String} {af : Array Edge} {g : Option (Nat×Bool)} {x i : Operand} {t e sz n : Nat} {a : Option Addr} {q : Nat} {ik : IntKind} {z : Int} (k : Nat) (hx : evL L x = some (.pointer (some (adr a q)))) (hi : evL L i = some (.int ik z)) (hz : z = (k : Int)) (hk : k < n)
  (ht : arrB P t n e sz = true) : Yq P w0 L M Γ ⟨d,.indexAddr t x i,ty,pos,af,g⟩ (.pointer (some (adr a (q+k * sz)))):=fun m ac w ha hw=>by
 subst hz
 obtain ⟨h1,h2,h3⟩:=Dg ht
 simp [execOp,ha.ev hx,ha.ev hi,Instr.indexAt,asIntOf,run_underlying h1,ia h2,hk,cn,Instr.sureAddr]
theorem CW.ju {n : Nat} {w0 : World} {L : Lm} {M : Mem} {Γ : List As} {id : Nat} {X : Pst} {l : List Oper} (s : Nat) (v : Value) (h : RL P n w0 l.toArray l L M Γ (fun L1 M1 Γ1=>cR L1 s = some v/\cj L1 L/\∀ w,St w0 M1 Γ1 w->St w0 M Γ w)) (k : X .normal ((s,v)::L) M Γ) : CW P n w0 (.region id l.toArray false) X L M Γ :=
 CW.regionM ((s,v)::L) (fun R hR=>h R fun L1 M1 Γ1 hX=>hR L1 M1 Γ1 ⟨cj.cons s hX.1 hX.2.1,hX.2.2⟩) k
theorem gl {L : Lm} {s : Nat} {u v : Value} (h : cR L s = some u) (e : u = v) : cR L s = some v:=by rw [h,e]
theorem Y.eqlBB {w0 : World} {L : Lm} {M : Mem} {Γ : List As} {d : Option Nat} {ty : TypeId} {pos : String} {af : Array Edge} {g : Option (Nat×Bool)} {x y : Operand} {p q : Bool} {t : TypeId} (ht : P.underlying t = some .bool) (hx : evL L x = some (.bool p)) (hy : evL L y = some (.bool q)) :
  Yq P w0 L M Γ ⟨d,.binOp .eql t x y t,ty,pos,af,g⟩ (.bool (p == q)):=fun n a w ha _=>by
 simp only [execOp,ha.ev hx,ha.ev hy]
 have h : ∀ b c : Bool,(Op.equalIn 10000 t (.bool b) (.bool c)).run P w = .ok (b == c) w:=fun b c=>run_equalIn_bool w 9999 t b c ht
 cases p <;> cases q <;> simp [eqGuard,Go.binOp,Op.equal,Op.maxDepth,h]
theorem fR {x : Bool} {p : Prop} [Decidable p] (h : x = true↔p) : Value.bool x = Value.bool (decide p):=by
 by_cases hp : p
 ·rw [h.2 hp,decide_eq_true hp]
 ·rw [decide_eq_false hp];cases x
  ·rfl
  ·exact absurd (h.1 rfl) hp
theorem Y.neqD {w0 : World} {L : Lm} {M : Mem} {Γ : List As} {d : Option Nat} {ty : TypeId} {pos : String} {af : Array Edge} {g : Option (Nat×Bool)} {x y : Operand} {p q : Prop} [Decidable p] [Decidable q] {t : TypeId} (ht : P.underlying t = some .bool) (hx : evL L x = some (.bool (decide p))) (hy : evL L y = some (.bool (decide q))) :
  Yq P w0 L M Γ ⟨d,.binOp .neq t x y t,ty,pos,af,g⟩ (.bool (decide (¬ (p↔q)))):=fun n a w ha _=>by
 simp only [execOp,ha.ev hx,ha.ev hy]
 have h : ∀ b c : Bool,(Op.equalIn 10000 t (.bool b) (.bool c)).run P w = .ok (b == c) w:=fun b c=>run_equalIn_bool w 9999 t b c ht
 by_cases h1 : p <;> by_cases h2 : q <;> simp [h1,h2,eqGuard,Go.binOp,Op.equal,Op.maxDepth,h]
section
end
end Xe

namespace Xe
open Go

def InI (n : Int) : Prop:=-9223372036854775808<=n/\n<=9223372036854775807
abbrev Is (M : Mem) (Γ : List As) (v : Value) : Post:=fun u M' Γ'=>u = v/\M' = M/\Γ' = Γ
abbrev oV (M : Mem) (Γ : List As) (R : Mem->Value->Prop) : Post:=fun u M' Γ'=>Sub M M'/\Γ' = Γ/\R M' u

abbrev av (n : Int) : Value:=.int .i64 n
abbrev an (n : Int) : D:=.v (.int .i64 n)

section
variable {α : Type} {enc : α->List D} {sz : Nat}
theorem aS (h : ∀ x,(enc x).length = sz) : ∀ (xs : List α) (k : Nat) (x : α),xs[k]? = some x->((xs.flatMap enc).drop (k * sz)).take sz = enc x
 | [],k,x,hk=>by simp at hk
 | y::ys,0,x,hk=>by
  simp only [List.getElem?_cons_zero,Option.some.injEq] at hk
  subst hk
  simp [List.flatMap_cons,List.take_append_of_le_length (Nat.le_of_eq (h y).symm),List.take_of_length_le (Nat.le_of_eq (h y))]
 | y::ys,k+1,x,hk=>by
  have hk' : ys[k]? = some x:=by simpa using hk
  rw [List.flatMap_cons,Nat.succ_mul,Nat.add_comm,<-List.drop_drop,List.drop_append_of_le_length (Nat.le_of_eq (h y).symm),List.drop_of_length_le (Nat.le_of_eq (h y)),List.nil_append]
  exact aS h ys k x hk'
theorem oH (h : ∀ x,(enc x).length = sz) (xs : List α) (k : Nat) (x : α) (hk : xs[k]? = some x) (j : Nat) (d : D) (hd : (enc x)[j]? = some d) : (xs.flatMap enc)[k * sz+j]? = some d :=
 iV (aS h xs k x hk) hd
end

def aK (l : List Int) : D:=.sl l.length 1 (l.map an)
structure IdT where
 shop : Int
 seq : Int
 index : Int
 deriving DecidableEq,Repr,Inhabited
def IdT.vals (x : IdT) : List Value:=[av x.shop,av x.seq,av x.index]
def IdT.enc (x : IdT) : List D:=[an x.shop,an x.seq,an x.index]

inductive Ty where
 | mk (kind : Int) (df : IdT) (kids : List Ty)
 deriving Inhabited
def Ty.kind : Ty->Int | .mk k _ _=>k
def Ty.df : Ty->IdT | .mk _ d _=>d
def Ty.kids : Ty->List Ty | .mk _ _ l=>l
mutual
def Ty.enc : Ty->List D
 | .mk k d l=>[an k,an d.shop,an d.seq,an d.index,.sl l.length 5 (Ty.jB l)]
def Ty.jB : List Ty->List D
 | []=>[]
 | t::ts=>t.enc++Ty.jB ts
end
theorem Ty.jd : ∀ l : List Ty,Ty.jB l = l.flatMap Ty.enc
 | []=>by simp [Ty.jB]
 | t::ts=>by rw [Ty.jB,Ty.jd ts,List.flatMap_cons]
theorem Ty.ay (t : Ty) : t.enc = [an t.kind,an t.df.shop,an t.df.seq,an t.df.index,.sl t.kids.length 5 (t.kids.flatMap Ty.enc)]:=by
 cases t;rw [Ty.enc,Ty.jd];rfl
theorem Ty.aq (t : Ty) : t.enc.length = 5:=by rw [Ty.ay];rfl
mutual
def Ty.size : Ty->Nat
 | .mk _ _ l=>1+Ty.sizes l
def Ty.sizes : List Ty->Nat
 | []=>0
 | t::ts=>t.size+Ty.sizes ts
end
theorem Ty.bW : ∀ {l : List Ty} {t : Ty},t∈l->t.size<=Ty.sizes l
 | x::xs,t,h=>by
  rw [Ty.sizes]
  rcases List.mem_cons.1 h with rfl | h
  ·omega
  ·have:=Ty.bW h;omega
theorem Ty.dy {t k : Ty} (h : k∈t.kids) : k.size < t.size:=by
 cases t with
 | mk a b l=>have:=Ty.bW (l:=l) h;rw [Ty.size];omega

mutual
def Ty.beq : Ty->Ty->Bool
 | .mk a b l,.mk c d m=>decide (a = c) && decide (b = d) && Ty.AD l m
def Ty.AD : List Ty->List Ty->Bool
 | [],[]=>true
 | x::xs,y::ys=>x.beq y && Ty.AD xs ys
 | [],_::_=>false
 | _::_,[]=>false
end
mutual
theorem Ty.beq_iff : ∀ a b : Ty,a.beq b = true↔a = b
 | .mk a b l,.mk c d m=>by
  simp only [Ty.beq,Bool.and_eq_true,decide_eq_true_eq,Ty.mk.injEq,Ty.yU l m,and_assoc]
theorem Ty.yU : ∀ a b : List Ty,Ty.AD a b = true↔a = b
 | [],[]=>by simp [Ty.AD]
 | x::xs,y::ys=>by simp only [Ty.AD,Bool.and_eq_true,List.cons.injEq,Ty.beq_iff x y,Ty.yU xs ys]
 | [],_::_=>by simp [Ty.AD]
 | _::_,[]=>by simp [Ty.AD]
end
instance : DecidableEq Ty:=fun a b=>decidable_of_iff (a.beq b = true) (Ty.beq_iff a b)
inductive Ex where
 | mk (id : IdT) (kind n : Int) (ref : IdT) (ty : Ty) (kids : List Ex) (names : List ByteArray)
 deriving Inhabited
def Ex.id : Ex->IdT | .mk i _ _ _ _ _ _=>i
def Ex.kind : Ex->Int | .mk _ k _ _ _ _ _=>k
def Ex.n : Ex->Int | .mk _ _ n _ _ _ _=>n
def Ex.ref : Ex->IdT | .mk _ _ _ r _ _ _=>r
def Ex.ty : Ex->Ty | .mk _ _ _ _ t _ _=>t
def Ex.kids : Ex->List Ex | .mk _ _ _ _ _ l _=>l
def Ex.names : Ex->List ByteArray | .mk _ _ _ _ _ _ s=>s
def eP (s : ByteArray) : D:=.v (.string s)
def BG (l : List ByteArray) : D:=.sl l.length 1 (l.map eP)
mutual
def Ex.enc : Ex->List D
 | .mk i k n r t l s=>[an i.shop,an i.seq,an i.index,an k,an n,an r.shop,an r.seq,an r.index,an t.kind,an t.df.shop,an t.df.seq,an t.df.index,.sl t.kids.length 5 (t.kids.flatMap Ty.enc),.sl l.length 15 (Ex.jB l),BG s]
def Ex.jB : List Ex->List D
 | []=>[]
 | t::ts=>t.enc++Ex.jB ts
end
theorem Ex.jd : ∀ l : List Ex,Ex.jB l = l.flatMap Ex.enc
 | []=>by simp [Ex.jB]
 | t::ts=>by rw [Ex.jB,Ex.jd ts,List.flatMap_cons]
theorem Ex.ay (e : Ex) : e.enc = [an e.id.shop,an e.id.seq,an e.id.index,an e.kind,an e.n,an e.ref.shop,an e.ref.seq,an e.ref.index,an e.ty.kind,an e.ty.df.shop,an e.ty.df.seq,an e.ty.df.index,
  .sl e.ty.kids.length 5 (e.ty.kids.flatMap Ty.enc),.sl e.kids.length 15 (e.kids.flatMap Ex.enc),.sl e.names.length 1 (e.names.map eP)]:=by
 cases e;rw [Ex.enc,Ex.jd];rfl
theorem Ex.aq (e : Ex) : e.enc.length = 15:=by rw [Ex.ay];rfl
mutual
def Ex.size : Ex->Nat
 | .mk _ _ _ _ _ l _=>1+Ex.sizes l
def Ex.sizes : List Ex->Nat
 | []=>0
 | t::ts=>t.size+Ex.sizes ts
end
theorem Ex.size_eq (e : Ex) : e.size = 1+Ex.sizes e.kids:=by cases e;rw [Ex.size];rfl
theorem Ex.bW : ∀ {l : List Ex} {t : Ex},t∈l->t.size<=Ex.sizes l
 | x::xs,t,h=>by
  rw [Ex.sizes]
  rcases List.mem_cons.1 h with rfl | h
  ·omega
  ·have:=Ex.bW h;omega
theorem Ex.dy {e k : Ex} (h : k∈e.kids) : k.size < e.size:=by
 have:=Ex.bW h;rw [Ex.size_eq e];omega
theorem Ex.fe : ∀ (l : List Ex) (k : Nat),Ex.sizes (l.take k)<=Ex.sizes l
 | [],k=>by simp
 | x::xs,0=>by simp [Ex.sizes]
 | x::xs,k+1=>by have:=Ex.fe xs k;simp only [List.take_succ_cons,Ex.sizes];omega
theorem Ex.eM : ∀ (l m : List Ex),Ex.sizes (l++m) = Ex.sizes l+Ex.sizes m
 | [],m=>by simp [Ex.sizes]
 | x::xs,m=>by have:=Ex.eM xs m;simp only [List.cons_append,Ex.sizes];omega
theorem Ex.iA (l : List Ex) (k : Nat) (h : k < l.length) : Ex.sizes (l.take (k+1)) = Ex.sizes (l.take k)+l[k].size:=by
 rw [List.take_succ_eq_append_getElem h,Ex.eM];simp [Ex.sizes]
def Ex.like (a b : Ex) : Prop:=a.kind = b.kind/\a.n = b.n/\a.ref = b.ref/\a.ty = b.ty
instance (a b : Ex) : Decidable (a.like b):=by unfold Ex.like;exact inferInstance
def around (n m : Int) : Int:=(if n < 0 then -(n+1) else n) % m
theorem Dh (n m : Int) (_hm : 1<=m) : around n m = (if n < 0 then -(n+1) else n).tmod m:=by
 unfold around
 rw [Int.tmod_eq_emod_of_nonneg]
 split <;> omega
theorem ig (n m : Int) (hm : 1<=m) : 0<=around n m/\around n m < m:=by
 unfold around
 exact ⟨Int.emod_nonneg _ (by omega),Int.emod_lt_of_pos _ (by omega)⟩
def atL (l : List Int) (i most : Int) : Int:=if i < 0\/(l.length : Int)<=i then 0 else around (l.getD i.toNat 0) most
structure MNode where
 e : Ex
 first : Nat
 deriving Inhabited
def MNode.enc (x : MNode) : List D:=x.e.enc++[an x.first]
structure RNode where
 e : Ex
 first : Nat
 level : Nat
 deriving Inhabited
def RNode.enc (x : RNode) : List D:=x.e.enc++[an x.first,an x.level]
def MNode.jB (l : List MNode) : D:=.sl l.length 16 (l.flatMap MNode.enc)
def RNode.jB (l : List RNode) : D:=.sl l.length 17 (l.flatMap RNode.enc)

structure PairD where
 frm : IdT
 to : IdT
 deriving DecidableEq,Inhabited,Repr
def PairD.enc (p : PairD) : List D:=[an p.frm.shop,an p.frm.seq,an p.frm.index,an p.to.shop,an p.to.seq,an p.to.index]
def PairD.vals (p : PairD) : List Value:=[av p.frm.shop,av p.frm.seq,av p.frm.index,av p.to.shop,av p.to.seq,av p.to.index]
def PairD.jB (l : List PairD) : D:=.sl l.length 6 (l.flatMap PairD.enc)
theorem F9 {α : Type} {l : List α} {p : α->Prop} {k : Nat} (hT : ∀ j (hj : j < l.length),j < k->p l[j]) (hk : k < l.length) (h2 : p l[k]) : ∀ j (hj : j < l.length),j < k+1->p l[j]:=by
 intro j hj hlt
 by_cases h : j < k
 ·exact hT j hj h
 ·obtain rfl : j = k:=by omega
  exact h2

def RNode.vals (us : List Value) (first level : Nat) : List Value:=us++[av first,av level]
theorem Rd.wu {M : Mem} {sz : Nat} : Rd M (.sl 0 sz []) (.slice none 0 0):=by
 simp only [Rd]
 exact ⟨none,0,rfl,Nat.le_refl _,Nat.zero_le _,Nat.zero_le _,by simp,by simp,by simp [RdC]⟩
def evenT (a : List (List Int)) : Prop:=a ≠ []/\∀ r∈a,r.length = (a.headD []).length/\r.length ≠ 0
instance (a : List (List Int)) : Decidable (evenT a):=by unfold evenT;exact inferInstance
def id0 : IdT:=⟨0,0,0⟩
def ty0 : Ty:=.mk 0 id0 []
theorem Rd.i {M : Mem} (n : Int) : Rd M (an n) (av n):=by
 simp [Rd,Value.oneCell']
theorem cC (l : List Int) (i m : Int) (hm : 1<=m) : 0<=atL l i m/\atL l i m < m:=by
 unfold atL
 split
 ·omega
 ·exact ig _ _ hm
theorem Rd.str {M : Mem} (s : ByteArray) : Rd M (eP s) (.string s):=by
 simp [eP,Rd,Value.oneCell']
abbrev rows (l : List (Nat×List Int)) : List (List Int):=l.map (·.2)

section
variable {P : Program} {n : Nat} {w0 : World} {X : Pst} {L : Lm} {M : Mem} {Γ : List As} {c : Code}
end
section
variable {P : Program} {n : Nat} {w0 : World} {ops : Array Oper} {Mc : Mem} {Γc : List As} {fuel : Nat} {listed : Array Bool} {L : Lm} {M : Mem} {Γ : List As} {K : Lm->Mem->List As->Prop}
end
open Go Go.ChangeShapes Go.WideShapes Go.RowKit
abbrev dW (W : World) : Mem:=fun b=>W.heap[b]?
theorem Dy (W : World) : St W (dW W) [] W:=⟨rfl,rfl,rfl,Nat.le_refl _,fun _ _ h=>h,fun _ h=>by simp at h,by simp⟩
theorem FY {W w' : World} (h : St W (dW W) [] w') : Below W.heap.size W w' :=
 ⟨h.os,h.tape,h.output,h.size,fun k hk=>by
  have e : dW W k = some W.heap[k]:=Array.getElem?_eq_getElem hk
  rw [h.mem k _ e];exact e.symm⟩
theorem qt (W : World) (p : Addr) : dD (dW W) p = W.cell? p:=by
 unfold dD World.cell? dW
 cases W.heap[p.block]? with
 | none=>rfl
 | some o=>cases o <;> rfl

section
variable {H : Type} {enc : TypeId×Value->H} {P : Program} {W : World}

theorem inI_of {n : Int} (h : (Lit.int .i64 n).wf = true) : InI n:=by
 simp only [Lit.wf,Bool.and_eq_true,decide_eq_true_eq] at h
 unfold InI
 have h1 : IntKind.i64.min = -9223372036854775808:=by decide
 have h2 : IntKind.i64.max = 9223372036854775807:=by decide
 omega

theorem zF {f : Func} {s : ChangeSpec} {apart fresh handsOn again : Bool} {W' : World} {args : Array Value} {v : Value} {ds gs : List (DataW H)} {before pa pv : List MemPlace}
  (hW : DataW.Whole enc P f.params.toList s.vars apart W args.toList ds gs before)
  (hres : ∀ (b : Nat) (sp : Nat->Bool) (hd : Bool),DataW.TrodAll enc P W' b sp hd f.resultTypes.toList (v.resultList f.resultTypes.size) (s.fn H (ds++gs)).results [])
  (hargs : ∀ sp : Nat->Bool,(∀ p∈before,sp p.block = true)->DataW.TrodAll enc P W' 0 sp true f.params.toList args.toList (s.fn H (ds++gs)).args pa)
  (hvars : ∀ sp : Nat->Bool,(∀ p∈before,sp p.block = true)->DataW.TrodVars enc P W' sp s.vars (s.fn H (ds++gs)).vars pv)
  (hps : before = pa++pv) (hb : Below W.heap.size W W')
  (hok : ∀ (j : Nat) (t : TypeId) (r : Value),f.resultTypes[j]? = some t->(v.resultList f.resultTypes.size)[j]? = some r->Value.okWide P W' .any 0 t r) :
  s.post enc P f apart fresh handsOn again W args v W':=by
 have hlt : ∀ p∈before,p.block < W.heap.size:=fun p hp=>hW.lt p hp
 have hold : ∀ p∈before,(fun b=>decide (b < W.heap.size)) p.block = true:=fun p hp=>by simpa using hlt p hp
 refine ⟨ds,gs,before,[],pa,pv,hW,hres _ _ _,hargs _ hold,hvars _ hold,World.keptBut_mono (fun p hp=>⟨hp,?_⟩) (hb.frame (·∈before)),fun _=>?_⟩
 ·rw [hps,List.mem_append] at hp
  exact Or.inr hp
 ·obtain ⟨_,_,_,_,_,hz,hn⟩:=hW
  refine ⟨hok,_,_,([]++pa)++pv,⟨[]++pa,pv,trodAll_append (hargs _ (fun _ _=>rfl)) (hres _ _ _),hvars _ (fun _ _=>rfl),rfl,?_,?_⟩,?_⟩
  ·intro b off hp
   have hin : MemPlace.cell b off∈before:=by rw [hps];simpa using hp
   rw [hb.frozen (hlt _ hin)]
   exact hz b off hin
  ·intro ha
   have:=hn ha
   rw [hps] at this
   simpa using this
  ·intro p hp _
   rw [hps]
   simpa using hp
end

section
variable {w0 w : World} {M : Mem} {Γ : List As}
theorem St.xg {a : Option Addr} {n c e sz k : Nat} {us : List Value} (hw : St w0 M (.acc (.slice a n c) e sz n us::Γ) w) (hk : k<=n) : St w0 M (.acc (.slice a k c) e sz k (us.take (k * sz))::Γ) w:=by
 have hx:=hw.all _ (List.mem_cons_self ..)
 have hob : (Value.slice a k c).ownBlock = (Value.slice a n c).ownBlock:=by cases a <;> rfl
 refine ⟨hw.os,hw.tape,hw.output,hw.size,hw.mem,fun y hy0=>?_,by have:=hw.nodup;simp only [List.filterMap_cons,As.blk] at this ⊢;rw [hob];exact this⟩
 rcases List.mem_cons.1 hy0 with rfl | hy
 ·obtain ⟨⟨hl,hh⟩,hM⟩:=hx
  refine ⟨⟨?_,?_⟩,fun b hb=>hM b (by rw [<-hob];exact hb)⟩
  ·rw [List.length_take,hl]
   exact Nat.min_eq_left (Nat.mul_le_mul_right _ hk)
  ·rcases hh with ⟨e1,e2⟩ | ⟨b,cap,cur,e1,g,hb,hnc,hcm,hcs,htk⟩
   ·simp only [Value.slice.injEq] at e1
    obtain ⟨rfl,rfl,rfl⟩:=e1
    obtain rfl : k = 0:=by omega
    exact .inl ⟨rfl,rfl⟩
   ·simp only [Value.slice.injEq] at e1
    obtain ⟨rfl,_,rfl⟩:=e1
    refine .inr ⟨b,c,cur,rfl,g,hb,by omega,hcm,hcs,?_⟩
    rw [<-htk,List.take_take,Nat.min_eq_left (Nat.mul_le_mul_right _ hk)]
 ·exact hw.all y (List.mem_cons_of_mem _ hy)
theorem cut0 (a : Option Addr) (h m sz : Nat) : s7 a 0 h m sz = .slice a h m:=by
 unfold s7
 rw [Nat.zero_mul,Nat.sub_zero,Nat.sub_zero]
 cases a with
 | none=>split <;> rfl
 | some x=>split <;> simp [Addr.add]
theorem St.setAcc {a : Option Addr} {n c e sz q : Nat} {us : List Value} {v : Value} (hw : St w0 M (.acc (.slice a n c) e sz n us::Γ) w) (hq : q < us.length) :
  St w0 M (.acc (.slice a n c) e sz n (us.set q v)::Γ) (w.setCell (adr a q) v)/\(w.cell? (adr a q)).isSome = true/\w.frozen? (adr a q) = false:=by
 have hx:=hw.all _ (List.mem_cons_self ..)
 obtain ⟨⟨hl,hh⟩,hM⟩:=hx
 rcases hh with ⟨e1,e2⟩ | ⟨b,cap,cur,e1,g,hb,hnc,hcm,hcs,htk⟩
 ·simp only [Value.slice.injEq] at e1
  obtain ⟨rfl,rfl,rfl⟩:=e1
  simp at hl;subst hl;simp at hq
 ·simp only [Value.slice.injEq] at e1
  obtain ⟨rfl,_,rfl⟩:=e1
  have hlt : b < w.heap.size:=(Array.getElem?_eq_some_iff.1 hb).1
  have hbe : w.heap[b] = .cells cur e (0,0):=(Array.getElem?_eq_some_iff.1 hb).2
  have hqc : q < cur.size:=by
   have : n * sz<=c * sz:=Nat.mul_le_mul_right _ hnc
   omega
  have hset : w.setCell (adr (some ⟨b,0,none⟩) q) v = { w with heap:=w.heap.setIfInBounds b (.cells (cur.setIfInBounds q v) e (0,0)) }:=by
   rw [cF]
   simp only [World.setCell]
   congr 1
   apply Array.ext
   ·simp
   ·intro i h1 h2
    by_cases hi : b = i
    ·subst hi
     simp [Array.getElem_modify,hbe]
    ·rw [Array.getElem_modify,if_neg hi,Array.getElem_setIfInBounds_ne (by simpa using h1) hi]
  refine ⟨?_,by rw [cF];simp [World.cell?,hb,hqc],by rw [cF];simp [World.frozen?,hb]⟩
  rw [hset]
  have hne : ∀ k,k ≠ b->(w.heap.setIfInBounds b (.cells (cur.setIfInBounds q v) e (0,0)))[k]? = w.heap[k]?:=fun k hk=>Array.getElem?_setIfInBounds_ne (by omega)
  have hnd:=hw.nodup
  simp only [List.filterMap_cons,As.blk,Value.ownBlock] at hnd
  refine ⟨hw.os,hw.tape,hw.output,by simp;exact hw.size,fun k o hk=>?_,fun y hy0=>?_,by simpa [List.filterMap_cons,As.blk,Value.ownBlock] using hw.nodup⟩
  ·rw [hne k (fun e'=>by subst e';rw [hM _ rfl] at hk;cases hk)];exact hw.mem k o hk
  ·rcases List.mem_cons.1 hy0 with rfl | hy
   ·refine ⟨⟨by simpa using hl,.inr ⟨b,c,cur.setIfInBounds q v,rfl,g,by simp [hlt],hnc,hcm,by simpa using hcs,?_⟩⟩,hM⟩
    rw [Array.toList_setIfInBounds,List.take_set,htk]
   ·have hy':=hw.all y (List.mem_cons_of_mem _ hy)
    refine As.gX hy' (Sub.refl M) fun k hk=>⟨hne k fun e'=>?_,(As.bu hy' hk).2⟩
    subst e'
    exact (List.nodup_cons.1 hnd).1 (j5 hy hk)
end

section
variable {P : Program} {n : Nat} {w0 : World} {ops : Array Oper} {rest : List Oper} {L : Lm} {M : Mem} {Γ : List As} {K : Lm->Mem->List As->Prop} {ty : TypeId} {pos : String} {af : Array Edge} {d : Nat}
theorem RL.xg {a : Option Addr} {m c e sz k : Nat} {us : List Value} (hk : k<=m) (h : RL P n w0 ops rest L M (.acc (.slice a k c) e sz k (us.take (k * sz))::Γ) K) : RL P n w0 ops rest L M (.acc (.slice a m c) e sz m us::Γ) K :=
 h.pre (fun _ _ h=>h) fun _ hw=>hw.xg hk
end

theorem Y.DD {P : Program} {w0 : World} {L : Lm} {M : Mem} {Γ : List As} {d : Option Nat} {ty : TypeId} {pos : String} {af : Array Edge} {g : Option (Nat×Bool)} {x : Operand} {hi mx : Option Operand} {t e sz : Nat} {a : Option Addr} {n c : Nat} (h m : Nat)
  (hx : evL L x = some (.slice a n c)) (hhi : qz L hi n h) (hmx : qz L mx c m) (hb : hi.isSome = true\/mx.isSome = false) (h2 : h<=m) (h3 : m<=c) (ht : sliceB P t e sz = true) :
  Yq P w0 L M Γ ⟨d,.slice t x none hi mx,ty,pos,af,g⟩ (.slice a h m):=by
 have:=Y.slice (P:=P) (w0:=w0) (M:=M) (Γ:=Γ) (d:=d) (ty:=ty) (pos:=pos) (af:=af) (g:=g) (lo:=none) 0 h m hx rfl hhi hmx hb (Nat.zero_le _) h2 h3 ht
 rwa [cut0] at this
abbrev PPost:=List PanicEntry->Mem->List As->Prop
def EndP (w0 : World) (R : Post) (G : PPost) (e : Ending) (w' : World) : Prop :=
 (∃ v M Γ,e = .returned v/\R v M Γ/\St w0 M Γ w')\/(∃ ch M Γ,e = .panicked ch/\G ch M Γ/\St w0 M Γ w')
def bn (P : Program) (w0 : World) (M : Mem) (Γ : List As) (f : FuncId) (args : Array Value) (R : Post) (G : PPost) : Prop :=
 ∀ w,St w0 M Γ w->Calls P f args w (EndP w0 R G)
theorem bn.pick {P : Program} {w0 : World} {M : Mem} {Γ R : List As} {x : As} {f : FuncId} {args : Array Value} {F : Post} {G : PPost} (hp : Pick x Γ R) (h : bn P w0 M (x::R) f args F G) : bn P w0 M Γ f args F G :=
 fun w hw=>h w (hw.perm hp.perm)

theorem rm {P : Program} {o : Oper} {a : Act} {K : Act->World->Prop} {R : Act->World->Prop} {Q : Exit->Act->World->Prop} {r : Result Next} (h : o.upon P a K (Norm R) r) : o.upon P a K Q r:=by
 cases r with
 | ok x w =>
  cases x <;> simp only [Oper.upon] at h ⊢ <;> first | exact h | (refine h.mono fun e w'' he=>?_;cases e <;> first | exact he | exact he.elim | (obtain ⟨a,w,hf⟩:=he;exact hf.elim))
 | halt x w=>cases x <;> simp only [Oper.upon] at h ⊢ <;> first | exact h | exact h.elim

def RX (P : Program) (n : Nat) (w0 : World) (ops : Array Oper) (rest : List Oper) (L : Lm) (M : Mem) (Γ : List As) (X : Pst) : Prop :=
 ∀ a w,Sat n L a->St w0 M Γ w->wpList P ops (Real n w0 X) rest a w
section
variable {P : Program} {n : Nat} {w0 : World} {ops : Array Oper} {rest : List Oper} {L : Lm} {M : Mem} {Γ : List As} {X : Pst}
theorem CW.eO {id : Nat} {l : List Oper} (h : RX P n w0 l.toArray l L M Γ X) : CW P n w0 (.region id l.toArray false) X L M Γ :=
 fun a w ha hw=>wp_region_lit (h a w ha hw)
theorem RX.step {o : Oper} (h : RL P n w0 ops [o] L M Γ fun L' M' Γ'=>RX P n w0 ops rest L' M' Γ' X) : RX P n w0 ops (o::rest) L M Γ X:=by
 intro a w ha hw
 have h1:=h (Norm fun a w=>wpList P ops (Real n w0 X) rest a w) (fun L' M' Γ' hK a' w' ha' hw'=>hK a' w' ha' hw') a w ha hw
 unfold wpList at h1 ⊢
 split
 ·rename_i hwt
  rw [if_pos hwt] at h1
  rcases h1 with h1 | ⟨_,a,w,hf⟩
  ·exact .inl (rm h1)
  ·exact hf.elim
 ·rename_i hwt
  rw [if_neg hwt] at h1
  exact h1
theorem RX.of (h : RL P n w0 ops rest L M Γ (X .normal)) : RX P n w0 ops rest L M Γ X :=
 fun a w ha hw=>h _ (fun L M Γ hX _ _ ha hw=>⟨L,M,Γ,hX,ha,hw⟩) a w ha hw
theorem RX.c {op : Op} {ty : TypeId} {pos : String} {after : Array Edge} {g : Option (Nat×Bool)} {d : Nat} {f : FuncId} {args : Array Value} {R : Post} {G : PPost} (hg : Want ops L ⟨some d,op,ty,pos,after,g⟩ true)
  (hy : ∀ n a w,Sat n L a->(execOp a.eval ⟨some d,op,ty,pos,after,g⟩).run P w = .ok (.enter f args) w) (hd : Nat.blt d n = true)
  (hc : bn P w0 M Γ f args R G) (h : ∀ v M' Γ',R v M' Γ'->RX P n w0 ops rest ((d,v)::L) M' Γ' X) (hp : ∀ ch M' Γ',G ch M' Γ'->X (.panic ch) L M' Γ') : RX P n w0 ops (⟨some d,op,ty,pos,after,g⟩::rest) L M Γ X:=by
 intro a w ha hw
 unfold wpList
 rw [if_pos (hg.spec ha)]
 refine .inl ?_
 unfold Oper.wp
 rw [hy n a w ha]
 refine (hc w hw).mono ?_
 rintro e w' (⟨v,M',Γ',rfl,hF,hw'⟩ | ⟨ch,M',Γ',rfl,hG,hw'⟩)
 ·exact h v M' Γ' hF _ _ (ha.put hd) hw'
 ·exact ⟨L,M',Γ',hp ch M' Γ' hG,ha,hw'⟩
variable {ty : TypeId} {pos : String} {af : Array Edge} {d : Nat}
theorem RX.call {g : Option (Nat×Bool)} {f : FuncId} {xs : List Operand} {ts : Array TypeId} {vs : List Value} {F : Post} {G : PPost} (hg : Want ops L ⟨some d,.call ⟨.value (.func f),xs.toArray,ts⟩,ty,pos,af,g⟩ true) (hf : bC P f = true) (hx : evs L xs = some vs) (hd : Nat.blt d n = true)
  (hc : bn P w0 M Γ f vs.toArray F G) (h : ∀ v M' Γ',F v M' Γ'->RX P n w0 ops rest ((d,v)::L) M' Γ' X) (hp : ∀ ch M' Γ',G ch M' Γ'->X (.panic ch) L M' Γ') :
  RX P n w0 ops (⟨some d,.call ⟨.value (.func f),xs.toArray,ts⟩,ty,pos,af,g⟩::rest) L M Γ X:=RX.c hg (iM hf hx) hd hc h hp
theorem RX.callf {g : Option (Nat×Bool)} {f : FuncId} {y : Operand} {first captured : Array Value} {xs : List Operand} {ts : Array TypeId} {vs : List Value} {F : Post} {G : PPost} (hg : Want ops L ⟨some d,.call ⟨.value y,xs.toArray,ts⟩,ty,pos,af,g⟩ true) (hf : bC P f = true) (hy : evL L y = some (.func (.func f) first captured)) (hx : evs L xs = some vs) (hd : Nat.blt d n = true)
  (hc : bn P w0 M Γ f (first++vs.toArray++captured) F G) (h : ∀ v M' Γ',F v M' Γ'->RX P n w0 ops rest ((d,v)::L) M' Γ' X) (hp : ∀ ch M' Γ',G ch M' Γ'->X (.panic ch) L M' Γ') :
  RX P n w0 ops (⟨some d,.call ⟨.value y,xs.toArray,ts⟩,ty,pos,af,g⟩::rest) L M Γ X:=RX.c hg (th hf hy hx) hd hc h hp
theorem RX.halt {o : Oper} {v : Value} (hg : Want ops L o true) (hy : ∀ n a w,Sat n L a->St w0 M Γ w->(execOp a.eval o).run P w = .halt (.panic v) w) (hp : X (.panic [{ v,recovered:=false }]) L M Γ) : RX P n w0 ops (o::rest) L M Γ X:=by
 intro a w ha hw
 unfold wpList
 rw [if_pos (hg.spec ha)]
 refine .inl ?_
 unfold Oper.wp
 rw [hy n a w ha hw]
 exact ⟨L,M,Γ,hp,ha,hw⟩
end
def endXP (w0 : World) (r : Nat) (R : Post) (G : PPost) : Pst
 | .panic ch,_,M,Γ=>az w0 M Γ (G ch)
 | e,L,M,Γ=>endX w0 r R e L M Γ
theorem enterP {P : Program} {f : FuncId} {fn : Func} {c : Code} {args : List Value} {w0 : World} {M : Mem} {Γ : List As} {R : Post} {G : PPost} {r n : Nat}
  (hf : P.funcs[f]? = some fn) (hb : fn.body = some c) (hn : fn.ntmps = n) (hr : fn.results = #[.tmp r]) (ha : Nat.ble args.length n = true)
  (h : ∀ w1,St w0 M Γ w1->CW P n w0 c (endXP w0 r R G) (slotsOf 0 args) M Γ) : bn P w0 M Γ f args.toArray R G:=by
 intro w hw
 refine calls_of_wp hf hb ?_
 rw [hn]
 refine wp_mono (h w hw _ w (fE n args ha) hw) ?_
 rintro e a w' ⟨L,M1,Γ1,hX,h1,h2⟩
 cases e with
 | normal | ret =>
  obtain ⟨v,hv,hi⟩:=hX
  obtain ⟨M',Γ',hR,hw'⟩:=hi w' h2
  refine ⟨h1.defers,v,?_,.inl ⟨v,M',Γ',rfl,hR,hw'⟩⟩
  have:=h1.get r v hv
  simp [results,hr,this]
 | panic ch =>
  obtain ⟨M',Γ',hG,hw'⟩:=hX w' h2
  exact ⟨h1.defers,.inr ⟨ch,M',Γ',rfl,hG,hw'⟩⟩
 | _=>exact hX.elim
theorem gk {P : Program} {f : FuncId} {fn : Func} {c : Code} {args : List Value} {w0 : World} {M : Mem} {Γ : List As} {R : Post} {G : PPost} {r n : Nat} {t : TypeId}
  (hf : P.funcs[f]? = some fn) (hb : fn.body = some c) (hn : fn.ntmps = n) (hr : fn.results = #[.cell r t]) (ha : Nat.ble args.length n = true)
  (h : ∀ w1,St w0 M Γ w1->CW P n w0 c (fun e L M Γ=>match e with
   | .ret | .normal=>aC P w0 r t L M Γ R
   | .panic ch=>az w0 M Γ (G ch)
   | _=>False) (slotsOf 0 args) M Γ) : bn P w0 M Γ f args.toArray R G:=by
 intro w hw
 refine calls_of_wp hf hb ?_
 rw [hn]
 refine wp_mono (h w hw _ w (fE n args ha) hw) ?_
 rintro e a w' ⟨L,M1,Γ1,hX,h1,h2⟩
 cases e with
 | normal | ret =>
  obtain ⟨b,e,cs,hv,hm,hag,hi⟩:=hX
  obtain ⟨M',Γ',hR,hw'⟩:=hi w' h2
  refine ⟨h1.defers,.agg cs.toArray,?_,.inl ⟨_,M',Γ',rfl,hR,hw'⟩⟩
  have e1:=h1.get r _ hv
  simp [results,hr,e1,asAddr,gx h2 hm hag]
 | panic ch =>
  obtain ⟨M',Γ',hG,hw'⟩:=hX w' h2
  exact ⟨h1.defers,.inr ⟨ch,M',Γ',rfl,hG,hw'⟩⟩
 | _=>exact hX.elim
def eB (D : List Deferred) (a : Act) : Act:={ a with defers:=a.defers++D }
theorem ij (D : List Deferred) (a : Act) : (eB D a).eval = a.eval:=by funext x;cases x <;> rfl
theorem oU (D : List Deferred) (a : Act) (d : Option Nat) (v : Value) : (eB D a).put d v = eB D (a.put d v):=by cases d <;> rfl
theorem pZ {P : Program} {o : Oper} {D : List Deferred} {a : Act} {K K' : Act->World->Prop} {Q Q' : Exit->Act->World->Prop} (hK : ∀ a w,K a w->K' (eB D a) w) (hQ : ∀ e a w,Q e a w->Q' e (eB D a) w) {r : Result Next} (h : o.upon P a K Q r) : o.upon P (eB D a) K' Q' r:=by
 have hl : LetsOut Q->LetsOut Q':=fun ⟨a,w,h⟩=>⟨_,w,hQ _ _ _ h⟩
 have hp : ∀ v w,K (a.put o.dst v) w->K' ((eB D a).put o.dst v) w:=fun v w h=>by rw [oU];exact hK _ _ h
 cases r with
 | ok x w =>
  cases x with
  | value v=>exact hp _ _ h
  | skip=>exact hp _ _ h
  | enter f args =>
   refine Calls.mono (show Calls P f args w _ from h) fun e w'' he=>?_
   cases e with
   | returned v=>exact hp _ _ he
   | panicked ch=>exact hQ _ _ _ he
   | outgrown=>exact hl he
  | row r args=>exact Rows.mono (show Rows P r args w _ from h) fun v w'' he=>hp _ _ he
  | defer d =>
   have e : ({ eB D a with defers:=d::(eB D a).defers } : Act).put o.dst undef = eB D (({ a with defers:=d::a.defers } : Act).put o.dst undef):=by cases o.dst <;> rfl
   show K' (({ eB D a with defers:=d::(eB D a).defers } : Act).put o.dst undef) w
   rw [e]
   exact hK _ _ h
  | _=>first | exact h | exact h.elim
 | halt x w=>cases x <;> simp only [Oper.upon] at h ⊢ <;> first | exact h | exact hQ _ _ _ h | exact h.elim
theorem kN {P : Program} {ops : Array Oper} {D : List Deferred} {Q Q' : Exit->Act->World->Prop} (hQ : ∀ e a w,Q e a w->Q' e (eB D a) w) : ∀ (rest : List Oper) (a : Act) (w : World),wpList P ops Q rest a w->wpList P ops Q' rest (eB D a) w
 | [],a,w,h=>hQ _ _ _ h
 | o::rest,a,w,h=>by
  have hl : LetsOut Q->LetsOut Q':=fun ⟨a,w,h⟩=>⟨_,w,hQ _ _ _ h⟩
  unfold wpList at h ⊢
  have ht : (eB D a).tmps = a.tmps:=rfl
  rw [ht]
  split
  ·rename_i hw
   rw [if_pos hw] at h
   refine h.imp (fun h=>?_) (fun h=>⟨?_,hl h.2⟩)
   ·unfold Oper.wp at h ⊢
    rw [ij]
    exact pZ (fun a w h=>kN hQ rest a w h) hQ h
   ·have:=h.1
    unfold Oper.asks at this ⊢
    rw [ij]
    exact this
  ·rename_i hw
   rw [if_neg hw] at h
   rw [oU]
   exact kN hQ rest _ w h

abbrev DPst:=List Deferred->Pst
def BW (n : Nat) (w0 : World) (X : DPst) (e : Exit) (a : Act) (w : World) : Prop:=∃ D a0,a = eB D a0/\Real n w0 (X D) e a0 w
def CWD (P : Program) (n : Nat) (w0 : World) (c : Code) (X : DPst) (D : List Deferred) (L : Lm) (M : Mem) (Γ : List As) : Prop :=
 ∀ a w,Sat n L a->St w0 M Γ w->c.wp P (BW n w0 X) (eB D a) w
def RD (P : Program) (n : Nat) (w0 : World) (ops : Array Oper) (rest : List Oper) (D : List Deferred) (L : Lm) (M : Mem) (Γ : List As) (X : DPst) : Prop :=
 ∀ a w,Sat n L a->St w0 M Γ w->wpList P ops (BW n w0 X) rest (eB D a) w
section
variable {P : Program} {n : Nat} {w0 : World} {X : DPst} {D : List Deferred} {L : Lm} {M : Mem} {Γ : List As} {ops : Array Oper} {rest : List Oper}
theorem CWD.seq {c1 c2 : Code} (h : ∀ K : List Deferred->Lm->Mem->List As->Prop,(∀ D L M Γ,CWD P n w0 c2 X D L M Γ->K D L M Γ)->CWD P n w0 c1 (fun D=>AU (K D) (X D)) D L M Γ) : CWD P n w0 (.seq c1 c2) X D L M Γ:=by
 intro a w ha hw
 refine wp_seq (wp_mono (h (fun D L M Γ=>CWD P n w0 c2 X D L M Γ) (fun _ _ _ _ h=>h) a w ha hw) ?_)
 rintro e a' w ⟨D',a0,rfl,L,M,Γ,hX,h1,h2⟩
 cases e <;> first | exact hX a0 w h1 h2 | exact ⟨D',a0,rfl,L,M,Γ,hX,h1,h2⟩
theorem CWD.ret (h : X D .ret L M Γ) : CWD P n w0 .ret X D L M Γ:=fun a _ ha hw=>wp_ret ⟨D,a,rfl,L,M,Γ,h,ha,hw⟩
theorem CWD.keep {c : Code} {L' : Lm} (hL : cj L L') (h : CWD P n w0 c X D L' M Γ) : CWD P n w0 c X D L M Γ:=fun a w ha hw=>h a w (ha.keep hL) hw
theorem CWD.region {id : Nat} {l : List Oper} (h : RD P n w0 l.toArray l D L M Γ X) : CWD P n w0 (.region id l.toArray false) X D L M Γ :=
 fun a w ha hw=>wp_region_lit (h a w ha hw)
theorem RD.of (h : RX P n w0 ops rest L M Γ (X D)) : RD P n w0 ops rest D L M Γ X :=
 fun a w ha hw=>kN (fun _ a _ h=>⟨D,a,rfl,h⟩) rest a w (h a w ha hw)
theorem RD.step {o : Oper} (h : RL P n w0 ops [o] L M Γ fun L' M' Γ'=>RD P n w0 ops rest D L' M' Γ' X) : RD P n w0 ops (o::rest) D L M Γ X:=by
 intro a w ha hw
 have h1:=h (Norm fun a w=>wpList P ops (BW n w0 X) rest (eB D a) w) (fun L' M' Γ' hK a' w' ha' hw'=>hK a' w' ha' hw') a w ha hw
 unfold wpList at h1 ⊢
 have ht : (eB D a).tmps = a.tmps:=rfl
 rw [ht]
 split
 ·rename_i hwt
  rw [if_pos hwt] at h1
  rcases h1 with h1 | ⟨_,a,w,hf⟩
  ·refine .inl ?_
   unfold Oper.wp at h1 ⊢
   rw [ij]
   exact pZ (Q:=Norm fun _ _=>False) (fun a w h=>h) (fun e a w h=>by cases e <;> exact h.elim) (tW h1)
  ·exact hf.elim
 ·rename_i hwt
  rw [if_neg hwt] at h1
  rw [oU]
  exact h1
theorem RD.defer0 {o : Oper} {d : Deferred} (hg : Want ops L o true) (hd : o.dst = none) (hy : ∀ n a w,Sat n L a->St w0 M Γ w->(execOp a.eval o).run P w = .ok (.defer d) w) (h : RD P n w0 ops rest (d::D) L M Γ X) : RD P n w0 ops (o::rest) D L M Γ X:=by
 intro a w ha hw
 unfold wpList
 have ht' : (eB D a).tmps = a.tmps:=rfl
 rw [ht',if_pos (hg.spec ha)]
 refine .inl ?_
 unfold Oper.wp
 rw [ij,hy n a w ha hw]
 have e : ({ eB D a with defers:=d::(eB D a).defers } : Act).put o.dst undef = eB (d::D) a:=by
  rw [hd]
  have:=ha.defers
  show ({ tmps:=a.tmps,defers:=d::(a.defers++D) } : Act) = { tmps:=a.tmps,defers:=a.defers++d::D }
  rw [this];rfl
 show wpList P ops (BW n w0 X) rest (({ eB D a with defers:=d::(eB D a).defers } : Act).put o.dst undef) w
 rw [e]
 exact h _ _ ha hw
theorem RD.done (h : X D .normal L M Γ) : RD P n w0 ops [] D L M Γ X:=fun a _ ha hw=>⟨D,a,rfl,L,M,Γ,h,ha,hw⟩
end
theorem enterD {P : Program} {f : FuncId} {fn : Func} {c : Code} {args : List Value} {w0 : World} {M : Mem} {Γ : List As} {n : Nat} {R : Ending->World->Prop} {X : DPst}
  (hf : P.funcs[f]? = some fn) (hb : fn.body = some c) (hn : fn.ntmps = n) (ha : Nat.ble args.length n = true)
  (h : CWD P n w0 c X [] (slotsOf 0 args) M Γ)
  (hr : ∀ D L M' Γ' tmps w',(∀ t v,cR L t = some v->tmps[t]? = some v)->St w0 M' Γ' w'->(X D .normal L M' Γ'\/X D .ret L M' Γ')->Leaves P fn tmps R D .returning w')
  (hp : ∀ D L M' Γ' tmps w' ch,(∀ t v,cR L t = some v->tmps[t]? = some v)->St w0 M' Γ' w'->X D (.panic ch) L M' Γ'->Leaves P fn tmps R D (.panicking ch) w')
  (ho : ∀ D e L M' Γ',X D e L M' Γ'->e = .normal\/e = .ret\/∃ ch,e = .panic ch) : ∀ w,St w0 M Γ w->Calls P f args.toArray w R:=by
 intro w hw
 refine calls_of_wp_defers hf hb ?_
 rw [hn]
 refine wp_mono (h _ w (fE n args ha) hw) ?_
 rintro e a' w' ⟨D,a0,rfl,L,M1,Γ1,hX,h1,h2⟩
 have hd : (eB D a0).defers = D:=by show a0.defers++D = D;rw [h1.defers];rfl
 rcases ho D e L M1 Γ1 hX with rfl | rfl | ⟨ch,rfl⟩
 ·show Leaves P fn a0.tmps R (eB D a0).defers .returning w'
  rw [hd];exact hr D L M1 Γ1 _ w' h1.get h2 (.inl hX)
 ·show Leaves P fn a0.tmps R (eB D a0).defers .returning w'
  rw [hd];exact hr D L M1 Γ1 _ w' h1.get h2 (.inr hX)
 ·show Leaves P fn a0.tmps R (eB D a0).defers (.panicking ch) w'
  rw [hd];exact hp D L M1 Γ1 _ w' ch h1.get h2 hX
def WT (P : Program) : Nat->TypeId->List D->Prop
 | 0,_,_=>False
 | n+1,t,ds=>match P.underlying t with
  | some .bool=>∃ b,ds = [.v (.bool b)]
  | some (.int k)=>∃ z,ds = [.v (.int k z)]/\(Lit.int k z).wf = true
  | some .string=>∃ s : ByteArray,ds = [.v (.string s)]/\s.size<=lim
  | some (.slice e)=>∃ els : List (List D),ds = [.sl els.length (P.cellsOf e) els.flatten]/\els.length<=lim/\∀ x∈els,WT P n e x
  | some (.struct fs)=>ds.length = P.cellsOf t/\∀ f∈fs.toList,WT P n f.type ((ds.drop f.offset).take (P.cellsOf f.type))
  | some (.array m e)=>ds.length = P.cellsOf t/\∀ i,i < m->WT P n e ((ds.drop (i * P.cellsOf e)).take (P.cellsOf e))
  | _=>False

mutual
def bulkD : D->Nat
 | .v _=>1
 | .sl _ _ cs=>1+dO cs
def dO : List D->Nat
 | []=>0
 | d::ds=>bulkD d+dO ds
end
theorem jl : ∀ (a b : List D),dO (a++b) = dO a+dO b
 | [],b=>by simp [dO]
 | x::xs,b=>by have:=jl xs b;simp only [List.cons_append,dO];omega
structure BulkOk {H : Type} (bulk : DataW H->Nat) : Prop where
 lit : ∀ l,1<=bulk (.lit l)
 nil : 1<=bulk .nil
 slice : ∀ els sp,(els.map bulk).sum+1<=bulk (.slice els sp)
 agg : ∀ ps,(ps.map bulk).sum<=bulk (.agg ps)
def mu (P : Program) : Nat->List Field->Nat->Bool
 | off,[],tot=>Nat.beq off tot
 | off,f::fs,tot=>Nat.beq f.offset off && mu P (off+P.cellsOf f.type) fs tot
theorem vi {P : Program} : ∀ {fs : List Field} {off tot : Nat},mu P off fs tot = true->off<=tot/\∀ f∈fs,off<=f.offset
 | [],off,tot,h=>⟨Nat.le_of_eq (Nat.eq_of_beq_eq_true h),fun f hf=>by simp at hf⟩
 | g::fs,off,tot,h=>by
  simp only [mu,Bool.and_eq_true] at h
  obtain ⟨h1,h2⟩:=vi h.2
  have h0:=Nat.eq_of_beq_eq_true h.1
  refine ⟨by omega,fun f hf=>?_⟩
  rcases List.mem_cons.1 hf with rfl | hf
  ·omega
  ·have:=h2 f hf;omega

def q5 (P : Program) (ts : List TypeId) : Bool:=ts.all fun t=>match P.underlying t with
 | some .bool=>true
 | some (.int _)=>true
 | some .string=>true
 | some (.slice e)=>ts.contains e && Nat.blt 0 (P.bytesOf e)
 | some (.struct fs)=>mu P 0 fs.toList (P.cellsOf t) && fs.toList.all fun f=>ts.contains f.type
 | some (.array m e)=>Nat.beq (P.cellsOf t) (m * P.cellsOf e) && ts.contains e
 | _=>false

theorem RdL.cut {M : Mem} {ds : List D} {us : List Value} (h : RdL M ds us) (q n : Nat) : RdL M ((ds.drop q).take n) ((us.drop q).take n):=by
 refine ⟨by simp [h.1],fun k d u h1 h2=>?_⟩
 have hk : k < n:=by
  rcases Nat.lt_or_ge k n with h | h
  ·exact h
  ·rw [List.getElem?_eq_none (by simp;omega)] at h1;cases h1
 rw [List.getElem?_take_of_lt hk,List.getElem?_drop] at h1 h2
 exact h.2 _ _ _ h1 h2

theorem ir {H : Type} {P : Program} {e : TypeId} {d : DataW H} : ∀ {l : List (DataW H)},d∈l->∀ n∈d.weights P e,n∈DataW.weightsAll P e l
 | x::xs,hd,n,hn=>by
  rw [DataW.weightsAll,List.mem_append]
  rcases List.mem_cons.1 hd with rfl | hd
  ·exact .inl hn
  ·exact .inr (ir hd n hn)

theorem glueF {M : Mem} {P : Program} (F : Field->List D->Prop) : ∀ (fs : List Field) (bs : List Nat) (off : Nat) (cs : List Value),mu P off fs (off+cs.length) = true->bs.length = fs.length ->
  (∀ (i : Nat) (f : Field) (b : Nat),fs[i]? = some f->bs[i]? = some b->∃ ds,RdL M ds ((cs.drop (f.offset - off)).take (P.cellsOf f.type))/\F f ds/\dO ds<=b)->∃ ds,RdL M ds cs/\(∀ f∈fs,F f ((ds.drop (f.offset - off)).take (P.cellsOf f.type)))/\dO ds<=bs.sum:=by
 intro fs
 induction fs with
 | nil =>
  intro bs off cs h _ _
  have:=Nat.eq_of_beq_eq_true h
  have : cs = []:=List.eq_nil_of_length_eq_zero (by omega)
  subst this
  exact ⟨[],RdL.nil M,fun f hf=>by simp at hf,by simp [dO]⟩
 | cons g fs ih =>
  intro bs off cs h hbl hf
  simp only [mu,Bool.and_eq_true] at h
  have h0:=Nat.eq_of_beq_eq_true h.1
  have h1:=vi h.2
  obtain ⟨b0,bs,rfl⟩ : ∃ b0 bs',bs = b0::bs':=by
   cases bs with
   | nil=>simp at hbl
   | cons b0 bs'=>exact ⟨b0,bs',rfl⟩
  obtain ⟨d0,r0,f0,q0⟩:=hf 0 g b0 rfl rfl
  rw [h0,Nat.sub_self,List.drop_zero] at r0
  have hd0 : d0.length = P.cellsOf g.type:=by rw [<-r0.1,List.length_take];omega
  obtain ⟨ds,r1,f1,q1⟩:=ih bs (off+P.cellsOf g.type) (cs.drop (P.cellsOf g.type)) (by rw [List.length_drop,show off+P.cellsOf g.type+(cs.length - P.cellsOf g.type) = off+cs.length from by omega];exact h.2) (by simpa using hbl) fun i f b hfi hbi=>by
   obtain ⟨ds,r,ff,q⟩:=hf (i+1) f b (by simpa using hfi) (by simpa using hbi)
   have:=h1.2 f (List.mem_of_getElem? hfi)
   refine ⟨ds,?_,ff,q⟩
   rw [List.drop_drop]
   rwa [show P.cellsOf g.type+(f.offset - (off+P.cellsOf g.type)) = f.offset - off from by omega]
  refine ⟨d0++ds,?_,fun f hfm=>?_,by rw [jl,List.sum_cons];omega⟩
  ·have:=r0.append r1
   rwa [List.take_append_drop] at this
  ·rcases List.mem_cons.1 hfm with rfl | hfm
   ·rw [h0,Nat.sub_self,List.drop_zero,<-hd0,List.take_left]
    exact f0
   ·have:=h1.2 f hfm
    have e:=f1 f hfm
    rw [List.drop_append,List.drop_of_length_le (by omega),List.nil_append,hd0,show f.offset - off - P.cellsOf g.type = f.offset - (off+P.cellsOf g.type) from by omega]
    exact e

theorem sE : ∀ (l : List (List D)) (sz i : Nat) (hi : i < l.length),(∀ x∈l,x.length = sz)->((l.flatten.drop (i * sz)).take sz) = l[i]
 | x::xs,sz,0,_,h=>by
  have:=h x (List.mem_cons_self ..)
  simp [<-this]
 | x::xs,sz,i+1,hi,h=>by
  have h0:=h x (List.mem_cons_self ..)
  have e : (x++xs.flatten).drop sz = xs.flatten:=by rw [<-h0];exact List.drop_left
  rw [List.flatten_cons,Nat.succ_mul,Nat.add_comm,<-List.drop_drop,e,List.getElem_cons_succ]
  exact sE xs sz i (by simpa using hi) fun y hy=>h y (List.mem_cons_of_mem _ hy)

section
variable {H : Type} {enc : TypeId×Value->H} {P : Program} {W : World}

theorem glue {M : Mem} (sz : Nat) (F : List D->Prop) : ∀ (bs : List Nat) (cs : List Value),cs.length = bs.length * sz->(∀ (i : Nat) (b : Nat),bs[i]? = some b->∃ ds,RdL M ds ((cs.drop (i * sz)).take sz)/\F ds/\dO ds<=b) ->
  ∃ els : List (List D),els.length = bs.length/\RdL M els.flatten cs/\(∀ x∈els,F x)/\(∀ x∈els,x.length = sz)/\dO els.flatten<=bs.sum:=by
 intro bs
 induction bs with
 | nil =>
  intro cs hl _
  have : cs = []:=List.eq_nil_of_length_eq_zero (by simpa using hl)
  subst this
  exact ⟨[],rfl,RdL.nil M,fun x hx=>by simp at hx,fun x hx=>by simp at hx,by simp [dO]⟩
 | cons b0 bs ih =>
  intro cs hl h
  have hls : sz<=cs.length:=by rw [hl,List.length_cons,Nat.succ_mul];omega
  obtain ⟨d0,r0,f0,q0⟩:=h 0 b0 rfl
  simp only [Nat.zero_mul,List.drop_zero] at r0
  obtain ⟨els,h1,h2,h3,h4,h5⟩:=ih (cs.drop sz) (by rw [List.length_drop,hl,List.length_cons,Nat.succ_mul];omega) fun i b hi=>by
   obtain ⟨ds,r,f,q⟩:=h (i+1) b (by simpa using hi)
   refine ⟨ds,?_,f,q⟩
   rw [List.drop_drop]
   rwa [show sz+i * sz = (i+1) * sz from by rw [Nat.succ_mul];omega]
  refine ⟨d0::els,by simp [h1],?_,fun x hx=>?_,fun x hx=>?_,by rw [List.flatten_cons,jl,List.sum_cons];omega⟩
  ·have:=r0.append h2
   rwa [List.take_append_drop] at this
  ·rcases List.mem_cons.1 hx with rfl | hx
   ·exact f0
   ·exact h3 x hx
  ·rcases List.mem_cons.1 hx with rfl | hx
   ·rw [<-r0.1,List.length_take];omega
   ·exact h4 x hx

theorem qn {sz : Nat} : ∀ {els : List (List D)},(∀ x∈els,x.length = sz)->els.flatten.length = els.length * sz
 | [],_=>by simp
 | x::xs,h=>by
  rw [List.flatten_cons,List.length_append,h x (List.mem_cons_self ..),qn fun y hy=>h y (List.mem_cons_of_mem _ hy),List.length_cons,Nat.succ_mul,Nat.add_comm]

theorem xU {ts : List TypeId} {bulk : DataW H->Nat} (hbk : BulkOk bulk) (hcl : q5 P ts = true) : ∀ (n : Nat) (t : TypeId) (cs : List Value) (x : DataW H×List MemPlace),t∈ts ->
  DataW.trod enc P W 0 (fun _=>true) true n t cs = some x->(∀ k∈x.1.weights P t,k<=reachBytes)->∃ ds,RdL (dW W) ds cs/\WT P n t ds/\dO ds<=bulk x.1:=by
 intro n
 induction n with
 | zero=>intro t cs x _ h;simp [DataW.trod] at h
 | succ n ih =>
  intro t cs x ht h hw
  have hc:=List.all_eq_true.1 hcl t ht
  cases hu : P.underlying t with
  | none=>simp [hu] at hc
  | some u =>
   rw [hu] at hc
   cases u with
   | bool =>
    obtain ⟨b,rfl,rfl⟩:=DataW.trod_bool hu h
    exact ⟨[.v (.bool b)],RdL.cons (by simp [Rd,Value.oneCell']) (RdL.nil _),by simp [WT,hu],hbk.lit _⟩
   | int k =>
    obtain ⟨z,rfl,rfl,hz⟩:=DataW.trod_int hu h
    exact ⟨[.v (.int k z)],RdL.cons (by simp [Rd,Value.oneCell']) (RdL.nil _),by simp [WT,hu,hz],hbk.lit _⟩
   | string =>
    obtain ⟨s,rfl,rfl,hs⟩:=DataW.trod_string hu h
    refine ⟨[.v (.string s)],RdL.cons (by simp [Rd,Value.oneCell']) (RdL.nil _),?_,hbk.lit _⟩
    have:=hw s.data.toList.length (by rw [DataW.weights];exact List.mem_singleton.2 rfl)
    have h5:=reachBytes_lt
    have hsz : s.data.toList.length = s.size:=by rw [Array.length_toList];rfl
    simp only [WT,hu]
    exact ⟨s,rfl,by unfold lim;omega⟩
   | slice e =>
    simp only [Bool.and_eq_true,List.contains_iff_mem] at hc
    obtain ⟨he,hb⟩:=hc
    have hb : 0 < P.bytesOf e:=by simpa [Nat.blt_eq] using hb
    rcases DataW.trod_slice hu h with ⟨rfl,rfl⟩ | ⟨a,len,cap,elems,rest,n',hn,rfl,rfl,_,hl,hm,hlen,hel,_,_⟩
    ·refine ⟨[.sl 0 (P.cellsOf e) []],RdL.cons Rd.wu (RdL.nil _),?_,hbk.nil⟩
     simp only [WT,hu]
     exact ⟨[],rfl,Nat.zero_le _,fun x hx=>by simp at hx⟩
    ·obtain rfl : n' = n:=by omega
     have hwl : len<=lim:=by
      have:=hw ((elems.map (·.1)).length+(rest.map (·.1)).length |> (· * P.bytesOf e)) (by simp [DataW.weights,hu])
      have h5:=reachBytes_lt
      have h6 : len<=((elems.map (·.1)).length+(rest.map (·.1)).length) * P.bytesOf e:=Nat.le_trans (by simp [hlen]) (Nat.le_mul_of_pos_right _ hb)
      simp only at this
      unfold lim;omega
     have each : ∀ i,(hi : i < len)->∃ cs' ds,W.cells? 0 (a.add (i * P.cellsOf e)) (P.cellsOf e) = some cs'/\RdL (dW W) ds cs'/\WT P n' e ds/\dO ds<=bulk (elems[i]'(by omega)).1:=fun i hi=>by
      have h1:=hel i hi
      have h2 : i < elems.length:=by omega
      rw [List.getElem?_eq_getElem h2,Option.bind_eq_some_iff] at h1
      obtain ⟨cs',h3,h4⟩:=h1
      obtain ⟨ds,h5,h6,h7⟩:=ih e cs' _ he h4 fun k hk=>hw k (by
       simp only [DataW.weights,hu,List.mem_cons,List.mem_append]
       exact .inr (.inl (ir (List.mem_map.2 ⟨_,List.getElem_mem h2,rfl⟩) k hk)))
      exact ⟨cs',ds,h3,h5,h6,h7⟩
     have hcell : ∀ q,q < len * P.cellsOf e->∃ u,W.cell? (a.add q) = some u:=fun q hq=>by
      have hp : 0 < P.cellsOf e:=by
       rcases Nat.eq_zero_or_pos (P.cellsOf e) with h | h
       ·rw [h] at hq;omega
       ·exact h
      have hi : q / P.cellsOf e < len:=Nat.div_lt_of_lt_mul (by rw [Nat.mul_comm];exact hq)
      obtain ⟨cs',ds,h1,_,_,_⟩:=each _ hi
      obtain ⟨_,h2,h3⟩:=World.cells?_some h1
      have hr : q % P.cellsOf e < P.cellsOf e:=Nat.mod_lt _ hp
      have h4:=h3 _ hr
      rw [show (a.add (q / P.cellsOf e * P.cellsOf e)).add (q % P.cellsOf e) = a.add q from by
       have e1 : q / P.cellsOf e * P.cellsOf e+q % P.cellsOf e = q:=by rw [Nat.mul_comm];exact Nat.div_add_mod q _
       have:=cn (some a) (q / P.cellsOf e * P.cellsOf e) (q % P.cellsOf e)
       rw [e1] at this
       exact this,List.getElem?_eq_getElem (by omega)] at h4
      exact ⟨_,h4⟩
     -- the cells as one list
     obtain ⟨row,hrl,hrow⟩ : ∃ row : List Value,row.length = len * P.cellsOf e/\∀ q,q < len * P.cellsOf e->W.cell? (a.add q) = row[q]?:=by
      refine ⟨(List.range (len * P.cellsOf e)).map fun q=>(W.cell? (a.add q)).getD default,by simp,fun q hq=>?_⟩
      obtain ⟨u,hu'⟩:=hcell q hq
      simp [hq,hu']
     obtain ⟨els,k1,k2,k3,k4,k5⟩:=glue (M:=dW W) (P.cellsOf e) (WT P n' e) ((elems.map (·.1)).map bulk) row (by rw [hrl,List.length_map,List.length_map,hlen]) fun i b hbi=>by
      obtain ⟨hi0,hb0⟩:=List.getElem?_eq_some_iff.1 hbi
      have hi : i < len:=by simp at hi0;omega
      obtain ⟨cs',ds,h1,h2,h3,h7⟩:=each i hi
      have hb1 : bulk (elems[i]'(by omega)).1 = b:=by rw [<-hb0];simp
      rw [hb1] at h7
      obtain ⟨_,h4,h5⟩:=World.cells?_some h1
      refine ⟨ds,?_,h3,h7⟩
      have : (row.drop (i * P.cellsOf e)).take (P.cellsOf e) = cs':=by
       apply List.ext_getElem?
       intro j
       by_cases hj : j < P.cellsOf e
       ·rw [List.getElem?_take_of_lt hj,List.getElem?_drop,<-h5 j hj]
        have hlt : i * P.cellsOf e+j < len * P.cellsOf e:=by
         have : (i+1) * P.cellsOf e<=len * P.cellsOf e:=Nat.mul_le_mul_right _ hi
         rw [Nat.succ_mul] at this;omega
        rw [<-hrow _ hlt]
        have:=cn (some a) (i * P.cellsOf e) j
        show W.cell? (adr (some a) _) = _
        rw [<-this];rfl
       ·rw [List.getElem?_eq_none (by simp;omega),List.getElem?_eq_none (by omega)]
      rw [this];exact h2
     rw [List.length_map,List.length_map,hlen] at k1
     refine ⟨[.sl els.length (P.cellsOf e) els.flatten],RdL.cons ?_ (RdL.nil _),?_,?_⟩
     ·simp only [Rd]
      refine ⟨some a,cap,by rw [k1],by omega,hm,by omega,qn k4,fun _=>rfl,RdC.mk _ 0 fun k d hk=>?_⟩
      have hlt : k < row.length:=by
       rw [k2.1]
       rcases Nat.lt_or_ge k els.flatten.length with h | h
       ·exact h
       ·rw [List.getElem?_eq_none h] at hk;cases hk
      refine ⟨row[k],?_,k2.2 k d _ hk (List.getElem?_eq_getElem hlt)⟩
      rw [qt,Nat.zero_add]
      exact (hrow k (by omega)).trans (List.getElem?_eq_getElem hlt)
     ·simp only [WT,hu]
      exact ⟨els,rfl,by omega,k3⟩
     ·have:=hbk.slice (elems.map (·.1)) (rest.map (·.1))
      simp only [dO,bulkD] at k5 ⊢
      omega
   | struct fs =>
    obtain ⟨xs,n',hn,rfl,hl,hxl,hf⟩:=DataW.trod_struct hu h
    obtain rfl : n' = n:=by omega
    rw [Bool.and_eq_true] at hc
    have hca : ∀ f∈fs.toList,f.type∈ts:=fun f hf=>by
     have:=List.all_eq_true.1 hc.2 f hf
     simpa using this
    have hwe : ∀ (l : List Field) (ys : List (DataW H)) (i : Nat) (f : Field) (d : DataW H),l[i]? = some f->ys[i]? = some d->∀ k∈d.weights P f.type,k∈DataW.weightsEach P (l.map (·.type)) ys:=by
     intro l
     induction l with
     | nil=>intro ys i f d h1;simp at h1
     | cons g l ihl =>
      intro ys i f d h1 h2 k hk
      cases ys with
      | nil=>simp at h2
      | cons y ys =>
       rw [List.map_cons,DataW.weightsEach,List.mem_append]
       cases i with
       | zero =>
        simp only [List.getElem?_cons_zero,Option.some.injEq] at h1 h2
        subst h1 h2;exact .inl hk
       | succ i=>exact .inr (ihl ys i f d (by simpa using h1) (by simpa using h2) k hk)
    have each : ∀ (i : Nat) (f : Field) (b : Nat),fs.toList[i]? = some f->((xs.map (·.1)).map bulk)[i]? = some b->∃ ds,RdL (dW W) ds ((cs.drop f.offset).take (P.cellsOf f.type))/\WT P n' f.type ds/\dO ds<=b:=fun i f b hi hbi=>by
     have hfm:=List.mem_of_getElem? hi
     have h1:=hf i f (by simpa using hi)
     have hix : i < xs.length:=by
      have:=(List.getElem?_eq_some_iff.1 hi).1
      simp at this;omega
     rw [List.getElem?_eq_getElem hix] at h1
     have hb1 : bulk (xs[i]).1 = b:=by
      have : ((xs.map (·.1)).map bulk)[i]? = some (bulk (xs[i]).1):=by simp [hix]
      rw [this] at hbi
      exact Option.some.inj hbi
     rw [<-hb1]
     exact ih f.type _ _ (hca f hfm) h1 fun k hk=>hw k (by
      simp only [DataW.weights,hu]
      exact hwe _ _ i f _ hi (by simp [hix]) k hk)
    obtain ⟨ds,k1,k2,k3⟩:=glueF (M:=dW W) (P:=P) (fun f ds=>WT P n' f.type ds) fs.toList ((xs.map (·.1)).map bulk) 0 cs (by rw [Nat.zero_add,hl];exact hc.1) (by simp [hxl]) fun i f b hi hbi=>by simpa using each i f b hi hbi
    refine ⟨ds,k1,?_,Nat.le_trans k3 (hbk.agg _)⟩
    simp only [WT,hu]
    exact ⟨by rw [<-k1.1];exact hl,fun f hf=>by simpa using k2 f hf⟩
   | array m e =>
    simp only [Bool.and_eq_true,List.contains_iff_mem] at hc
    obtain ⟨hc0,hc⟩:=hc
    have hc0:=Nat.eq_of_beq_eq_true hc0
    obtain ⟨xs,n',hn,rfl,hl,hxl,hf⟩:=DataW.trod_array hu h
    obtain rfl : n' = n:=by omega
    have each : ∀ (i b : Nat),((xs.map (·.1)).map bulk)[i]? = some b->∃ ds,RdL (dW W) ds ((cs.drop (i * P.cellsOf e)).take (P.cellsOf e))/\WT P n' e ds/\dO ds<=b:=fun i b hbi=>by
     obtain ⟨hi0,hb0⟩:=List.getElem?_eq_some_iff.1 hbi
     have hix : i < xs.length:=by simpa using hi0
     have h1:=hf i (by omega)
     have hb1 : bulk (xs[i]).1 = b:=by rw [<-hb0];simp
     rw [<-hb1]
     rw [List.getElem?_eq_getElem hix] at h1
     exact ih e _ _ hc h1 fun k hk=>hw k (by
      simp only [DataW.weights,hu]
      exact ir (List.mem_map.2 ⟨_,List.getElem_mem hix,rfl⟩) k hk)
    obtain ⟨els,k1,k2,k3,k4,k5⟩:=glue (M:=dW W) (P.cellsOf e) (WT P n' e) ((xs.map (·.1)).map bulk) cs (by rw [hl,hc0,List.length_map,List.length_map,hxl]) each
    rw [List.length_map,List.length_map,hxl] at k1
    refine ⟨els.flatten,k2,?_,Nat.le_trans k5 (hbk.agg _)⟩
    simp only [WT,hu]
    refine ⟨by rw [<-k2.1];exact hl,fun i hi=>?_⟩
    have hi' : i < els.length:=by omega
    have e2 : ∀ (l : List (List D)) (sz i : Nat) (hi : i < l.length),(∀ x∈l,x.length = sz)->((l.flatten.drop (i * sz)).take sz) = l[i]:=fun l sz i hi hall=>by
     have:=sE l sz i hi hall
     exact this
    rw [e2 els _ i hi' k4]
    exact k3 _ (List.getElem_mem hi')
   | _=>simp at hc
end

def p4 (P : Program) (t : TypeId) (us : List Value) (v : Value) : Prop:=match P.underlying t with
 | some (.struct _)=>v = .agg us.toArray
 | some (.array ..)=>v = .agg us.toArray
 | _=>us = [v]

inductive ArgsB (P : Program) (M : Mem) (b : Nat) : List TypeId->List Value->Prop
 | nil : ArgsB P M b [] []
 | cons {t : TypeId} {ts : List TypeId} {v : Value} {vs : List Value} (n : Nat) (ds : List D) (us : List Value) : RdL M ds us->WT P n t ds->p4 P t us v->dO ds<=b->ArgsB P M b ts vs->ArgsB P M b (t::ts) (v::vs)
inductive ArgsW (P : Program) (M : Mem) : List TypeId->List Value->Prop
 | nil : ArgsW P M [] []
 | cons {t : TypeId} {ts : List TypeId} {v : Value} {vs : List Value} (n : Nat) (ds : List D) (us : List Value) : RdL M ds us->WT P n t ds->p4 P t us v->ArgsW P M ts vs->ArgsW P M (t::ts) (v::vs)

theorem ArgsW.inv {P : Program} {M : Mem} {t : TypeId} {ts : List TypeId} {vs : List Value} (h : ArgsW P M (t::ts) vs) :
  ∃ n ds us v vs',vs = v::vs'/\RdL M ds us/\WT P n t ds/\p4 P t us v/\ArgsW P M ts vs':=by
 cases h with
 | cons n ds us h1 h2 h3 h4=>exact ⟨n,ds,us,_,_,rfl,h1,h2,h3,h4⟩
theorem ArgsB.toW {P : Program} {M : Mem} {b : Nat} {ts : List TypeId} {vs : List Value} (h : ArgsB P M b ts vs) : ArgsW P M ts vs:=by
 induction h with
 | nil=>exact .nil
 | cons n ds us h1 h2 h3 _ _ ih=>exact .cons n ds us h1 h2 h3 ih
theorem ArgsW.nil_inv {P : Program} {M : Mem} {vs : List Value} (h : ArgsW P M [] vs) : vs = []:=by cases h;rfl

section
variable {H : Type} {enc : TypeId×Value->H} {P : Program} {W : World}
theorem yY {ts0 : List TypeId} {bulk : DataW H->Nat} (hbk : BulkOk bulk) (bd : Nat) (hcl : q5 P ts0 = true) (hl : laidOutB P = true) :
  ∀ (ts : List TypeId) (vs : List Value) (ds : List (DataW H)) (p : List MemPlace),DataW.TrodAll enc P W 0 (fun _=>true) true ts vs ds p->(∀ t∈ts,t∈ts0/\P.readableRec t = true/\t < P.types.size) ->
  (∀ (j : Nat) t v,ts[j]? = some t->vs[j]? = some v->∃ b,Value.okWide P W .any b t v)->(∀ k∈DataW.weightsEach P ts ds,k<=reachBytes)->(∀ d∈ds,bulk d<=bd) ->
  ArgsB P (dW W) bd ts vs/\∀ (W' : World) (sp : Nat->Bool),Below W.heap.size W W'->(∀ q∈p,q.block < W.heap.size)->(∀ q∈p,sp q.block = true)->DataW.TrodAll enc P W' 0 sp true ts vs ds p
 | [],vs,ds,p,h,_,_,_,_=>by
  obtain ⟨rfl,rfl,rfl⟩:=trodAll_nil h
  exact ⟨.nil,fun _ _ _ _ _=>rfl⟩
 | t::ts,vs,ds,p,h,hts,hval,hsz,hbd=>by
  obtain ⟨v,vs1,d,ds1,pa,pb,rfl,rfl,rfl,h1,h2⟩:=trodAll_cons h
  rw [DataW.weightsEach] at hsz
  obtain ⟨h3,h4⟩:=yY hbk bd hcl hl ts vs1 ds1 pb h2 (fun x hx=>hts x (List.mem_cons_of_mem _ hx)) (fun j x y hx hy=>hval (j+1) x y (by simpa using hx) (by simpa using hy)) (fun k hk=>hsz k (List.mem_append_right _ hk)) (fun x hx=>hbd x (List.mem_cons_of_mem _ hx))
  obtain ⟨b,hv⟩:=hval 0 t v rfl rfl
  obtain ⟨ht0,hr,hrow⟩:=hts t (List.mem_cons_self ..)
  obtain ⟨n,hn⟩:=h1
  obtain ⟨es,k1,k2,k3⟩:=xU hbk hcl n t _ _ ht0 hn fun k hk=>hsz k (List.mem_append_left _ hk)
  refine ⟨.cons n es v.cells.toList k1 k2 ?_ (Nat.le_trans k3 (hbd _ (List.mem_cons_self ..))) h3,fun W' sp hB hlt hq=>⟨pa,pb,WideElems.Trod_stays hl hr hrow ⟨n,hn⟩ (fun x hx=>hB.same (hlt x (List.mem_append_left _ hx))) (fun x hx=>hq x (List.mem_append_left _ hx)),
   h4 W' sp hB (fun x hx=>hlt x (List.mem_append_right _ hx)) (fun x hx=>hq x (List.mem_append_right _ hx)),rfl⟩⟩
  have hc:=List.all_eq_true.1 hcl t ht0
  unfold p4
  cases hu : P.underlying t with
  | none=>simp [hu] at hc
  | some u =>
   rw [hu] at hc
   cases u with
   | bool=>obtain ⟨b,rfl⟩:=okWide_bool hu hv;rfl
   | int k=>obtain ⟨z,rfl⟩:=okWide_int hu hv;rfl
   | string=>obtain ⟨s,rfl⟩:=okWide_string hu hv;rfl
   | slice e=>obtain ⟨a,n,c,rfl⟩:=okWide_slice hu hv;rfl
   | struct fs=>obtain ⟨cs,rfl,_⟩:=okWide_struct hu hv;simp [Value.cells]
   | array m e =>
    simp only [Value.okWide,hu] at hv
    obtain ⟨cs,rfl,_⟩:=hv
    simp [Value.cells]
   | _=>simp at hc
end

theorem EX {H : Type} {enc : TypeId×Value->H} {C : Checked} {f : FuncId} {fn : Func} {s : ChangeSpec} {tb : TypeId} {fresh handsOn again : Bool} {bulk : DataW H->Nat} (hbk : BulkOk bulk) (bd : Nat) (ts0 : List TypeId)
  (hcl : q5 C.prog ts0 = true) (hl : laidOutB C.prog = true) (htb : C.prog.underlying tb = some .bool)
  (hts : (fn.params.toList.all fun t=>ts0.contains t && C.prog.readableRec t && Nat.blt t C.prog.types.size) = true) (hres : fn.resultTypes = #[tb]) (hvars : s.vars = []) (hspec : ∀ ds : List (DataW H),ds.length = fn.params.toList.length->s.fn H ds = { results:=[.lit (.bool true)],args:=ds,vars:=[] })
  {W : World} {base : Nat} {args : Array Value} {ds gs : List (DataW H)} {before : List MemPlace} (hval : ∀ (j : Nat) t v,fn.params[j]? = some t->args[j]? = some v->Value.okWide C.prog W .any base t v)
  (hW : DataW.Whole enc C.prog fn.params.toList s.vars false W args.toList ds gs before) (hsz : (DataW.weightsEach C.prog (fn.params.toList++s.plain.varTypes C.prog) (ds++gs)).all (·<=reachBytes) = true) (hbd : ∀ d∈ds,bulk d<=bd)
  (contract : ∀ vs : List Value,ArgsB C.prog (dW W) bd fn.params.toList vs->aA C.prog W (dW W) [] f vs.toArray (Is (dW W) [] (.bool true))) :
  Calls C.prog f args W fun e W'=>∃ v,e = .returned v/\s.post enc C.prog fn false fresh handsOn again W args v W':=by
 have hW':=hW
 obtain ⟨p,q,hA,hV,hb,hfz,hnd⟩:=hW
 rw [hvars] at hV
 obtain ⟨rfl,rfl⟩:=trodVars_none hV
 have hvt : s.plain.varTypes C.prog = []:=by
  have : s.plain.vars = []:=hvars
  unfold DataSpec.varTypes
  rw [this];rfl
 rw [hvt,List.append_nil,List.append_nil] at hsz
 have hts' : ∀ t∈fn.params.toList,t∈ts0/\C.prog.readableRec t = true/\t < C.prog.types.size:=fun t ht=>by
  have:=List.all_eq_true.1 hts t ht
  simp only [Bool.and_eq_true,List.contains_iff_mem] at this
  exact ⟨this.1.1,this.1.2,by simpa [Nat.blt_eq] using this.2⟩
 obtain ⟨h1,h2⟩:=yY (enc:=enc) hbk bd hcl hl fn.params.toList args.toList ds p hA hts' (fun j t v ht hv=>⟨base,hval j t v (by simpa using ht) (by simpa using hv)⟩) (fun k hk=>by
  have:=List.all_eq_true.1 hsz k hk
  simpa using this) hbd
 have hlen : ds.length = fn.params.toList.length:=by
  have : ∀ (ts : List TypeId) (vs : List Value) (ds : List (DataW H)) (p : List MemPlace),DataW.TrodAll enc C.prog W 0 (fun _=>true) true ts vs ds p->ds.length = ts.length:=by
   intro ts
   induction ts with
   | nil=>intro vs ds p h;obtain ⟨_,rfl,_⟩:=trodAll_nil h;rfl
   | cons t ts ih =>
    intro vs ds p h
    obtain ⟨v,vs1,d,ds1,a,b,rfl,rfl,rfl,_,h2⟩:=trodAll_cons h
    simp [ih _ _ _ h2]
  exact this _ _ _ _ hA
 refine (contract args.toList h1 W (Dy W)).mono ?_
 rintro e' W' ⟨v,M',Γ',rfl,⟨rfl,rfl,rfl⟩,hw'⟩
 refine ⟨_,rfl,?_⟩
 have hB:=FY hw'
 have hfn':=hspec ds hlen
 have hlt : ∀ x∈p,x.block < W.heap.size:=fun x hx=>hW'.lt x (by rw [hb];exact List.mem_append_left _ hx)
 refine zF (pa:=p) (pv:=[]) hW' (fun b sp hd=>?_) (fun sp hsp=>?_) (fun sp _=>?_) (by rw [hb]) hB (fun j t r hj hr=>?_)
 ·rw [List.append_nil,hfn',hres]
  exact trodAll_mk1 (shut_bool htb true)
 ·rw [List.append_nil,hfn']
  exact h2 W' sp hB hlt fun q hq=>hsp q (by rw [hb,List.append_nil];exact hq)
 ·rw [List.append_nil,hfn',hvars]
  rfl
 ·rw [hres] at hj hr
  have hj0 : j = 0:=by
   rcases Nat.eq_zero_or_pos j with h | h
   ·exact h
   ·rw [Array.getElem?_eq_none (by simp;omega)] at hj;cases hj
  subst hj0
  simp [Value.resultList] at hj hr
  subst hj hr
  exact okWide_bool_mk htb true
theorem nh {H : Type} : ∀ l : List (DataW H),(l.map SizeOf.sizeOf).sum+1<=SizeOf.sizeOf l
 | []=>by simp
 | x::xs=>by have:=nh xs;simp only [List.map_cons,List.sum_cons,List.cons.sizeOf_spec];omega
theorem yR {H : Type} : BulkOk (H:=H) SizeOf.sizeOf:=⟨fun l=>by simp,by simp,fun els sp=>by have:=nh els;simp only [DataW.slice.sizeOf_spec];omega,fun ps=>by have:=nh ps;simp only [DataW.agg.sizeOf_spec];omega⟩
theorem EW {α : Type} (g : α->Nat) : ∀ {l : List α} {x : α},x∈l->g x<=(l.map g).sum
 | y::ys,x,h=>by
  rw [List.map_cons,List.sum_cons]
  rcases List.mem_cons.1 h with rfl | h
  ·omega
  ·have:=EW g h;omega
def Kn (w0 : World) (M : Mem) (Γ : List As) (F : Prop) : Prop:=∀ w,St w0 M Γ w->F
section
variable {P : Program} {w0 : World} {M : Mem} {Γ : List As} {F : Prop}
theorem Kn.rds {ds : List D} {us : List Value} (h : As.rds ds us∈Γ) : Kn w0 M Γ (RdL M ds us):=fun _ hw=>hw.all _ h
theorem Kn.rd {d : D} {u : Value} (h : As.rd d u∈Γ) : Kn w0 M Γ (Rd M d u):=fun _ hw=>hw.all _ h
theorem Kn.via {Γ' : List As} (hC : ∀ w,St w0 M Γ' w->St w0 M Γ w) (h : Kn w0 M Γ F) : Kn w0 M Γ' F:=fun w hw=>h w (hC w hw)
theorem Kn.of (h : F) : Kn w0 M Γ F:=fun _ _=>h
theorem aA.kn {f : FuncId} {args : Array Value} {R : Post} (h : Kn w0 M Γ F) (k : F->aA P w0 M Γ f args R) : aA P w0 M Γ f args R:=fun w hw=>k (h w hw) w hw
theorem RL.kn {n : Nat} {ops : Array Oper} {rest : List Oper} {L : Lm} {K : Lm->Mem->List As->Prop} (h : Kn w0 M Γ F) (k : F->RL P n w0 ops rest L M Γ K) : RL P n w0 ops rest L M Γ K:=RL.nE h k
theorem RL.aW {n : Nat} {ops : Array Oper} {rest : List Oper} {L : Lm} {K : Lm->Mem->List As->Prop} {es : List D} {us : List Value} (hr : RdL M es us) (h : RL P n w0 ops rest L M (.rds es us::Γ) K) : RL P n w0 ops rest L M Γ K :=
 h.pre (fun _ _ h=>h) fun _ hw=>hw.add (x:=.rds es us) hr rfl
theorem az.aW {G : Mem->List As->Prop} {es : List D} {us : List Value} (hr : RdL M es us) (h : az w0 M (.rds es us::Γ) G) : az w0 M Γ G:=fun w hw=>h w (hw.add (x:=.rds es us) hr rfl)
theorem az.kn {G : Mem->List As->Prop} (h : Kn w0 M Γ F) (k : F->az w0 M Γ G) : az w0 M Γ G:=fun w hw=>k (h w hw) w hw
theorem RL.aD {n : Nat} {ops : Array Oper} {rest : List Oper} {L : Lm} {K : Lm->Mem->List As->Prop} {ty : TypeId} {pos : String} {af : Array Edge} {t : TypeId} {x y : Operand} {b e : Nat} {cs vs : List Value} {ds : List D} {Γ' : List As} (sz : Nat) (hx : evL L x = some (.pointer (some (adr (some ⟨b,0,none⟩) 0)))) (hy : evL L y = some (.agg vs.toArray))
  (hr : Repl (.own b e cs) (.own b e vs) Γ Γ') (hm : As.rds ds vs∈Γ) (hd : ds.length = sz) (hc : Kn w0 M Γ (cs.length = sz)) (ht : eV P t sz = true)
  (h : RL P n w0 ops rest L M Γ' K) : RL P n w0 ops (⟨none,.store t x y,ty,pos,af,none⟩::rest) L M Γ K:=by
 refine RL.kn (Kn.rds hm) fun hv=>RL.kn hc fun hcs=>?_
 have hl : vs.length = sz:=by rw [hv.1,hd]
 exact RL.aG vs hx hy hr (by simp [hl,hcs]) (by omega) (fun _ _=>hv.one) (by rw [hl];exact ht) h
theorem Kn.bk {ds : List D} {us : List Value} {sz : Nat} (h : As.rds ds us∈Γ) (hd : ds.length = sz) : Kn w0 M Γ (us.length = sz):=fun _ hw=>by
 have:=(hw.all _ h : RdL M ds us).1
 rw [this,hd]
theorem Kn.bl {us : List Value} {sz : Nat} (h : us.length = sz) : Kn w0 M Γ (us.length = sz):=fun _ _=>h
end

def gL (w0 : World) (M : Mem) (Γ : List As) (p : Addr) (vs : List Value) : Prop:=∀ w,St w0 M Γ w->∀ j v,vs[j]? = some v->w.cell? (p.add j) = some v
theorem gL.own {w0 : World} {M : Mem} {Γ : List As} {b e : Nat} {vs : List Value} (h : As.own b e vs∈Γ) : gL w0 M Γ (adr (some ⟨b,0,none⟩) 0) vs:=fun w hw j v hj=>by
 rw [cn]
 have:=hw.cq h hj
 simpa using this
theorem gL.mono {w0 : World} {M : Mem} {Γ Γ' : List As} {p : Addr} {vs : List Value} (h : gL w0 M Γ p vs) (hs : ∀ w,St w0 M Γ' w->St w0 M Γ w) : gL w0 M Γ' p vs:=fun w hw=>h w (hs w hw)
theorem Y.loadK {P : Program} {w0 : World} {L : Lm} {M : Mem} {Γ : List As} {d : Option Nat} {ty : TypeId} {pos : String} {af : Array Edge} {g : Option (Nat×Bool)} {x : Operand} {t : TypeId} {p : Addr} {vs : List Value} (hx : evL L x = some (.pointer (some p))) (hc : gL w0 M Γ p vs) (hf : fX P t vs.length = true) :
  Yq P w0 L M Γ ⟨d,.load t x,ty,pos,af,g⟩ (.agg vs.toArray):=Y.aM hx hf hc

theorem sU {P : Program} {f : FuncId} {fn : Func} {c : Code} {args : List Value} {w0 : World} {M : Mem} {Γ : List As} {R : Post} {r s1 s2 n : Nat} {t : TypeId}
  (hf : P.funcs[f]? = some fn) (hb : fn.body = some c) (hn : fn.ntmps = n) (hr : fn.results = #[.cell r t,.tmp s1,.tmp s2]) (ha : Nat.ble args.length n = true)
  (h : ∀ w1,St w0 M Γ w1->CW P n w0 c (fun e L M Γ=>match e with
   | .ret | .normal=>∃ v1 v2,cR L s1 = some v1/\cR L s2 = some v2/\aC P w0 r t L M Γ (fun u=>R (.tuple #[u,v1,v2]))
   | _=>False) (slotsOf 0 args) M Γ) : aA P w0 M Γ f args.toArray R:=by
 intro w hw
 refine calls_of_wp hf hb ?_
 rw [hn]
 refine wp_mono (h w hw _ w (fE n args ha) hw) ?_
 rintro e a w' ⟨L,M1,Γ1,hX,h1,h2⟩
 cases e with
 | normal | ret =>
  obtain ⟨v1,v2,hs1,hs2,b,e,cs,hv,hm,hag,hi⟩:=hX
  obtain ⟨M',Γ',hR,hw'⟩:=hi w' h2
  refine ⟨h1.defers,.tuple #[.agg cs.toArray,v1,v2],?_,_,M',Γ',rfl,hR,hw'⟩
  have e1:=h1.get r _ hv
  have f1:=h1.get s1 _ hs1
  have f2:=h1.get s2 _ hs2
  simp [results,hr,e1,f1,f2,asAddr,gx h2 hm hag]
 | _=>exact hX.elim
section
variable {P : Program} {w0 : World} {L : Lm} {M : Mem} {Γ : List As} {d : Option Nat} {ty : TypeId} {pos : String} {af : Array Edge} {g : Option (Nat×Bool)}
namespace Y
theorem bN {x : Operand} {t : TypeId} {b e : Nat} {us : List Value} {ds : List D} {sz : Nat} (hx : evL L x = some (.pointer (some (adr (some ⟨b,0,none⟩) 0)))) (hm : As.own b e us∈Γ) (hr : As.rds ds us∈Γ) (hl : ds.length = sz) (hf : fX P t sz = true) :
  Yq P w0 L M Γ ⟨d,.load t x,ty,pos,af,g⟩ (.agg us.toArray):=fun n a w ha hw=>by
 have h1 : RdL M ds us:=hw.all _ hr
 exact Y.gq (sz:=sz) hx hm (by rw [h1.1,hl]) hf n a w ha hw
end Y
end
theorem MM {α : Type} {x : α} {l : List α} (h : x∈l:=by first | ((repeat (first | exact List.Mem.head _ | apply List.Mem.tail | apply List.mem_append_right));done) | fail) : x∈l:=h
theorem RP {x x' : As} {l l' : List As} (h : Repl x x' l l':=by first | ((repeat (first | exact Repl.here _ | apply Repl.there));done) | fail) : Repl x x' l l':=h
theorem PK {x : As} {l l' : List As} (h : Pick x l l':=by first | ((repeat (first | exact Pick.here _ | apply Pick.there));done) | fail) : Pick x l l':=h
theorem SB {l l' : List As} (h : List.Sublist l l':=by first | ((repeat (first | exact List.Sublist.refl _ | apply List.Sublist.cons_cons | apply List.Sublist.cons));done) | fail) : List.Sublist l l':=h
theorem KR {p : Prop} (h : p:=by kernel_rfl) : p:=h
theorem WG {ops : Array Oper} {L : Lm} {o : Oper} {b : Bool} (h : Want ops L o b:=by exact ⟨_,_,rfl,rfl,rfl⟩) : Want ops L o b:=h
theorem AO {p : Prop} (h : p:=by first | assumption | omega) : p:=h
theorem OM {p : Prop} (h : p:=by omega) : p:=h
theorem SM {w0 : World} {M : Mem} {Γ : List As} {a : Option Addr} (h : ∀ w,St w0 M Γ w->a.isSome = true:=by first | exact fun _ hw=>hw.rd_some MM (by omega) | exact fun _ hw=>(hw.lQ MM (by assumption)).1 | exact fun _ _=>rfl) : ∀ w,St w0 M Γ w->a.isSome = true:=h
def xJ (L : Lm) : List Nat->Option Lm
 | []=>some []
 | k::ks=>match cR L k with
  | some v=>match xJ L ks with
   | some r=>some ((k,v)::r)
   | none=>none
  | none=>none
theorem cj.sel {L : Lm} : ∀ {ks : List Nat} {L' : Lm},xJ L ks = some L'->cj L L'
 | [],L',h=>by simp only [xJ,Option.some.injEq] at h;subst h;exact cj.nil L
 | k::ks,L',h=>by
  simp only [xJ] at h
  cases hv : cR L k with
  | none=>rw [hv] at h;cases h
  | some v =>
   rw [hv] at h
   cases hr : xJ L ks with
   | none=>rw [hr] at h;cases h
   | some r =>
    rw [hr] at h
    obtain rfl:=Option.some.inj h
    exact cj.cons k hv (cj.sel hr)
theorem CW.kp {P : Program} {n : Nat} {w0 : World} {c : Code} {X : Pst} {L L' : Lm} {M : Mem} {Γ : List As} (ks : List Nat) (hs : xJ L ks = some L') (h : CW P n w0 c X L' M Γ) : CW P n w0 c X L M Γ:=CW.keep (cj.sel hs) h
theorem KP {L L' : Lm} (ks : List Nat) (hs : xJ L ks = some L':=by rfl) : cj L L':=cj.sel hs
end Xe

namespace Xe
open Go

section
variable {P : Program} {w0 : World} {L : Lm} {M : Mem} {Γ : List As} {d : Option Nat} {ty : TypeId} {pos : String} {af : Array Edge} {g : Option (Nat×Bool)}
namespace Y
def intB (P : Program) (t : TypeId) (k : IntKind) : Bool:=match P.underlying t with
 | some (.int k')=>decide (k' = k)
 | _=>false
theorem CN {t : TypeId} {k : IntKind} (h : intB P t k = true) : P.underlying t = some (.int k):=by
 unfold intB at h
 cases hu : P.underlying t with
 | none=>simp [hu] at h
 | some dd =>
  rw [hu] at h
  cases dd <;> simp at h
  rw [h]
end Y
end
def Fj (f a : Nat) : Nat:=if f = 0 then a else 255 - a
section
variable {P : Program} {w0 : World} {L : Lm} {M : Mem} {Γ : List As} {d : Option Nat} {ty : TypeId} {pos : String} {af : Array Edge} {g : Option (Nat×Bool)}
namespace Y
end Y
end

theorem xb {P : Program} {w0 w : World} {M : Mem} {Γ : List As} {t tn ty e sz bytes n : Nat} {kn : IntKind} (hE : ElemOk P t e sz bytes) (htn : P.underlying tn = some (.int kn)) (hw : St w0 M Γ w) (h0 : 0 < n) (hb : n * bytes<=140737488355328) (hm : n<=lim) :
  ∃ b c us w',(Builtin.append_ #[t,tn] ty #[.slice none 0 0,.int .i64 n]).run P w = .ok (.slice (some ⟨b,0,none⟩) n c) w'/\us.length = n * sz/\n<=c/\St w0 M (.acc (.slice (some ⟨b,0,none⟩) n c) e sz n us::Γ) w':=by
 obtain ⟨ht,⟨i,z,hi,hz,hsize,hby,hzs⟩,hpos⟩:=hE
 subst hsize hby
 have hlm : lim = 140737488355328:=rfl
 have hr:=Lib.run_append_nil_zeros (P:=P) w t tn ty e i z .i64 kn ht htn hi hz n h0 hpos (by omega) (by omega)
 have hc1:=grownCap_ge w n 0 e
 have hc2:=grownCap_le_maxLen w n 0 e (by unfold maxLen;omega)
 refine ⟨w.heap.size,grownCap w n 0 e,(Builtin.zeroCells z.cells n).toList,_,hr,by rw [Array.length_toList,size_zeroCells,hzs],hc1,?_⟩
 have h5:=(hw.draw (w.drawn+1)).alloc e (Builtin.zeroCells z.cells n++Builtin.zeroCells z.cells (grownCap w n 0 e - n)).toList
 have h6 : St w0 M (.own w.heap.size e (Builtin.zeroCells z.cells n++Builtin.zeroCells z.cells (grownCap w n 0 e - n)).toList::Γ) (w.drew.alloc (.cells (Builtin.zeroCells z.cells n++Builtin.zeroCells z.cells (grownCap w n 0 e - n)) e (0,0))):=by
  have : (Builtin.zeroCells z.cells n++Builtin.zeroCells z.cells (grownCap w n 0 e - n)).toList.toArray = (Builtin.zeroCells z.cells n++Builtin.zeroCells z.cells (grownCap w n 0 e - n)):=by simp
  rw [this] at h5
  exact h5
 refine St.D2 h6 (by rw [Array.length_toList,size_zeroCells,hzs]) ?_ ?_ hc1 hc2
 ·rw [Array.toList_append,List.length_append,Array.length_toList,Array.length_toList,size_zeroCells,size_zeroCells,hzs,<-Nat.add_mul]
  congr 1
  omega
 ·rw [Array.toList_append,List.take_append_of_le_length (by rw [Array.length_toList,size_zeroCells,hzs];exact Nat.le_refl _),List.take_of_length_le (by rw [Array.length_toList,size_zeroCells,hzs];exact Nat.le_refl _)]
theorem RL.y4 {P : Program} {n : Nat} {w0 : World} {ops : Array Oper} {rest : List Oper} {L : Lm} {M : Mem} {Γ : List As} {K : Lm->Mem->List As->Prop} {ty : TypeId} {pos : String} {af : Array Edge} {d : Nat} {t tn e sz bytes : Nat} {kn : IntKind} {x y : Operand} {z : Int} (k : Nat)
  (hE : ElemOk P t e sz bytes) (htn : P.underlying tn = some (.int kn)) (hx : evL L x = some (.slice none 0 0)) (hy : evL L y = some (.int .i64 z)) (hz : z = (k : Int)) (h0 : 0 < k) (hb : k * bytes<=140737488355328) (hm : k<=lim) (hd : Nat.blt d n = true)
  (h : ∀ b c us,us.length = k * sz->k<=c->RL P n w0 ops rest ((d,.slice (some ⟨b,0,none⟩) k c)::L) M (.acc (.slice (some ⟨b,0,none⟩) k c) e sz k us::Γ) K) : RL P n w0 ops (⟨some d,.call ⟨.builtin .append,#[x,y],#[t,tn]⟩,ty,pos,af,none⟩::rest) L M Γ K:=by
 subst hz
 refine RL.e (fun v M' Γ'=>∃ b c us,v = .slice (some ⟨b,0,none⟩) k c/\us.length = k * sz/\k<=c/\M' = M/\Γ' = .acc v e sz k us::Γ) (fun n a w ha hw=>?_) hd ?_
 ·obtain ⟨b,c,us,w',h1,h2,h3,h4⟩:=xb (P:=P) (ty:=ty) hE htn hw h0 hb hm
  refine ⟨_,w',M,_,?_,⟨b,c,us,rfl,h2,h3,rfl,rfl⟩,h4⟩
  simp [execOp,resolve,invoke,Go.builtin,ha.ev hx,ha.ev hy,h1]
 ·rintro v M' Γ' ⟨b,c,us,rfl,h2,h3,rfl,rfl⟩
  exact h b c us h2 h3
section
variable {P : Program} {w0 : World} {L : Lm} {M : Mem} {Γ : List As} {d : Option Nat} {ty : TypeId} {pos : String} {af : Array Edge} {g : Option (Nat×Bool)}
theorem Y.cap {x : Operand} {t : TypeId} {a : Option Addr} {k c : Nat} {e : Nat} (hx : evL L x = some (.slice a k c)) (ht : P.underlying t = some (.slice e)) :
  Yq P w0 L M Γ ⟨d,.call ⟨.builtin .cap,#[x],#[t]⟩,ty,pos,af,g⟩ (.int .i64 (c : Int)):=fun n a w ha _=>by
 simp [execOp,resolve,invoke,Go.builtin,Builtin.cap_,ha.ev hx,run_underlying ht,goInt]
end
end Xe

namespace Xe
open Go

section
variable {P : Program} {n : Nat} {w0 : World} {ops : Array Oper} {rest : List Oper} {L : Lm} {M : Mem} {Γ : List As}
end
def byteB (P : Program) (src dst : TypeId) : Bool:=match P.underlying src,P.underlying dst with
 | some (.slice e),some .string=>match P.underlying e with
  | some (.int .u8)=>true
  | _=>false
 | _,_=>false
section
variable {P : Program} {w0 : World} {L : Lm} {M : Mem} {Γ : List As} {d : Option Nat} {ty : TypeId} {pos : String} {af : Array Edge} {g : Option (Nat×Bool)}
theorem uf {s t : ByteArray} (h : ¬ s = t) : ¬ s.toList = t.toList:=fun e=>h (by
 rw [ByteArray.toList_eq,ByteArray.toList_eq] at e
 exact ByteArray.ext (Array.toList_inj.mp e))
namespace Y
theorem eqlS {x y : Operand} {s t : ByteArray} {u : TypeId} (hx : evL L x = some (.string s)) (hy : evL L y = some (.string t)) :
  Yq P w0 L M Γ ⟨d,.binOp .eql u x y u,ty,pos,af,g⟩ (.bool (decide (s = t))):=fun n a w ha _=>by
 simp [execOp,ha.ev hx,ha.ev hy,eqGuard,Go.binOp,Op.stringOp]
 by_cases h : s = t
 ·simp [h]
 ·simp [h,uf h]
theorem neqS {x y : Operand} {s t : ByteArray} {u : TypeId} (hx : evL L x = some (.string s)) (hy : evL L y = some (.string t)) :
  Yq P w0 L M Γ ⟨d,.binOp .neq u x y u,ty,pos,af,g⟩ (.bool (decide (s ≠ t))):=fun n a w ha _=>by
 simp [execOp,ha.ev hx,ha.ev hy,eqGuard,Go.binOp,Op.stringOp]
 by_cases h : s = t
 ·simp [h]
 ·simp [h,uf h]
end Y
end
end Xe

namespace Xe
open Go

def p9 (md : Region.Mode) (ops : Array Oper) (fin i : Nat) : Bool:=i != fin && match ops[fin]? with
 | some o=>o.after.any fun e=>Region.binds md e && e.on == i
 | none=>false
theorem y9 {md : Region.Mode} {ops : Array Oper} {fin i : Nat} (h : p9 md ops fin i = true) : i ≠ fin/\∃ o,ops[fin]? = some o/\∃ e∈o.after,Region.binds md e = true/\e.on = i:=by
 unfold p9 at h
 rw [Bool.and_eq_true] at h
 obtain ⟨h1,h2⟩:=h
 refine ⟨by simpa using h1,?_⟩
 split at h2
 ·rename_i o ho
  rw [Array.any_eq_true'] at h2
  obtain ⟨e,he,h3⟩:=h2
  rw [Bool.and_eq_true] at h3
  exact ⟨o,ho,e,he,h3.1,by simpa using h3.2⟩
 ·cases h2

def jh (P : Program) (md : Region.Mode) (ops : Array Oper) (fin : Nat) (Q : Exit->Act->World->Prop) (S : World->Prop) : Nat->Array Bool->Act->World->Prop
 | 0,listed,a,w=>Region.ready md ops listed = []/\Q .normal a w
 | fuel+1,listed,a,w=>(Region.ready md ops listed = []->Q .normal a w) /\
  ∀ i∈Region.ready md ops listed,wpOp P ops Q i (fun a' w'=>(i = fin\/S w')/\jh P md ops fin Q S fuel (listed.setIfInBounds i true) a' w') a w
section
variable {P : Program} {ops : Array Oper} {Q : Exit->Act->World->Prop} {md : Region.Mode} {S : World->Prop} {fin : Nat}
theorem ri : ∀ (fuel : Nat) (listed : Array Bool) (a : Act) (w : World),jh P md ops fin Q S fuel listed a w->wpAny P md ops Q fuel listed a w
 | 0,_,_,_,h=>h
 | fuel+1,_,_,_,h=>⟨h.1,fun i hi=>wpOp_mono (fun a' w' h'=>ri fuel _ a' w' h'.2) (h.2 i hi)⟩
theorem iq {rs : List Nat} {fuel : Nat} {listed : Array Bool} {a : Act} {w : World} (hr : Region.ready md ops listed = rs) (hne : rs ≠ [])
  (h : ∀ i∈rs,wpOp P ops Q i (fun a' w'=>(i = fin\/S w')/\jh P md ops fin Q S fuel (listed.setIfInBounds i true) a' w') a w) : jh P md ops fin Q S (fuel+1) listed a w :=
 ⟨fun h0=>absurd (hr ▸ h0) hne,hr ▸ h⟩
theorem CD {i j : Nat} {oj : Oper} {listed : Array Bool} (hoj : ops[j]? = some oj) (hi : i∈Region.ready md ops listed) (hj : j∈Region.ready md ops listed) : ∀ e∈oj.after,Region.binds md e = true->e.on ≠ i:=by
 rintro e he hb rfl
 obtain ⟨_,o,ho,hall⟩:=mem_ready.1 hj
 obtain rfl : o = oj:=by rw [hoj] at ho;exact (Option.some.inj ho).symm
 have h0:=(mem_ready.1 hi).1
 have h1:=hall e he hb
 cases hx : listed[e.on]? with
 | none=>simp [hx] at h1
 | some b=>cases b <;> simp_all
theorem vF {i : Nat} {oi : Oper} {v : Value} (hi : ops[i]? = some oi) (hs : Region.noSelect ops = true) (hQ : ∀ c a w,Q (.panic c) (a.put oi.dst v) w->Q (.panic c) a w) (hwt : p9 md ops fin i = true)
  (fuel : Nat) (listed : Array Bool) (a : Act) (w : World)
  (hap : ∀ j oj,ops[j]? = some oj->j ≠ i->listed.getD j true = false->(∀ e∈oj.after,Region.binds md e = true->e.on ≠ i)->oi.apart ops oj = true)
  (hr : i∈Region.ready md ops listed) (hy : YieldsIf P ops S oi v a) (hS : S w)
  (H : jh P md ops fin Q S fuel (listed.setIfInBounds i true) (a.put oi.dst v) w) : jh P md ops fin Q S (fuel+1) listed a w:=by
 have hsel:=Region.noSelect_spec hs
 obtain ⟨_,ofin,hofin,efin,hein,hebin,heon⟩:=y9 hwt
 induction fuel generalizing listed a w with
 | zero =>
  refine iq rfl (List.ne_nil_of_mem hr) fun j hj=>?_
  rcases Decidable.em (j = i) with rfl | hji
  ·exact hy.wpOp hi hS ⟨.inr hS,H⟩
  ·exact absurd (H.1 ▸ ready_mono hj hji) List.not_mem_nil
 | succ fuel ih =>
  refine iq rfl (List.ne_nil_of_mem hr) fun j hj=>?_
  rcases Decidable.em (j = i) with rfl | hji
  ·exact hy.wpOp hi hS ⟨.inr hS,H⟩
  obtain ⟨hun,oj,hoj,_⟩:=mem_ready.1 hj
  have hnw:=CD hoj hr hj
  have hjf : j ≠ fin:=by
   rintro rfl
   rw [hofin] at hoj
   cases hoj
   exact hnw efin hein hebin heon
  have hone:=wpOp_putIf hoj (hap j oj hoj hji hun hnw) (hsel i oi · · hi) (hsel j oj · · hoj) hQ hy (H.2 j (ready_mono hj hji))
  refine wpOp_mono (fun a' w' ⟨k1,k2,k3⟩=>?_) hone
  have hS':=k2.resolve_left hjf
  refine ⟨.inr hS',ih _ a' w' (fun k ok hk hki hl hno=>hap k ok hk hki ?_ hno) (ready_mono hr (Ne.symm hji)) k1 hS' ?_⟩
  ·rcases Decidable.em (j = k) with rfl | hjk
   ·exact hun
   ·rwa [getD_set_ne true hjk] at hl
  ·rwa [Array.setIfInBounds_comm _ _ hji]
theorem xm {i : Nat} {oi : Oper} {v : Value} {fuel : Nat} {listed : Array Bool} {a : Act} {w : World} (hi : ops[i]? = some oi)
  (hs : Region.noSelect ops = true) (hf : (Region.free md ops listed i && p9 md ops fin i) = true) (hr : (Region.ready md ops listed).contains i = true)
  (hQ : ∀ c a w,Q (.panic c) (a.put oi.dst v) w->Q (.panic c) a w) (hy : YieldsIf P ops S oi v a) (hS : S w)
  (h : jh P md ops fin Q S fuel (listed.setIfInBounds i true) (a.put oi.dst v) w) : jh P md ops fin Q S (fuel+1) listed a w:=by
 rw [Bool.and_eq_true] at hf
 exact vF hi hs hQ hf.2 fuel listed a w (Region.free_spec hi hf.1) (by simpa using hr) hy hS h
theorem xo {listed : Array Bool} {a : Act} {w : World} (hr : Region.ready md ops listed = []) (h : Q .normal a w) : ∀ fuel,jh P md ops fin Q S fuel listed a w
 | 0=>⟨hr,h⟩
 | _+1=>⟨fun _=>h,by rw [hr];simp⟩
end
section
variable {fin : Nat} {P : Program} {n : Nat} {w0 : World} {ops : Array Oper} {Mc : Mem} {Γc : List As} {fuel : Nat} {listed : Array Bool} {L : Lm} {M : Mem} {Γ : List As} {K : Lm->Mem->List As->Prop}
end
def slcB (P : Program) (t e sz : Nat) : Bool:=match P.underlying t with
 | some (.slice e')=>Nat.beq e' e && Nat.beq (P.cellsOf e) sz
 | _=>false
section
variable {P : Program} {n : Nat} {t : TypeId} {ds : List D}
theorem WT.elems {e sz : Nat} (h : WT P n t ds) (hs : slcB P t e sz = true) : ∃ m,n = m+1/\∃ els : List (List D),ds = [.sl els.length sz els.flatten]/\els.length<=lim/\∀ x∈els,WT P m e x:=by
 cases n with
 | zero=>exact h.elim
 | succ m =>
  unfold slcB at hs
  split at hs
  ·rename_i e' hu
   rw [Bool.and_eq_true] at hs
   obtain rfl:=Nat.eq_of_beq_eq_true hs.1
   obtain rfl:=Nat.eq_of_beq_eq_true hs.2
   simp only [WT,hu] at h
   exact ⟨m,rfl,h⟩
  ·cases hs
theorem WT.int (h : WT P n t ds) (hs : Y.intB P t .i64 = true) : ∃ z,ds = [an z]/\InI z:=by
 have hu:=Y.CN hs
 cases n with
 | zero=>exact h.elim
 | succ m =>
  simp only [WT,hu] at h
  obtain ⟨z,rfl,hz⟩:=h
  exact ⟨z,rfl,inI_of hz⟩
end
theorem yK {α : Type} {enc : α->List D} {Q : α->Prop} : ∀ {els : List (List D)},(∀ x∈els,∃ a,x = enc a/\Q a)->∃ l : List α,els.length = l.length/\els.flatten = l.flatMap enc/\∀ a∈l,Q a
 | [],_=>⟨[],rfl,rfl,fun a h=>by cases h⟩
 | x::xs,h=>by
  obtain ⟨a,rfl,hq⟩:=h x (List.mem_cons_self ..)
  obtain ⟨l,h1,h2,h3⟩:=yK fun y hy=>h y (List.mem_cons_of_mem _ hy)
  refine ⟨a::l,by simp [h1],by simp [h2],fun b hb=>?_⟩
  rcases List.mem_cons.1 hb with rfl | hb
  ·exact hq
  ·exact h3 b hb
theorem fh {P : Program} {w0 : World} {M : Mem} {Γ : List As} {a : Option Addr} {n c e sz q : Nat} : ∀ (vs : List Value) (i : Nat) (w : World) (us : List Value),St w0 M (.acc (.slice a n c) e sz n us::Γ) w->q+i+vs.length<=us.length->(∀ v∈vs,v.oneCell' = true) ->
  ∃ w',(storeCells (adr a q) vs i).run P w = .ok () w'/\St w0 M (.acc (.slice a n c) e sz n (us.take (q+i)++vs++us.drop (q+i+vs.length))::Γ) w'
 | [],i,w,us,hw,_,_=>⟨w,by simp [storeCells],by simpa using hw⟩
 | v::vs,i,w,us,hw,hl,h1=>by
  simp only [List.length_cons] at hl
  obtain ⟨k1,k2,k3⟩:=hw.setAcc (q:=q+i) (v:=v) (by omega)
  obtain ⟨w',r1,r2⟩:=fh (q:=q) vs (i+1) _ _ k1 (by simp;omega) (fun x hx=>h1 x (List.mem_cons_of_mem _ hx))
  have h3 : (Go.store ((adr a q).add i) v).run P w = .ok () (w.setCell (adr a (q+i)) v):=by
   rw [cn,run_store P w _ v _ (h1 v (List.mem_cons_self ..))]
   cases hc : w.cell? (adr a (q+i)) with
   | none=>rw [hc] at k2;cases k2
   | some z=>simp [k3]
  refine ⟨w',by simp [storeCells,h3];exact r1,?_⟩
  have he : (us.set (q+i) v).take (q+(i+1))++vs++(us.set (q+i) v).drop (q+(i+1)+vs.length) = us.take (q+i)++v::vs++us.drop (q+i+(v::vs).length):=by
   have hk : q+i < us.length:=by omega
   have e1 : (us.set (q+i) v).take (q+(i+1)) = us.take (q+i)++[v]:=by
    rw [<-Nat.add_assoc,List.take_succ_eq_append_getElem (by simpa using hk),List.take_set,List.set_eq_of_length_le (by rw [List.length_take];omega),List.getElem_set_self]
   have e2 : (us.set (q+i) v).drop (q+(i+1)+vs.length) = us.drop (q+i+(v::vs).length):=by
    rw [List.drop_set,if_pos (by omega)]
    congr 1
    simp only [List.length_cons];omega
   rw [e1,e2]
   simp
  rw [he] at r2
  exact r2
def Mem.rem (M : Mem) (b : Nat) : Mem:=fun k=>if k = b then none else M k
section
variable {P : Program} {n : Nat} {w0 : World} {c : Code} {X : Pst} {L : Lm} {M : Mem} {Γ : List As}
end
inductive Val where
 | mk (kind n : Int) (kids : List Val)
 deriving Inhabited
def Val.kind : Val->Int | .mk k _ _=>k
def Val.n : Val->Int | .mk _ n _=>n
def Val.kids : Val->List Val | .mk _ _ l=>l
mutual
def Val.enc : Val->List D
 | .mk k n l=>[an k,an n,.sl l.length 3 (Val.jB l)]
def Val.jB : List Val->List D
 | []=>[]
 | t::ts=>t.enc++Val.jB ts
end
theorem Val.jd : ∀ l : List Val,Val.jB l = l.flatMap Val.enc
 | []=>by simp [Val.jB]
 | t::ts=>by rw [Val.jB,Val.jd ts,List.flatMap_cons]
theorem Val.ay (t : Val) : t.enc = [an t.kind,an t.n,.sl t.kids.length 3 (t.kids.flatMap Val.enc)]:=by
 cases t;rw [Val.enc,Val.jd];rfl
theorem Val.aq (t : Val) : t.enc.length = 3:=by rw [Val.ay];rfl
mutual
def Val.size : Val->Nat
 | .mk _ _ l=>1+Val.sizes l
def Val.sizes : List Val->Nat
 | []=>0
 | t::ts=>t.size+Val.sizes ts
end
theorem Val.size_eq (e : Val) : e.size = 1+Val.sizes e.kids:=by cases e;rw [Val.size];rfl
theorem Val.size_pos (e : Val) : 0 < e.size:=by rw [Val.size_eq];omega
theorem Val.bW : ∀ {l : List Val} {t : Val},t∈l->t.size<=Val.sizes l
 | x::xs,t,h=>by
  rw [Val.sizes]
  rcases List.mem_cons.1 h with rfl | h
  ·omega
  ·have:=Val.bW h;omega
theorem Val.dy {t k : Val} (h : k∈t.kids) : k.size < t.size:=by
 have:=Val.bW h;rw [Val.size_eq t];omega
theorem Val.eM : ∀ (l m : List Val),Val.sizes (l++m) = Val.sizes l+Val.sizes m
 | [],m=>by simp [Val.sizes]
 | x::xs,m=>by have:=Val.eM xs m;simp only [List.cons_append,Val.sizes];omega
theorem Val.fe : ∀ (l : List Val) (k : Nat),Val.sizes (l.take k)<=Val.sizes l
 | [],k=>by simp
 | x::xs,0=>by simp [Val.sizes]
 | x::xs,k+1=>by have:=Val.fe xs k;simp only [List.take_succ_cons,Val.sizes];omega
theorem Val.iA (l : List Val) (k : Nat) (h : k < l.length) : Val.sizes (l.take (k+1)) = Val.sizes (l.take k)+l[k].size:=by
 rw [List.take_succ_eq_append_getElem h,Val.eM];simp [Val.sizes]
theorem Val.vZ {p : Val->Prop} (h : ∀ v,(∀ k∈v.kids,p k)->p v) (v : Val) : p v:=by
 have : ∀ (n : Nat) (v : Val),v.size = n->p v:=by
  intro n
  induction n using Nat.strongRecOn with
  | _ n ih=>exact fun v hv=>h v fun k hk=>ih k.size (by rw [<-hv];exact Val.dy hk) k rfl
 exact this _ v rfl
structure SlotT where
 id : IdT
 name : ByteArray
 ty : Ty
 most : Int
 place : Int
 deriving Inhabited
def SlotT.enc (s : SlotT) : List D:=[an s.id.shop,an s.id.seq,an s.id.index,eP s.name,an s.ty.kind,an s.ty.df.shop,an s.ty.df.seq,an s.ty.df.index,.sl s.ty.kids.length 5 (s.ty.kids.flatMap Ty.enc),an s.most,an s.place]
theorem SlotT.ay (s : SlotT) : s.enc = [an s.id.shop,an s.id.seq,an s.id.index,eP s.name,an s.ty.kind,an s.ty.df.shop,an s.ty.df.seq,an s.ty.df.index,.sl s.ty.kids.length 5 (s.ty.kids.flatMap Ty.enc),an s.most,an s.place]:=rfl
theorem SlotT.aq (s : SlotT) : s.enc.length = 11:=rfl
structure DefT where
 id : IdT
 kind : Int
 mod : IdT
 name : ByteArray
 slots : List SlotT
 result : Ty
 body : Ex
 place : Int
 layout : List ByteArray
 deriving Inhabited
def DefT.enc (s : DefT) : List D:=[an s.id.shop,an s.id.seq,an s.id.index,an s.kind,an s.mod.shop,an s.mod.seq,an s.mod.index,eP s.name,.sl s.slots.length 11 (s.slots.flatMap SlotT.enc),
 an s.result.kind,an s.result.df.shop,an s.result.df.seq,an s.result.df.index,.sl s.result.kids.length 5 (s.result.kids.flatMap Ty.enc),
 an s.body.id.shop,an s.body.id.seq,an s.body.id.index,an s.body.kind,an s.body.n,an s.body.ref.shop,an s.body.ref.seq,an s.body.ref.index,an s.body.ty.kind,an s.body.ty.df.shop,an s.body.ty.df.seq,an s.body.ty.df.index,
  .sl s.body.ty.kids.length 5 (s.body.ty.kids.flatMap Ty.enc),.sl s.body.kids.length 15 (s.body.kids.flatMap Ex.enc),.sl s.body.names.length 1 (s.body.names.map eP),
 an s.place,.sl s.layout.length 1 (s.layout.map eP)]
theorem DefT.ay (s : DefT) : s.enc = [an s.id.shop,an s.id.seq,an s.id.index,an s.kind,an s.mod.shop,an s.mod.seq,an s.mod.index,eP s.name,.sl s.slots.length 11 (s.slots.flatMap SlotT.enc),
 an s.result.kind,an s.result.df.shop,an s.result.df.seq,an s.result.df.index,.sl s.result.kids.length 5 (s.result.kids.flatMap Ty.enc),
 an s.body.id.shop,an s.body.id.seq,an s.body.id.index,an s.body.kind,an s.body.n,an s.body.ref.shop,an s.body.ref.seq,an s.body.ref.index,an s.body.ty.kind,an s.body.ty.df.shop,an s.body.ty.df.seq,an s.body.ty.df.index,
  .sl s.body.ty.kids.length 5 (s.body.ty.kids.flatMap Ty.enc),.sl s.body.kids.length 15 (s.body.kids.flatMap Ex.enc),.sl s.body.names.length 1 (s.body.names.map eP),
 an s.place,.sl s.layout.length 1 (s.layout.map eP)]:=rfl
theorem DefT.aq (s : DefT) : s.enc.length = 31:=rfl
structure ModT where
 id : IdT
 name : ByteArray
 uses : List IdT
 defs : List IdT
 deriving Inhabited
def ModT.enc (m : ModT) : List D:=[an m.id.shop,an m.id.seq,an m.id.index,eP m.name,.sl m.uses.length 3 (m.uses.flatMap IdT.enc),.sl m.defs.length 3 (m.defs.flatMap IdT.enc)]
theorem ModT.aq (m : ModT) : m.enc.length = 6:=rfl
structure ProgT where
 mods : List ModT
 defs : List DefT
 deriving Inhabited
def ProgT.enc (p : ProgT) : List D:=[.sl p.mods.length 6 (p.mods.flatMap ModT.enc),.sl p.defs.length 31 (p.defs.flatMap DefT.enc)]
theorem ProgT.ay (p : ProgT) : p.enc = [.sl p.mods.length 6 (p.mods.flatMap ModT.enc),.sl p.defs.length 31 (p.defs.flatMap DefT.enc)]:=rfl
theorem ProgT.aq (p : ProgT) : p.enc.length = 2:=rfl
theorem IdT.ext' {a b : IdT} (h1 : a.shop = b.shop) (h2 : a.seq = b.seq) (h3 : a.index = b.index) : a = b:=by cases a;cases b;simp only at h1 h2 h3;rw [h1,h2,h3]

abbrev Has (M : Mem) (Γ : List As) (R : Value->Prop) : Post:=fun u M' Γ'=>M' = M/\Γ' = Γ/\R u
section
variable {w0 : World} {M : Mem} {Γ : List As}
theorem Kn.ty {t : Ty} {us : List Value} (h : As.rds [an t.kind,an t.df.shop,an t.df.seq,an t.df.index,.sl t.kids.length 5 (t.kids.flatMap Ty.enc)] us∈Γ) : Kn w0 M Γ (RdL M t.enc us):=by rw [Ty.ay];exact Kn.rds h
theorem Kn.val {t : Val} {us : List Value} (h : As.rds [an t.kind,an t.n,.sl t.kids.length 3 (t.kids.flatMap Val.enc)] us∈Γ) : Kn w0 M Γ (RdL M t.enc us):=by rw [Val.ay];exact Kn.rds h
theorem Kn.ex {e : Ex} {us : List Value} (h : As.rds [an e.id.shop,an e.id.seq,an e.id.index,an e.kind,an e.n,an e.ref.shop,an e.ref.seq,an e.ref.index,an e.ty.kind,an e.ty.df.shop,an e.ty.df.seq,an e.ty.df.index,
  .sl e.ty.kids.length 5 (e.ty.kids.flatMap Ty.enc),.sl e.kids.length 15 (e.kids.flatMap Ex.enc),.sl e.names.length 1 (e.names.map eP)] us∈Γ) : Kn w0 M Γ (RdL M e.enc us):=by rw [Ex.ay];exact Kn.rds h
end
theorem EL {ds : List D} {n : Nat} (h : ds.length = n:=by first | rfl | exact Ty.aq _ | exact Val.aq _ | exact SlotT.aq _ | exact DefT.aq _ | exact ModT.aq _ | exact ProgT.aq _ | exact IdT.aq _ | exact Ex.aq _) : ds.length = n:=h
theorem KK {w0 : World} {M : Mem} {Γ : List As} {F : Prop} (h : Kn w0 M Γ F:=by first | exact Kn.rds MM | exact Kn.ty MM | exact Kn.val MM | exact Kn.ex MM | exact Kn.rd MM) : Kn w0 M Γ F:=h
def ex0 : Ex:=.mk id0 0 0 id0 ty0 [] []
def ku : DefT:=⟨id0,0,id0,ByteArray.empty,[],ty0,ex0,0,[]⟩
def cT (p : ProgT) (id : IdT) : Prop:=∃ d∈p.defs,d.id = id
instance (p : ProgT) (id : IdT) : Decidable (cT p id):=by unfold cT;exact inferInstance
def aj (p : ProgT) (id : IdT) : DefT:=(p.defs.find? fun d=>decide (d.id = id)).getD ku
theorem gd {p : ProgT} {id : IdT} {k : Nat} (h : k < p.defs.length) (h1 : ∀ j (hj : j < p.defs.length),j < k->p.defs[j].id ≠ id) (h2 : p.defs[k].id = id) : cT p id/\aj p id = p.defs[k]:=by
 refine ⟨⟨_,List.getElem_mem h,h2⟩,?_⟩
 have : p.defs.find? (fun d=>decide (d.id = id)) = some p.defs[k]:=by
  rw [List.find?_eq_some_iff_getElem]
  exact ⟨by simpa using h2,k,h,rfl,fun j hj=>by simpa using h1 j (by omega) hj⟩
 rw [aj,this];rfl
theorem iU {p : ProgT} {id : IdT} (h1 : ∀ j (hj : j < p.defs.length),p.defs[j].id ≠ id) : ¬ cT p id/\aj p id = ku:=by
 have hn : ¬ cT p id:=by
  rintro ⟨d,hd,he⟩
  obtain ⟨j,hj,rfl⟩:=List.mem_iff_getElem.1 hd
  exact h1 j hj he
 refine ⟨hn,?_⟩
 have : p.defs.find? (fun d=>decide (d.id = id)) = none:=by
  rw [List.find?_eq_none]
  intro d hd
  simpa using fun e=>hn ⟨d,hd,e⟩
 rw [aj,this];rfl
def qF {α : Type} (q : α->Bool) (l : List α) : Int:=match l.findIdx? q with
 | some i=>(i : Int)
 | none=>-1
theorem yp {α : Type} {q : α->Bool} {l : List α} {k : Nat} (h : k < l.length) (h1 : ∀ j (hj : j < l.length),j < k->q l[j] ≠ true) (h2 : q l[k] = true) : qF q l = k:=by
 have : l.findIdx? q = some k:=by
  rw [List.findIdx?_eq_some_iff_getElem]
  exact ⟨h,h2,fun j hj=>by have:=h1 j (by omega) hj;simpa using this⟩
 rw [qF,this]
theorem uQ {α : Type} {q : α->Bool} {l : List α} (h1 : ∀ j (hj : j < l.length),q l[j] ≠ true) : qF q l = -1:=by
 have : l.findIdx? q = none:=by
  rw [List.findIdx?_eq_none_iff]
  intro y hy
  obtain ⟨j,hj,rfl⟩:=List.mem_iff_getElem.1 hy
  simpa using h1 j hj
 rw [qF,this]
theorem nF {α : Type} (q : α->Bool) (l : List α) : (qF q l = -1/\∀ j (hj : j < l.length),q l[j] ≠ true)\/∃ k,∃ h : k < l.length,qF q l = k/\q l[k] = true/\∀ j (hj : j < l.length),j < k->q l[j] ≠ true:=by
 unfold qF
 cases hf : l.findIdx? q with
 | none =>
  refine .inl ⟨rfl,fun j hj=>?_⟩
  have:=List.findIdx?_eq_none_iff.1 hf l[j] (List.getElem_mem hj)
  simpa using this
 | some k =>
  obtain ⟨h,h1,h2⟩:=List.findIdx?_eq_some_iff_getElem.1 hf
  exact .inr ⟨k,h,rfl,h1,fun j hj hlt=>by simpa using h2 j hlt⟩

theorem idxL_nn {α : Type} {q : α->Bool} {l : List α} (h : ¬ qF q l < 0) : ∃ k,∃ h : k < l.length,qF q l = k/\q l[k] = true/\∀ j (hj : j < l.length),j < k->q l[j] ≠ true:=by
 rcases nF q l with ⟨h1,_⟩ | h1
 ·omega
 ·exact h1
theorem E7 {α : Type} {q : α->Bool} {l : List α} (h : qF q l < 0) : ∀ j (hj : j < l.length),q l[j] ≠ true:=by
 rcases nF q l with ⟨_,h1⟩ | ⟨k,_,h1,_⟩
 ·exact h1
 ·omega

def g9 (p : ProgT) (id : IdT) : Prop:=cT p id/\((aj p id).kind = 0\/(aj p id).kind = 1)
instance (p : ProgT) (id : IdT) : Decidable (g9 p id):=by unfold g9;exact inferInstance
def cP (p : ProgT) : Nat->Ty->Bool
 | 0,_=>false
 | n+1,t=>if t.kind = 2 then decide (t.df = id0) && (match t.kids with | [x]=>cP p n x | _=>false)
  else t.kids.isEmpty && (if t.kind = 3 then decide (g9 p t.df) else decide (t.df = id0) && decide (t.kind = 0\/t.kind = 1))
def bg (p : ProgT) (t : Ty) : Prop:=cP p 24 t = true
instance (p : ProgT) (t : Ty) : Decidable (bg p t):=by unfold bg;exact inferInstance
theorem jL {p : ProgT} {n : Nat} {t : Ty} (hk : t.kind = 2) : cP p (n+1) t = true↔t.df = id0/\∃ y,t.kids = [y]/\cP p n y = true:=by
 rw [cP,if_pos hk,Bool.and_eq_true,decide_eq_true_eq]
 refine and_congr_right fun _=>?_
 split
 ·rename_i x hx;rw [hx];simp
 ·rename_i x hx;simp;exact fun y e=>absurd e (hx y)
theorem xu {p : ProgT} {n : Nat} {t : Ty} (hk : t.kind = 2) (h1 : t.df = id0) (h2 : t.kids.length = 1) : cP p (n+1) t = true↔cP p n (t.kids[0]'(by omega)) = true:=by
 rw [jL hk]
 have e : t.kids = [t.kids[0]'(by omega)]:=by
  apply List.ext_getElem
  ·simp [h2]
  ·intro i h3 h4;have : i = 0:=by simp at h4;omega
   subst this;rfl
 constructor
 ·rintro ⟨_,y,h,hv⟩;simp only [h];exact hv
 ·exact fun hv=>⟨h1,_,e,hv⟩
theorem jM {p : ProgT} {n : Nat} {t : Ty} (hk : t.kind = 2) (h : cP p (n+1) t = true) : t.df = id0/\t.kids.length = 1:=by
 obtain ⟨h1,y,h2,_⟩:=(jL hk).1 h
 exact ⟨h1,by simp [h2]⟩
theorem kP {p : ProgT} {n : Nat} {t : Ty} (hk : t.kind = 3) : cP p (n+1) t = true↔g9 p t.df/\t.kids.length = 0:=by
 rw [cP,if_neg (by omega),if_pos hk,Bool.and_eq_true,decide_eq_true_eq,List.isEmpty_iff,and_comm,List.length_eq_zero_iff]
theorem fB {p : ProgT} {n : Nat} {t : Ty} (hk : t.kind ≠ 2) (hk3 : t.kind ≠ 3) : cP p (n+1) t = true↔t.kids.length = 0/\t.df = id0/\(t.kind = 0\/t.kind = 1):=by
 rw [cP,if_neg hk,if_neg hk3,Bool.and_eq_true,Bool.and_eq_true,decide_eq_true_eq,decide_eq_true_eq,List.isEmpty_iff,List.length_eq_zero_iff]

mutual
def Val.wt : Val->Int
 | .mk k n l=>if k = 0 then (if n < 0 then -n else n) else if k = 1 then n else if k = 2 then Val.wts l else if k = 3 then n+Val.wts l else if k = 4 then l.length+Val.wts l else 0
def Val.wts : List Val->Int
 | []=>0
 | v::vs=>v.wt+Val.wts vs
end
def Val.own (v : Val) : Int:=if v.kind = 0 then (if v.n < 0 then -v.n else v.n) else if v.kind = 1 then v.n else if v.kind = 2 then 0 else if v.kind = 3 then v.n else v.kids.length
mutual
def Val.depth : Val->Nat
 | .mk _ _ l=>Val.aV l+1
def Val.aV : List Val->Nat
 | []=>0
 | v::vs=>max v.depth (Val.aV vs)
end
theorem Val.sZ (v : Val) : v.depth = Val.aV v.kids+1:=by cases v;rw [Val.depth];rfl
theorem Val.mQ : ∀ (l m : List Val),Val.aV (l++m) = max (Val.aV l) (Val.aV m)
 | [],m=>by simp [Val.aV]
 | x::xs,m=>by have:=Val.mQ xs m;simp only [List.cons_append,Val.aV];omega
theorem Val.qp (l : List Val) (k : Nat) (h : k < l.length) : Val.aV (l.take (k+1)) = max (Val.aV (l.take k)) l[k].depth:=by
 rw [List.take_succ_eq_append_getElem h,Val.mQ];simp [Val.aV]
def eS (a b : Int) : Int:=if a < b then -1 else if b < a then 1 else 0
mutual
def jD : Val->Val->Int
 | .mk k n l,.mk k' n' l'=>if eS k k' ≠ 0 then eS k k' else if eS n n' ≠ 0 then eS n n' else if eS l.length l'.length ≠ 0 then eS l.length l'.length else gO l l'
def gO : List Val->List Val->Int
 | [],[]=>0
 | [],_::_=>-1
 | _::_,[]=>1
 | x::xs,y::ys=>if jD x y ≠ 0 then jD x y else gO xs ys
end
theorem wU (a b : Val) : jD a b = if eS a.kind b.kind ≠ 0 then eS a.kind b.kind else if eS a.n b.n ≠ 0 then eS a.n b.n else if eS a.kids.length b.kids.length ≠ 0 then eS a.kids.length b.kids.length else gO a.kids b.kids:=by
 cases a;cases b;rw [jD];rfl
theorem pR : ∀ {l m : List Val} {k : Nat} (h : k < l.length) (h' : k < m.length),(∀ j (hj : j < l.length) (hj' : j < m.length),j < k->jD l[j] m[j] = 0)->jD l[k] m[k] ≠ 0->gO l m = jD l[k] m[k]
 | x::xs,y::ys,0,_,_,_,hn=>by rw [gO];simp only [List.getElem_cons_zero] at hn ⊢;rw [if_pos hn]
 | x::xs,y::ys,k+1,h,h',hz,hn=>by
  have h0:=hz 0 (by simp) (by simp) (by omega)
  simp only [List.getElem_cons_zero] at h0
  rw [gO,if_neg (by simp [h0])]
  exact pR (by simpa using h) (by simpa using h') (fun j hj hj' hlt=>hz (j+1) (Nat.succ_lt_succ hj) (Nat.succ_lt_succ hj') (by omega)) hn
theorem nK : ∀ {l m : List Val},l.length = m.length->(∀ j (hj : j < l.length) (hj' : j < m.length),jD l[j] m[j] = 0)->gO l m = 0
 | [],[],_,_=>by rw [gO]
 | x::xs,y::ys,hl,hz=>by
  have h0:=hz 0 (by simp) (by simp)
  simp only [List.getElem_cons_zero] at h0
  rw [gO,if_neg (by simp [h0])]
  exact nK (by simpa using hl) (fun j hj hj'=>hz (j+1) (Nat.succ_lt_succ hj) (Nat.succ_lt_succ hj'))
theorem C9 (a : Int) : eS a a = 0:=by unfold eS;rw [if_neg (by omega),if_neg (by omega)]
mutual
def cJ : Val->Int->Int->Bool×Int
 | .mk _ _ l,d,s=>if 0<=s - 1/\d<=24 then dr l (d+1) (s - 1) else (false,s - 1)
def dr : List Val->Int->Int->Bool×Int
 | [],_,s=>(true,s)
 | v::vs,d,s=>if (cJ v d s).1 then dr vs d (cJ v d s).2 else (false,(cJ v d s).2)
end
theorem B2 (v : Val) (d s : Int) : cJ v d s = if 0<=s - 1/\d<=24 then dr v.kids (d+1) (s - 1) else (false,s - 1):=by cases v;rw [cJ];rfl
def m8 (v : Val) : Prop:=(cJ v 1 256).1 = true
instance (v : Val) : Decidable (m8 v):=by unfold m8;exact inferInstance

mutual
def aH (p : ProgT) : Val->Ty->Bool
 | .mk k n l,t=>decide (bg p t) && (if t.kind = 0 then decide (k = 0) && l.isEmpty && decide (-1099511627776<=n/\n<=1099511627776)
  else if t.kind = 1 then decide (k = 1) && l.isEmpty && decide (n = 0\/n = 1)
  else if t.kind = 2 then decide (k = 4) && decide (n = 0) && jb p l (t.kids.headD ty0)
  else if (aj p t.df).kind = 1 then decide (k = 3) && decide (0<=n/\n < (aj p t.df).slots.length) && decide (l.length = 1) && jb p l (((aj p t.df).slots.map SlotT.ty).getD n.toNat ty0)
  else decide (k = 2) && decide (n = 0) && decide (l.length = (aj p t.df).slots.length) && oI p l ((aj p t.df).slots.map SlotT.ty))
def jb (p : ProgT) : List Val->Ty->Bool
 | [],_=>true
 | v::vs,t=>aH p v t && jb p vs t
def oI (p : ProgT) : List Val->List Ty->Bool
 | [],_=>true
 | _::_,[]=>false
 | v::vs,t::ts=>aH p v t && oI p vs ts
end
theorem dB (p : ProgT) (v : Val) (t : Ty) : aH p v t = (decide (bg p t) && (if t.kind = 0 then decide (v.kind = 0) && v.kids.isEmpty && decide (-1099511627776<=v.n/\v.n<=1099511627776)
  else if t.kind = 1 then decide (v.kind = 1) && v.kids.isEmpty && decide (v.n = 0\/v.n = 1)
  else if t.kind = 2 then decide (v.kind = 4) && decide (v.n = 0) && jb p v.kids (t.kids.headD ty0)
  else if (aj p t.df).kind = 1 then decide (v.kind = 3) && decide (0<=v.n/\v.n < (aj p t.df).slots.length) && decide (v.kids.length = 1) && jb p v.kids (((aj p t.df).slots.map SlotT.ty).getD v.n.toNat ty0)
  else decide (v.kind = 2) && decide (v.n = 0) && decide (v.kids.length = (aj p t.df).slots.length) && oI p v.kids ((aj p t.df).slots.map SlotT.ty))):=by
 cases v;rw [aH];rfl
theorem mm : ∀ {p : ProgT} {l : List Val} {t : Ty},jb p l t = true↔∀ j (hj : j < l.length),aH p l[j] t = true
 | p,[],t=>by simp [jb]
 | p,v::vs,t=>by
  rw [jb,Bool.and_eq_true,mm]
  constructor
  ·rintro ⟨h1,h2⟩ j hj
   cases j with
   | zero=>exact h1
   | succ j=>exact h2 j (by simpa using hj)
  ·exact fun h=>⟨h 0 (by simp),fun j hj=>h (j+1) (Nat.succ_lt_succ hj)⟩
theorem mj : ∀ {p : ProgT} {l : List Val} {ts : List Ty},l.length = ts.length->(oI p l ts = true↔∀ j (hj : j < l.length) (hj2 : j < ts.length),aH p l[j] ts[j] = true)
 | p,[],ts,_=>by simp [oI]
 | p,v::vs,t::ts,h=>by
  rw [oI,Bool.and_eq_true,mj (by simpa using h)]
  constructor
  ·rintro ⟨h1,h2⟩ j hj hj2
   cases j with
   | zero=>exact h1
   | succ j=>exact h2 j (by simpa using hj) (by simpa using hj2)
  ·exact fun h=>⟨h 0 (by simp) (by simp),fun j hj hj2=>h (j+1) (Nat.succ_lt_succ hj) (Nat.succ_lt_succ hj2)⟩
theorem Fo {p : ProgT} {v : Val} {t : Ty} (h : ¬ bg p t) : ¬ aH p v t = true:=by rw [dB];simp [h]
theorem sH {p : ProgT} {v : Val} {t : Ty} (h : bg p t) (hk : t.kind = 0) : aH p v t = true↔v.kind = 0/\v.kids.length = 0/\-1099511627776<=v.n/\v.n<=1099511627776:=by
 rw [dB,if_pos hk];simp [h,and_assoc]
theorem yy {p : ProgT} {v : Val} {t : Ty} (h : bg p t) (hk : t.kind = 1) : aH p v t = true↔v.kind = 1/\v.kids.length = 0/\(v.n = 0\/v.n = 1):=by
 rw [dB,if_neg (by omega),if_pos hk];simp [h,and_assoc]
theorem BA {p : ProgT} {v : Val} {t : Ty} (h : bg p t) (hk : t.kind = 2) : aH p v t = true↔v.kind = 4/\v.n = 0/\∀ j (hj : j < v.kids.length),aH p v.kids[j] (t.kids.headD ty0) = true:=by
 rw [dB,if_neg (by omega),if_neg (by omega),if_pos hk,<-mm];simp [h,and_assoc]
theorem CX {p : ProgT} {l : List Val} {t : Ty} (h : l.length = 1) : jb p l t = aH p (l[0]'(by omega)) t:=by
 match l,h with
 | [x],_=>simp [jb]
theorem getD_map {l : List SlotT} {n : Nat} (h : n < l.length) : (l.map SlotT.ty).getD n ty0 = l[n].ty:=by simp [h]
theorem sG {p : ProgT} {v : Val} {t : Ty} (h : bg p t) (hk0 : t.kind ≠ 0) (hk1 : t.kind ≠ 1) (hk2 : t.kind ≠ 2) (hd : (aj p t.df).kind = 1) :
  aH p v t = true↔v.kind = 3/\(0<=v.n/\v.n < (aj p t.df).slots.length)/\v.kids.length = 1/\jb p v.kids (((aj p t.df).slots.map SlotT.ty).getD v.n.toNat ty0) = true:=by
 rw [dB,if_neg hk0,if_neg hk1,if_neg hk2,if_pos hd];simp [h,and_assoc]
theorem Fq {p : ProgT} {v : Val} {t : Ty} (h : bg p t) (hk0 : t.kind ≠ 0) (hk1 : t.kind ≠ 1) (hk2 : t.kind ≠ 2) (hd : (aj p t.df).kind = 1) (h1 : v.kind = 3) (h2 : 0<=v.n) (h3 : v.n.toNat < (aj p t.df).slots.length) (h4 : v.kids.length = 1) :
  aH p v t = true↔aH p (v.kids[0]'(by omega)) ((aj p t.df).slots[v.n.toNat]).ty = true:=by
 rw [sG h hk0 hk1 hk2 hd,CX h4,getD_map h3]
 exact ⟨fun hh=>hh.2.2.2,fun hh=>⟨h1,⟨h2,by omega⟩,h4,hh⟩⟩
theorem wL {p : ProgT} {v : Val} {t : Ty} (h : bg p t) (hk0 : t.kind ≠ 0) (hk1 : t.kind ≠ 1) (hk2 : t.kind ≠ 2) (hd : (aj p t.df).kind ≠ 1) :
  aH p v t = true↔v.kind = 2/\v.n = 0/\v.kids.length = (aj p t.df).slots.length/\∀ j (hj : j < v.kids.length) (hj2 : j < (aj p t.df).slots.length),aH p v.kids[j] ((aj p t.df).slots[j]).ty = true:=by
 rw [dB,if_neg hk0,if_neg hk1,if_neg hk2,if_neg hd]
 simp only [h,decide_true,Bool.true_and,Bool.and_eq_true,decide_eq_true_eq,and_assoc]
 refine and_congr_right fun _=>and_congr_right fun _=>and_congr_right fun hl=>?_
 rw [mj (by simpa using hl)]
 constructor
 ·exact fun hh j hj hj2=>by
   have:=hh j hj (by simpa using hj2)
   rw [List.getElem_map] at this;exact this
 ·exact fun hh j hj hj2=>by
   rw [List.getElem_map];exact hh j hj (by simpa using hj2)
theorem zd {p : ProgT} {t : Ty} (h : bg p t) (hk : t.kind = 2) : t.kids.length = 1:=(jM hk h).2
theorem headD_0 {l : List Ty} (h : 0 < l.length) : l.headD ty0 = l[0]:=by cases l with
 | nil=>simp at h
 | cons x xs=>rfl
def gI (p : ProgT) (t : Ty) (v : Val) : Prop:=m8 v/\aH p v t = true
instance (p : ProgT) (t : Ty) (v : Val) : Decidable (gI p t v):=by unfold gI;exact inferInstance

def v0 : Val:=.mk 0 0 []
theorem uh (l : List Val) (v : Val) : (l++[v]).flatMap Val.enc = l.flatMap Val.enc++v.enc:=by simp
def nd (m : Nat) : Nat:=if m = 0 then 0 else nd (m / 256)+1
 termination_by m
 decreasing_by exact Nat.div_lt_self (by omega) (by omega)
theorem gZ (v : Val) : v.kids.length < v.size:=by
 have : ∀ l : List Val,l.length<=Val.sizes l:=by
  intro l
  induction l with
  | nil=>simp
  | cons x xs ih=>have:=Val.size_pos x;rw [Val.sizes,List.length_cons];omega
 have:=this v.kids
 rw [Val.size_eq];omega
def sD (h : Nat) : Nat:=if h < 128 then 255 else 0
def kOf (h : Nat) : Nat:=Fj (sD h) h - 128
def y8 (f : Nat) (l : List Nat) : Nat:=l.foldl (fun m c=>m * 256+Fj f c) 0
def getI (b : List Nat) : Int×Int×Int:=match b with
 | []=>(0,0,3)
 | h::t=>if 8 < kOf h then (0,0,2) else if t.length < kOf h then (0,0,3)
  else if 0 < kOf h/\Fj (sD h) (t.headD 0) = 0 then (0,0,2)
  else if 9223372036854775808<=y8 (sD h) (t.take (kOf h)) then (0,0,2)
  else (if h < 128 then -1 - (y8 (sD h) (t.take (kOf h)) : Int) else (y8 (sD h) (t.take (kOf h)) : Int),(kOf h : Int)+1,0)

def CC (b : List Nat) : Nat->Nat->List Int->List Int×Int×Nat
 | 0,at_,acc=>(acc,0,at_)
 | j+1,at_,acc=>if (getI (b.drop at_)).2.2 ≠ 0 then (acc,(getI (b.drop at_)).2.2,at_) else CC b j (at_+(getI (b.drop at_)).2.1.toNat) (acc++[(getI (b.drop at_)).1])
def kG (n : Int) : Val:=.mk 0 n []
def idK (n : Int) : IdT:=⟨0,1+n.tdiv 32,n.tmod 32⟩
def ofT (i : IdT) : Ty:=.mk 3 i []
def bF (t : Ty) : Ty:=.mk 2 id0 [t]
def SlotT.vs (s : SlotT) : List Value:=[av s.id.shop,av s.id.seq,av s.id.index,.string s.name,av s.ty.kind,av s.ty.df.shop,av s.ty.df.seq,av s.ty.df.index,.slice none 0 0,av s.most,av s.place]
theorem RdL.kQ {M : Mem} {e : D} {ds : List D} {us : List Value} (h : RdL M (e::ds) us) : ∃ u us',us = u::us'/\Rd M e u/\RdL M ds us':=by
 match us,h with
 | [],h=>exact absurd h.1 (by simp)
 | u::us',h=>exact ⟨u,us',rfl,h.2 0 e u rfl rfl,by have:=h.1;simpa using this,fun k d v h1 h2=>h.2 (k+1) d v (by simpa using h1) (by simpa using h2)⟩
theorem RdL.unnil {M : Mem} {us : List Value} (h : RdL M [] us) : us = []:=List.eq_nil_of_length_eq_zero (by simpa using h.1)
theorem Rd.int_eq {M : Mem} {n : Int} {u : Value} (h : Rd M (an n) u) : u = av n:=by simp only [Rd] at h;exact h.1
def DefT.vs (d : DefT) (u8 u13 u26 u27 u28 u30 : Value) : List Value:=[av d.id.shop,av d.id.seq,av d.id.index,av d.kind,av d.mod.shop,av d.mod.seq,av d.mod.index,.string d.name,u8,av d.result.kind,av d.result.df.shop,av d.result.df.seq,av d.result.df.index,u13,av d.body.id.shop,av d.body.id.seq,av d.body.id.index,av d.body.kind,av d.body.n,av d.body.ref.shop,av d.body.ref.seq,av d.body.ref.index,av d.body.ty.kind,av d.body.ty.df.shop,av d.body.ty.df.seq,av d.body.ty.df.index,u26,u27,u28,av d.place,u30]
def Dr : Val:=.mk 2 0 [kG 1,kG (-2)]
theorem fc {M : Mem} (k n : Int) : RdL M (Val.mk k n []).enc [av k,av n,.slice none 0 0]:=by
 rw [Val.ay]
 exact RdL.cons (Rd.i _) (RdL.cons (Rd.i _) (RdL.cons Rd.wu (RdL.nil _)))
theorem j0 {M : Mem} (k n : Int) (l : List Val) {u : Value} (h : Rd M (.sl l.length 3 (l.flatMap Val.enc)) u) : RdL M (Val.mk k n l).enc [av k,av n,u]:=by
 rw [Val.ay]
 exact RdL.cons (Rd.i _) (RdL.cons (Rd.i _) (RdL.cons h (RdL.nil _)))
abbrev MR:=Val×Int
def mkS (g : Ty->Int->MR) : List Ty->Int->List Val×Int
 | [],pos=>([],pos)
 | t::ts,pos=>((g t pos).1::(mkS g ts (g t pos).2).1,(mkS g ts (g t pos).2).2)
def mkF (p : ProgT) (l : List Int) : Nat->Ty->Int->Int->MR
 | 0,_,pos,_=>(v0,pos)
 | n+1,t,pos,d =>
   if t.kind = 0 then
     (if (atL l pos 1048576).tmod 16 = 0 then (.mk 0 (1099511627776 - ((atL l pos 1048576).tdiv 16).tmod 3) [],pos+1)
      else if (atL l pos 1048576).tmod 16 = 1 then (.mk 0 (-1099511627776+((atL l pos 1048576).tdiv 16).tmod 3) [],pos+1)
      else (.mk 0 (((atL l pos 1048576).tdiv 16).tmod 9 - 4) [],pos+1))
   else if t.kind = 1 then (.mk 1 ((atL l pos 1048576).tmod 2) [],pos+1)
   else if t.kind = 2 then
     (.mk 4 0 (mkS (fun u q=>mkF p l n u q (d+1)) (List.replicate (if 3 < d then 0 else ((atL l pos 1048576).tmod 3).toNat) (t.kids.headD ty0)) (pos+1)).1,
      (mkS (fun u q=>mkF p l n u q (d+1)) (List.replicate (if 3 < d then 0 else ((atL l pos 1048576).tmod 3).toNat) (t.kids.headD ty0)) (pos+1)).2)
   else if (aj p t.df).kind = 1 then
     (.mk 3 ((atL l pos 1048576).tmod (aj p t.df).slots.length) [(mkF p l n (((aj p t.df).slots.map SlotT.ty).getD ((atL l pos 1048576).tmod (aj p t.df).slots.length).toNat ty0) (pos+1) (d+1)).1],
      (mkF p l n (((aj p t.df).slots.map SlotT.ty).getD ((atL l pos 1048576).tmod (aj p t.df).slots.length).toNat ty0) (pos+1) (d+1)).2)
   else (.mk 2 0 (mkS (fun u q=>mkF p l n u q (d+1)) ((aj p t.df).slots.map SlotT.ty) (pos+1)).1,(mkS (fun u q=>mkF p l n u q (d+1)) ((aj p t.df).slots.map SlotT.ty) (pos+1)).2)
def wfT (p : ProgT) : Nat->Ty->Prop
 | 0,_=>False
 | n+1,t=>t.kind = 0\/t.kind = 1\/(t.kind = 2/\0 < t.kids.length/\wfT p n (t.kids.headD ty0)) \/
   (t.kind ≠ 0/\t.kind ≠ 1/\t.kind ≠ 2/\(aj p t.df).slots.length<=3/\((aj p t.df).kind = 1->0 < (aj p t.df).slots.length)/\∀ s∈(aj p t.df).slots,wfT p n s.ty)
theorem fJ {p : ProgT} {n : Nat} {t : Ty} (h : wfT p (n+1) t) (h2 : t.kind = 2) : 0 < t.kids.length/\wfT p n (t.kids.headD ty0):=by
 rw [wfT] at h
 rcases h with h | h | h | h
 · omega
 · omega
 · exact h.2
 · exact absurd h2 h.2.2.1
theorem eY {p : ProgT} {n : Nat} {t : Ty} (h : wfT p (n+1) t) (h0 : ¬ t.kind = 0) (h1 : ¬ t.kind = 1) (h2 : ¬ t.kind = 2) : (aj p t.df).slots.length<=3/\((aj p t.df).kind = 1->0 < (aj p t.df).slots.length)/\∀ s∈(aj p t.df).slots,wfT p n s.ty:=by
 rw [wfT] at h
 rcases h with h | h | h | h
 · exact absurd h h0
 · exact absurd h h1
 · exact absurd h.1 h2
 · exact h.2.2.2
theorem wD {g : Ty->Int->MR} {b : Int} : ∀ (ts : List Ty) (pos : Int),(∀ t∈ts,∀ q,q < (g t q).2/\(g t q).2<=q+b)->pos<=(mkS g ts pos).2/\(mkS g ts pos).2<=pos+ts.length * b
 | [],pos,_=>by simp [mkS]
 | t::ts,pos,h=>by
   have h1:=h t (List.mem_cons_self ..) pos
   have h2:=wD ts (g t pos).2 fun u hu=>h u (List.mem_cons_of_mem _ hu)
   simp only [mkS,List.length_cons]
   have e : ((ts.length+1 : Nat) : Int) * b = ts.length * b+b:=by rw [Int.natCast_add,Int.add_mul];simp
   omega
theorem qR {p : ProgT} {l : List Int} : ∀ (n : Nat) (t : Ty) (pos d : Int),wfT p n t->pos < (mkF p l n t pos d).2/\(mkF p l n t pos d).2<=pos+4 ^ n:=by
 intro n
 induction n with
 | zero=>intro t pos d h;exact h.elim
 | succ n ih =>
   intro t pos d h
   have hp : (1 : Int)<=4 ^ n:=Int.pow_pos (n:=4) (m:=n) (by decide)
   have hs : (4 : Int) ^ (n+1) = 4 ^ n * 4:=Int.pow_succ 4 n
   have hmul : ∀ k : Nat,k<=3->(k : Int) * 4 ^ n<=3 * 4 ^ n:=fun k hk=>Int.mul_le_mul_of_nonneg_right (by omega) (by omega)
   rw [mkF]
   by_cases h0 : t.kind = 0
   · rw [if_pos h0]
     split
     · simp only;omega
     · split <;> (simp only;omega)
   rw [if_neg h0]
   by_cases h1 : t.kind = 1
   · rw [if_pos h1];simp only;omega
   rw [if_neg h1]
   by_cases h2 : t.kind = 2
   · rw [if_pos h2]
     have hk:=(fJ h h2).2
     have hlen : (if 3 < d then 0 else ((atL l pos 1048576).tmod 3).toNat)<=3:=by
       split
       · omega
       · have:=cC l pos 1048576 (by omega)
         rw [Int.tmod_eq_emod_of_nonneg this.1];omega
     have:=wD (g:=fun u q=>mkF p l n u q (d+1)) (b:=4 ^ n) (List.replicate (if 3 < d then 0 else ((atL l pos 1048576).tmod 3).toNat) (t.kids.headD ty0)) (pos+1) fun u hu q=>by
       rw [List.eq_of_mem_replicate hu];exact ih _ q (d+1) hk
     have hq:=hmul _ hlen
     rw [List.length_replicate] at this
     simp only
     omega
   rw [if_neg h2]
   obtain ⟨h3,h4,h5⟩:=eY h h0 h1 h2
   by_cases hc : (aj p t.df).kind = 1
   · rw [if_pos hc]
     have hpos:=h4 hc
     have hlt : ((atL l pos 1048576).tmod (aj p t.df).slots.length).toNat < (aj p t.df).slots.length:=by
       have:=cC l pos 1048576 (by omega)
       rw [Int.tmod_eq_emod_of_nonneg this.1]
       have h6:=Int.emod_lt_of_pos (atL l pos 1048576) (show (0 : Int) < (aj p t.df).slots.length by omega)
       have h7:=Int.emod_nonneg (atL l pos 1048576) (show ((aj p t.df).slots.length : Int) ≠ 0 by omega)
       omega
     have:=ih (((aj p t.df).slots.map SlotT.ty).getD ((atL l pos 1048576).tmod (aj p t.df).slots.length).toNat ty0) (pos+1) (d+1) (by
       rw [List.getD_eq_getElem?_getD,List.getElem?_map,List.getElem?_eq_getElem hlt]
       exact h5 _ (List.getElem_mem hlt))
     simp only
     omega
   rw [if_neg hc]
   have:=wD (g:=fun u q=>mkF p l n u q (d+1)) (b:=4 ^ n) ((aj p t.df).slots.map SlotT.ty) (pos+1) fun u hu q=>by
     obtain ⟨s,hs1,rfl⟩:=List.mem_map.1 hu
     exact ih _ q (d+1) (h5 s hs1)
   have hq:=hmul _ h3
   rw [List.length_map] at this
   simp only
   omega
def mJ (dn : List Val) (r : List Val×Int) : List Val×Int:=(dn++r.1,r.2)
theorem Bm {g : Ty->Int->MR} {ts : List Ty} {r : List Val×Int} {dn : List Val} {k : Nat} {pos : Int} (hk : k < ts.length) (h : r = mJ dn (mkS g (ts.drop k) pos)) : r = mJ (dn++[(g ts[k] pos).1]) (mkS g (ts.drop (k+1)) (g ts[k] pos).2):=by
 rw [h,List.drop_eq_getElem_cons hk,mkS,mJ,mJ]
 simp
theorem EP {g : Ty->Int->MR} {ts : List Ty} {r : List Val×Int} {dn : List Val} {k : Nat} {pos : Int} (hk : ts.length<=k) (h : r = mJ dn (mkS g (ts.drop k) pos)) : r = (dn,pos):=by
 rw [h,List.drop_of_length_le hk,mkS,mJ];simp
theorem sj {g : Ty->Int->MR} : ∀ (ts : List Ty) (pos : Int),(∀ t∈ts,∀ q,(g t q).2 = q+(g t q).1.size)->(mkS g ts pos).2 = pos+Val.sizes (mkS g ts pos).1
 | [],pos,_=>by simp [mkS,Val.sizes]
 | t::ts,pos,h=>by
   have h1:=h t (List.mem_cons_self ..) pos
   have h2:=sj ts (g t pos).2 fun u hu=>h u (List.mem_cons_of_mem _ hu)
   simp only [mkS,Val.sizes]
   omega
theorem EJ {p : ProgT} {l : List Int} : ∀ (n : Nat) (t : Ty) (pos d : Int),wfT p n t->(mkF p l n t pos d).2 = pos+(mkF p l n t pos d).1.size:=by
 intro n
 induction n with
 | zero=>intro t pos d h;exact h.elim
 | succ n ih =>
   intro t pos d h
   have one : ∀ k m : Int,pos+1 = pos+((Val.mk k m []).size : Int):=fun k m=>by simp [Val.size,Val.sizes]
   rw [mkF]
   by_cases h0 : t.kind = 0
   · rw [if_pos h0]
     split
     · exact one _ _
     · split <;> exact one _ _
   rw [if_neg h0]
   by_cases h1 : t.kind = 1
   · rw [if_pos h1];exact one _ _
   rw [if_neg h1]
   by_cases h2 : t.kind = 2
   · rw [if_pos h2]
     have hk:=(fJ h h2).2
     have:=sj (g:=fun u q=>mkF p l n u q (d+1)) (List.replicate (if 3 < d then 0 else ((atL l pos 1048576).tmod 3).toNat) (t.kids.headD ty0)) (pos+1) fun u hu q=>by
       rw [List.eq_of_mem_replicate hu];exact ih _ q (d+1) hk
     simp only [Val.size]
     omega
   rw [if_neg h2]
   obtain ⟨h3,h4,h5⟩:=eY h h0 h1 h2
   by_cases hc : (aj p t.df).kind = 1
   · rw [if_pos hc]
     have hpos:=h4 hc
     have hlt : ((atL l pos 1048576).tmod (aj p t.df).slots.length).toNat < (aj p t.df).slots.length:=by
       have:=cC l pos 1048576 (by omega)
       rw [Int.tmod_eq_emod_of_nonneg this.1]
       have h6:=Int.emod_lt_of_pos (atL l pos 1048576) (show (0 : Int) < (aj p t.df).slots.length by omega)
       have h7:=Int.emod_nonneg (atL l pos 1048576) (show ((aj p t.df).slots.length : Int) ≠ 0 by omega)
       omega
     have:=ih (((aj p t.df).slots.map SlotT.ty).getD ((atL l pos 1048576).tmod (aj p t.df).slots.length).toNat ty0) (pos+1) (d+1) (by
       rw [List.getD_eq_getElem?_getD,List.getElem?_map,List.getElem?_eq_getElem hlt]
       exact h5 _ (List.getElem_mem hlt))
     simp only [Val.size,Val.sizes]
     omega
   rw [if_neg hc]
   have:=sj (g:=fun u q=>mkF p l n u q (d+1)) ((aj p t.df).slots.map SlotT.ty) (pos+1) fun u hu q=>by
     obtain ⟨s,hs1,rfl⟩:=List.mem_map.1 hu
     exact ih _ q (d+1) (h5 s hs1)
   simp only [Val.size]
   omega
theorem Val.jC {l : List Val} (h : ∀ k∈l,k.depth<=k.size) : Val.aV l<=Val.sizes l:=by
 induction l with
 | nil=>simp [Val.aV]
 | cons x xs ih =>
   have h1:=h x (List.mem_cons_self ..)
   have h2:=ih fun k hk=>h k (List.mem_cons_of_mem _ hk)
   simp only [Val.aV,Val.sizes]
   omega
theorem Val.sY (v : Val) : v.depth<=v.size:=by
 refine Val.vZ (p:=fun v=>v.depth<=v.size) (fun v ih=>?_) v
 rw [Val.sZ,Val.size_eq]
 have:=Val.jC ih
 omega
def lx (a b : Int) : Int:=if a ≠ 0 then a else b
theorem cmpV_lx (a b : Val) : jD a b = lx (eS a.kind b.kind) (lx (eS a.n b.n) (lx (eS a.kids.length b.kids.length) (gO a.kids b.kids))):=by rw [wU];rfl
theorem Aw (x y : Val) (xs ys : List Val) : gO (x::xs) (y::ys) = lx (jD x y) (gO xs ys):=by rw [gO];rfl
mutual
theorem vj : ∀ a : Val,jD a a = 0
 | .mk k n l=>by rw [cmpV_lx];simp only [Val.kind,Val.n,Val.kids,C9,ta l,lx];simp
theorem ta : ∀ l : List Val,gO l l = 0
 | []=>by rw [gO]
 | x::xs=>by rw [Aw,vj x,ta xs];rfl
end
theorem Val.open {M : Mem} {v : Val} {us : List Value} (h : RdL M v.enc us) : ∃ u,us = [av v.kind,av v.n,u]/\Rd M (.sl v.kids.length 3 (v.kids.flatMap Val.enc)) u:=by
 rw [Val.ay] at h
 obtain ⟨v0,t0,rfl,r0,h⟩:=h.kQ
 obtain ⟨v1,t1,rfl,r1,h⟩:=h.kQ
 obtain ⟨v2,t2,rfl,r2,h⟩:=h.kQ
 obtain rfl:=h.unnil
 obtain rfl:=r0.int_eq
 obtain rfl:=r1.int_eq
 exact ⟨v2,rfl,r2⟩
theorem bE {p : ProgT} : ∀ {n m : Nat} {t : Ty},n<=m->wfT p n t->wfT p m t
 | 0,_,_,_,h=>h.elim
 | n+1,0,_,hm,_=>by omega
 | n+1,m+1,t,hm,h=>by
   rw [wfT] at h ⊢
   rcases h with h | h | h | h
   · exact .inl h
   · exact .inr (.inl h)
   · exact .inr (.inr (.inl ⟨h.1,h.2.1,bE (by omega) h.2.2⟩))
   · exact .inr (.inr (.inr ⟨h.1,h.2.1,h.2.2.1,h.2.2.2.1,h.2.2.2.2.1,fun s hs=>bE (by omega) (h.2.2.2.2.2 s hs)⟩))
theorem vH (p : ProgT) (n : Nat) : wfT p (n+1) ty0:=.inl rfl
theorem B0 {p : ProgT} {n : Nat} {t : Ty} (h : wfT p n t) : wfT p (n+1) (bF t):=.inr (.inr (.inl ⟨rfl,by simp [bF,Ty.kids],h⟩))
mutual
theorem mX : ∀ (v : Val) (d s : Int),0<=s->((cJ v d s).1 = true↔((v.size : Int)<=s/\d+v.depth<=25))/\((cJ v d s).1 = true->(cJ v d s).2 = s - v.size)
 | .mk k n l,d,s,h=>by
   rw [cJ,Val.size,Val.depth]
   split
   · rename_i hc
     have:=qa l (d+1) (s - 1) (by omega) (by omega)
     refine ⟨⟨fun h=>?_,fun h=>?_⟩,fun h=>?_⟩
     · have:=this.1.1 h;omega
     · exact this.1.2 (by omega)
     · have:=this.2 h;omega
   · rename_i hc
     refine ⟨⟨fun h=>by simp at h,fun h=>absurd ?_ hc⟩,fun h=>by simp at h⟩
     omega
theorem qa : ∀ (l : List Val) (d s : Int),0<=s->d<=25->((dr l d s).1 = true↔((Val.sizes l : Int)<=s/\d+Val.aV l<=25))/\((dr l d s).1 = true->(dr l d s).2 = s - Val.sizes l)
 | [],d,s,h,hd=>by
   simp only [dr,Val.sizes,Val.aV,true_iff,forall_const]
   omega
 | v::vs,d,s,h,hd=>by
   have h1:=mX v d s h
   rw [dr,Val.sizes,Val.aV]
   split
   · rename_i hc
     have h2:=h1.1.1 hc
     have h3:=h1.2 hc
     have h4:=qa vs d (cJ v d s).2 (by omega) hd
     rw [h3] at h4 ⊢
     refine ⟨⟨fun h=>?_,fun h=>h4.1.2 (by omega)⟩,fun h=>?_⟩
     · have:=h4.1.1 h;omega
     · have:=h4.2 h;omega
   · rename_i hc
     refine ⟨⟨fun h=>by simp at h,fun h=>absurd (h1.1.2 ?_) hc⟩,fun h=>by simp at h⟩
     omega
end
theorem Ca (v : Val) : m8 v↔v.size<=256/\v.depth<=24:=by
 have:=(mX v 1 256 (by decide)).1
 unfold m8
 rw [this];omega
theorem jm (p : ProgT) (t : Ty) (v : Val) : gI p t v↔v.size<=256/\v.depth<=24/\aH p v t = true:=by
 unfold gI;rw [Ca,and_assoc]

theorem zW {p : ProgT} {t : Ty} (h : bg p t) (h0 : ¬ t.kind = 0) (h1 : ¬ t.kind = 1) (h2 : ¬ t.kind = 2) : t.kind = 3/\g9 p t.df:=by
 have h3 : t.kind = 3:=by
   rcases Decidable.em (t.kind = 3) with h3 | h3
   · exact h3
   · have:=((fB h2 h3).1 h).2.2;omega
 exact ⟨h3,((kP h3).1 h).1⟩
def vdT (p : ProgT) : Nat->Ty->Prop
 | 0,_=>False
 | n+1,t=>bg p t/\(t.kind = 2->vdT p n (t.kids.headD ty0))/\(t.kind = 3->∀ s∈(aj p t.df).slots,vdT p n s.ty)
theorem uL {p : ProgT} {g : Ty->Int->MR} : ∀ (ts : List Ty) (pos : Int),(∀ t∈ts,∀ q,aH p (g t q).1 t = true)->oI p (mkS g ts pos).1 ts = true/\(mkS g ts pos).1.length = ts.length
 | [],_,_=>by simp [mkS,oI]
 | t::ts,pos,h=>by
   have k1:=h t (List.mem_cons_self ..) pos
   have k2:=uL ts (g t pos).2 fun u hu=>h u (List.mem_cons_of_mem _ hu)
   simp only [mkS,oI,k1,k2.1,Bool.and_self,List.length_cons,k2.2,and_self]
theorem uM {p : ProgT} {g : Ty->Int->MR} {t : Ty} (h : ∀ q,aH p (g t q).1 t = true) : ∀ (m : Nat) (pos : Int),jb p (mkS g (List.replicate m t) pos).1 t = true
 | 0,_=>by simp [mkS,jb]
 | m+1,pos=>by
   rw [List.replicate_succ,mkS,jb,h pos,uM h m (g t pos).2];rfl
theorem EK {p : ProgT} {l : List Int} : ∀ (n : Nat) (t : Ty) (pos d : Int),wfT p n t->vdT p n t->aH p (mkF p l n t pos d).1 t = true:=by
 intro n
 induction n with
 | zero=>intro t pos d h;exact h.elim
 | succ n ih =>
   intro t pos d h hd
   obtain ⟨hv,hd2,hd3⟩:=hd
   have hc:=cC l pos 1048576 (by omega)
   have hq : (atL l pos 1048576).tdiv 16 = atL l pos 1048576 / 16:=Int.tdiv_eq_ediv_of_nonneg hc.1
   have hq3 : ((atL l pos 1048576).tdiv 16).tmod 3 = atL l pos 1048576 / 16 % 3:=by rw [hq,Int.tmod_eq_emod_of_nonneg (by omega)]
   have hq9 : ((atL l pos 1048576).tdiv 16).tmod 9 = atL l pos 1048576 / 16 % 9:=by rw [hq,Int.tmod_eq_emod_of_nonneg (by omega)]
   have hr2 : (atL l pos 1048576).tmod 2 = atL l pos 1048576 % 2:=Int.tmod_eq_emod_of_nonneg hc.1
   rw [mkF]
   by_cases h0 : t.kind = 0
   · rw [if_pos h0]
     split
     · exact (sH hv h0).2 ⟨rfl,rfl,by simp only [Val.n];omega,by simp only [Val.n];omega⟩
     · split
       · exact (sH hv h0).2 ⟨rfl,rfl,by simp only [Val.n];omega,by simp only [Val.n];omega⟩
       · exact (sH hv h0).2 ⟨rfl,rfl,by simp only [Val.n];omega,by simp only [Val.n];omega⟩
   rw [if_neg h0]
   by_cases h1 : t.kind = 1
   · rw [if_pos h1];exact (yy hv h1).2 ⟨rfl,rfl,by simp only [Val.n];omega⟩
   rw [if_neg h1]
   by_cases h2 : t.kind = 2
   · rw [if_pos h2]
     have hk:=(fJ h h2).2
     rw [dB,if_neg h0,if_neg h1,if_pos h2]
     have kL:=uM (p:=p) (g:=fun u q=>mkF p l n u q (d+1)) (t:=t.kids.headD ty0) (fun q=>ih _ q (d+1) hk (hd2 h2)) (if 3 < d then 0 else ((atL l pos 1048576).tmod 3).toNat) (pos+1)
     simp only [Val.kind,Val.n,Val.kids,kL,hv,decide_true,Bool.and_self]
   rw [if_neg h2]
   obtain ⟨h3,h4,h5⟩:=eY h h0 h1 h2
   obtain ⟨hk3,_,hkd⟩:=zW hv h0 h1 h2
   by_cases hcd : (aj p t.df).kind = 1
   · rw [if_pos hcd]
     have hpos:=h4 hcd
     have h6:=Int.emod_lt_of_pos (atL l pos 1048576) (show (0 : Int) < (aj p t.df).slots.length by omega)
     have h7:=Int.emod_nonneg (atL l pos 1048576) (show ((aj p t.df).slots.length : Int) ≠ 0 by omega)
     have hm : (atL l pos 1048576).tmod (aj p t.df).slots.length = atL l pos 1048576 % (aj p t.df).slots.length:=Int.tmod_eq_emod_of_nonneg hc.1
     have hlt : ((atL l pos 1048576).tmod (aj p t.df).slots.length).toNat < (aj p t.df).slots.length:=by omega
     rw [getD_map hlt]
     refine (Fq (v:=.mk 3 ((atL l pos 1048576).tmod (aj p t.df).slots.length) [_]) hv h0 h1 h2 hcd rfl (show 0<=(atL l pos 1048576).tmod (aj p t.df).slots.length by omega) hlt rfl).2 ?_
     exact ih _ (pos+1) (d+1) (h5 _ (List.getElem_mem hlt)) (hd3 hk3 _ (List.getElem_mem hlt))
   rw [if_neg hcd]
   have k:=uL (p:=p) (g:=fun u q=>mkF p l n u q (d+1)) ((aj p t.df).slots.map SlotT.ty) (pos+1) fun u hu q=>by
     obtain ⟨s,hs1,rfl⟩:=List.mem_map.1 hu
     exact ih _ q (d+1) (h5 s hs1) (hd3 hk3 s hs1)
   rw [dB,if_neg h0,if_neg h1,if_neg h2,if_neg hcd]
   simp only [Val.kind,Val.n,Val.kids,k.1,k.2,hv,List.length_map,decide_true,Bool.and_self]
theorem pe {g : Ty->Int->MR} {n : Nat} : ∀ (ts : List Ty) (pos : Int),(∀ t∈ts,∀ q,(g t q).1.depth<=n)->Val.aV (mkS g ts pos).1<=n
 | [],_,_=>by simp [mkS,Val.aV]
 | t::ts,pos,h=>by
   have k1:=h t (List.mem_cons_self ..) pos
   have k2:=pe ts (g t pos).2 fun u hu=>h u (List.mem_cons_of_mem _ hu)
   simp only [mkS,Val.aV];omega
theorem CG {p : ProgT} {l : List Int} : ∀ (n : Nat) (t : Ty) (pos d : Int),wfT p n t->(mkF p l n t pos d).1.depth<=n:=by
 intro n
 induction n with
 | zero=>intro t pos d h;exact h.elim
 | succ n ih =>
   intro t pos d h
   rw [mkF]
   by_cases h0 : t.kind = 0
   · rw [if_pos h0]
     split
     · simp [Val.depth,Val.aV]
     · split <;> simp [Val.depth,Val.aV]
   rw [if_neg h0]
   by_cases h1 : t.kind = 1
   · rw [if_pos h1];simp [Val.depth,Val.aV]
   rw [if_neg h1]
   by_cases h2 : t.kind = 2
   · rw [if_pos h2]
     have hk:=(fJ h h2).2
     have:=pe (n:=n) (g:=fun u q=>mkF p l n u q (d+1)) (List.replicate (if 3 < d then 0 else ((atL l pos 1048576).tmod 3).toNat) (t.kids.headD ty0)) (pos+1) fun u hu q=>by rw [List.eq_of_mem_replicate hu];exact ih _ q (d+1) hk
     simp only [Val.depth];omega
   rw [if_neg h2]
   obtain ⟨h3,h4,h5⟩:=eY h h0 h1 h2
   by_cases hcd : (aj p t.df).kind = 1
   · rw [if_pos hcd]
     have hpos:=h4 hcd
     have hc:=cC l pos 1048576 (by omega)
     have h6:=Int.emod_lt_of_pos (atL l pos 1048576) (show (0 : Int) < (aj p t.df).slots.length by omega)
     have h7:=Int.emod_nonneg (atL l pos 1048576) (show ((aj p t.df).slots.length : Int) ≠ 0 by omega)
     have hm : (atL l pos 1048576).tmod (aj p t.df).slots.length = atL l pos 1048576 % (aj p t.df).slots.length:=Int.tmod_eq_emod_of_nonneg hc.1
     have hlt : ((atL l pos 1048576).tmod (aj p t.df).slots.length).toNat < (aj p t.df).slots.length:=by omega
     rw [getD_map hlt]
     have:=ih _ (pos+1) (d+1) (h5 _ (List.getElem_mem hlt))
     simp only [Val.depth,Val.aV];omega
   rw [if_neg hcd]
   have:=pe (n:=n) (g:=fun u q=>mkF p l n u q (d+1)) ((aj p t.df).slots.map SlotT.ty) (pos+1) fun u hu q=>by
     obtain ⟨s,hs1,rfl⟩:=List.mem_map.1 hu
     exact ih _ q (d+1) (h5 s hs1)
   simp only [Val.depth];omega
theorem Ah {p : ProgT} {v : Val} {t : Ty} (h : aH p v t = true) : bg p t:=by
 rcases Decidable.em (bg p t) with hv | hv
 · exact hv
 · exact absurd h (Fo hv)
def intOf (h W : Nat) : Int:=if h < 128 then -1 - (W : Int) else (W : Int)
end Xe
