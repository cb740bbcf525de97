/- Xe1, Xe2, Api, Pure, Xe3, Xe4, XeLd, PureA, put together. -/
import Derived.WalkKit
import Derived.Deep.Quiet
import Derived.OrdersHeld
import Derived.ProofKit
import Derived.SizedLaws
import Derived.Below
import Derived.Recover
import Derived.Carry
import Derived.OpenShut
import Derived.Deep.CondSized
import Derived.Scope
import Derived.Lib.AppendZeros
import Derived.Laws.Bits64b
import Derived.Deep.DeepHandedRow
import Derived.LaidMore
import Derived.KernelRfl
namespace Xe
theorem Q0 {p : Prop} (h : p:=by omega) : p:=h
theorem Q1 {p : Prop} (h : p:=by decide) : p:=h
theorem Q2 {p : Prop} (h : p:=by simp) : p:=h
theorem Q3 {p : Prop} (h : p:=by rfl) : p:=h
theorem Q4 {p : Prop} (h : p:=by unfold okI;omega) : p:=h
theorem Q5 {p : Prop} (h : p:=by first | (simp;done) | simp [IdT.vals]) : p:=h
theorem Q6 {p : Prop} (h : p:=by first | (simp [Value.oneCell'];done) | simp [Value.oneCell',IdT.vals]) : p:=h
theorem Q7 {p : Prop} (h : p:=by first | exact Kn.lenRds MM EL | exact Kn.lenLit rfl) : p:=h
theorem Q8 {p : Prop} (h : p:=by first | exact decide_eq_true_iff | (simp only [decide_eq_true_eq];omega) | (simp only [true_iff];omega) | (simp only [Bool.false_eq_true,false_iff];omega)) : p:=h
theorem Q9 {p : Prop} (h : p:=by first | omega | (simp;done) | (simp;omega)) : p:=h
theorem Qa {p : Prop} (h : p:=by unfold room;omega) : p:=h
theorem Qb {p : Prop} (h : p:=by simp <;> omega) : p:=h
theorem Qc {p : Prop} (h : p:=by simp;omega) : p:=h
end Xe
namespace Xe
open Go


abbrev Lm:=List (Nat×Value)

def getL : Lm->Nat->Option Value
 | [],_=>none
 | (t,v)::r,s=>match Nat.beq s t with
  | true=>some v
  | false=>getL r s

def evL (L : Lm) : Operand->Option Value
 | .tmp t=>getL L t
 | .const v=>some v
 | .global g=>some (.pointer (some ⟨g,0,none⟩))
 | .func f=>some (.func (.func f) #[] #[])

structure Sat (n : Nat) (L : Lm) (a : Act) : Prop where
 size : a.tmps.size = n
 defers : a.defers = []
 get : ∀ t v,getL L t = some v->a.tmps[t]? = some v

theorem Sat.ev {n : Nat} {L : Lm} {a : Act} (h : Sat n L a) {x : Operand} {v : Value} (hx : evL L x = some v) : a.eval x = v:=by
 cases x with
 | tmp t =>
  have:=h.get t v hx
  simp only [Act.eval,Array.getD_eq_getD_getElem?,this,Option.getD_some]
 | const c=>simpa [evL,Act.eval] using hx
 | global g=>simpa [evL,Act.eval] using hx
 | func f=>simpa [evL,Act.eval] using hx

theorem Sat.put {n d : Nat} {L : Lm} {a : Act} {v : Value} (h : Sat n L a) (hd : Nat.blt d n = true) : Sat n ((d,v)::L) (a.put (some d) v):=by
 have hd' : d < n:=by simpa [Nat.blt_eq] using hd
 refine ⟨by simp [Act.put,h.size],by simp [Act.put,h.defers],fun t u ht=>?_⟩
 simp only [getL] at ht
 by_cases e : t = d
 ·subst e
  have hb : Nat.beq t t = true:=Nat.beq_refl t
  rw [hb] at ht
  simp only [Option.some.injEq] at ht
  subst ht
  have : t < a.tmps.size:=by rw [h.size];exact hd'
  simp [Act.put,this]
 ·have hb : Nat.beq t d = false:=by
   cases hb : Nat.beq t d with
   | false=>rfl
   | true=>exact absurd (Nat.eq_of_beq_eq_true hb) e
  rw [hb] at ht
  have:=h.get t u ht
  simp only [Act.put]
  rw [Array.getElem?_setIfInBounds_ne Q0]
  exact this

theorem Sat.keep {n : Nat} {L L' : Lm} {a : Act} (h : Sat n L a) (hk : ∀ t v,getL L' t = some v->getL L t = some v) : Sat n L' a :=
 ⟨h.size,h.defers,fun t v ht=>h.get t v (hk t v ht)⟩

def Keep (L L' : Lm) : Prop:=∀ t v,getL L' t = some v->getL L t = some v
theorem Keep.nil (L : Lm) : Keep L []:=fun _ _ h=>by simp [getL] at h
theorem Keep.cons {L L' : Lm} (t : Nat) {v : Value} (h : getL L t = some v) (k : Keep L L') : Keep L ((t,v)::L'):=fun s u hs=>by
 simp only [getL] at hs
 cases hb : Nat.beq s t with
 | true =>
  rw [hb] at hs
  simp only [Option.some.injEq] at hs
  subst hs
  rw [Nat.eq_of_beq_eq_true hb];exact h
 | false=>rw [hb] at hs;exact k s u hs
theorem Keep.refl (L : Lm) : Keep L L:=fun _ _ h=>h


abbrev Mem:=Nat->Option Obj
def Sub (M M' : Mem) : Prop:=∀ b o,M b = some o->M' b = some o
theorem Sub.refl (M : Mem) : Sub M M:=fun _ _ h=>h
theorem Sub.trans {M M' M'' : Mem} (h : Sub M M') (k : Sub M' M'') : Sub M M'':=fun b o hb=>k b o (h b o hb)

def adr (a : Option Addr) (i : Nat) : Addr:=(a.getD default).add i
theorem adr_add (a : Option Addr) (i j : Nat) : (adr a i).add j = adr a (i+j):=by
 unfold adr Addr.add
 by_cases hi : i = 0
 ·subst hi
  by_cases hj : j = 0
  ·simp [hj]
  ·simp
 ·by_cases hj : j = 0
  ·simp [hj]
  ·have : i+j ≠ 0:=Q0
   simp [hi,hj,Nat.add_assoc]
theorem adr_some (b o i : Nat) : adr (some ⟨b,o,none⟩) i = ⟨b,o+i,none⟩:=by
 unfold adr Addr.add
 by_cases hi : i = 0
 ·simp [hi]
 ·simp [hi]
def cellM (M : Mem) (p : Addr) : Option Value :=
 match M p.block with
 | some (.cells c _ _)=>if p.spot.isSome then none else c[p.off]?
 | _=>none

theorem cellM_mono {M M' : Mem} (h : Sub M M') {p : Addr} {v : Value} (hv : cellM M p = some v) : cellM M' p = some v:=by
 unfold cellM at *
 cases hM : M p.block with
 | none=>simp [hM] at hv
 | some o=>rw [h _ _ hM];rw [hM] at hv;exact hv

inductive D where
 | v (x : Value)
 | sl (n sz : Nat) (cs : List D)

def lim : Nat:=140737488355328

mutual
def Rd (M : Mem) : D->Value->Prop
 | .v x,u=>u = x/\x.oneCell' = true
 | .sl n sz cs,u=>∃ a cap,u = .slice a n cap/\n<=cap/\cap<=maxLen/\n<=lim/\cs.length = n * sz/\(0 < n->a.isSome = true)/\RdC M a 0 cs
def RdC (M : Mem) (a : Option Addr) : Nat->List D->Prop
 | _,[]=>True
 | i,d::ds=>(∃ u,cellM M (adr a i) = some u/\Rd M d u)/\RdC M a (i+1) ds
end

mutual
theorem Rd.mono {M M' : Mem} (h : Sub M M') : ∀ (d : D) (u : Value),Rd M d u->Rd M' d u
 | .v x,u,hr=>by simpa [Rd] using hr
 | .sl n sz cs,u,hr=>by
  simp only [Rd] at hr ⊢
  obtain ⟨a,cap,h1,h2,h3,h4,h5,h6,h7⟩:=hr
  exact ⟨a,cap,h1,h2,h3,h4,h5,h6,RdC.mono h a cs 0 h7⟩
theorem RdC.mono {M M' : Mem} (h : Sub M M') (a : Option Addr) : ∀ (cs : List D) (i : Nat),RdC M a i cs->RdC M' a i cs
 | [],i,_=>by simp [RdC]
 | d::ds,i,hr=>by
  simp only [RdC] at hr ⊢
  obtain ⟨⟨u,h1,h2⟩,h3⟩:=hr
  exact ⟨⟨u,cellM_mono h h1,Rd.mono h d u h2⟩,RdC.mono h a ds (i+1) h3⟩
end

theorem RdC.get {M : Mem} {a : Option Addr} : ∀ (cs : List D) (i : Nat),RdC M a i cs->∀ (k : Nat) (d : D),cs[k]? = some d->∃ u,cellM M (adr a (i+k)) = some u/\Rd M d u
 | [],_,_,k,d,hk=>by simp at hk
 | e::es,i,h,k,d,hk=>by
  simp only [RdC] at h
  cases k with
  | zero=>simp only [List.getElem?_cons_zero,Option.some.injEq] at hk;subst hk;exact h.1
  | succ k =>
   obtain ⟨u,h1,h2⟩:=RdC.get es (i+1) h.2 k d (by simpa using hk)
   exact ⟨u,by rw [show i+(k+1) = i+1+k from by omega];exact h1,h2⟩

theorem RdC.mk {M : Mem} {a : Option Addr} : ∀ (cs : List D) (i : Nat),(∀ (k : Nat) (d : D),cs[k]? = some d->∃ u,cellM M (adr a (i+k)) = some u/\Rd M d u)->RdC M a i cs
 | [],_,_=>by simp [RdC]
 | e::es,i,h=>by
  simp only [RdC]
  refine ⟨?_,RdC.mk es (i+1) fun k d hk=>?_⟩
  ·have:=h 0 e rfl;simpa using this
  ·have:=h (k+1) d (by simpa using hk)
   rwa [show i+(k+1) = i+1+k from by omega] at this

def RdL (M : Mem) (ds : List D) (us : List Value) : Prop:=us.length = ds.length/\∀ (k : Nat) (d : D) (u : Value),ds[k]? = some d->us[k]? = some u->Rd M d u
theorem RdL.mono {M M' : Mem} (h : Sub M M') {ds : List D} {us : List Value} (hr : RdL M ds us) : RdL M' ds us :=
 ⟨hr.1,fun k d u h1 h2=>Rd.mono h d u (hr.2 k d u h1 h2)⟩
theorem RdL.nil (M : Mem) : RdL M [] []:=⟨rfl,fun k d u h _=>by simp at h⟩
theorem RdL.cons {M : Mem} {d : D} {u : Value} {ds : List D} {us : List Value} (h : Rd M d u) (k : RdL M ds us) : RdL M (d::ds) (u::us) :=
 ⟨by simp [k.1],fun i e x h1 h2=>by
  cases i with
  | zero=>simp only [List.getElem?_cons_zero,Option.some.injEq] at h1 h2;subst h1 h2;exact h
  | succ i=>exact k.2 i e x (by simpa using h1) (by simpa using h2)⟩
theorem RdL.append {M : Mem} {ds es : List D} {us xs : List Value} (h : RdL M ds us) (k : RdL M es xs) : RdL M (ds++es) (us++xs):=by
 refine ⟨by simp [h.1,k.1],fun i d u h1 h2=>?_⟩
 by_cases hi : i < ds.length
 ·rw [List.getElem?_append_left hi] at h1
  rw [List.getElem?_append_left (by rw [h.1];exact hi)] at h2
  exact h.2 i d u h1 h2
 ·rw [List.getElem?_append_right Q0] at h1
  rw [List.getElem?_append_right (by rw [h.1];omega)] at h2
  rw [h.1] at h2
  exact k.2 _ d u h1 h2


inductive As where
 | rd (d : D) (u : Value)
 | rds (ds : List D) (us : List Value)
 | own (b : Nat) (e : TypeId) (cs : List Value)
 | acc (u : Value) (e : TypeId) (sz n : Nat) (us : List Value)
 | mp (b : Nat) (l : List (Value×Value))

def As.blk : As->Option Nat
 | .own b _ _=>some b
 | .acc u _ _ _ _=>u.ownBlock
 | .mp b _=>some b
 | _=>none

def As.ok (M : Mem) (w : World) : As->Prop
 | .rd d u=>Rd M d u
 | .rds ds us=>RdL M ds us
 | .own b e cs=>M b = none/\w.heap[b]? = some (.cells cs.toArray e (0,0))
 | .acc u e sz n us=>w.ownsRow 0 e sz u n us/\∀ b,u.ownBlock = some b->M b = none
 | .mp b l=>M b = none/\∃ es clock,w.heap[b]? = some (.map es clock)/\es.toList.map (fun e=>(e.key,e.val)) = l

structure St (w0 : World) (M : Mem) (Γ : List As) (w : World) : Prop where
 os : w.os = w0.os
 tape : w.tape = w0.tape
 output : w.output = w0.output
 size : w0.heap.size<=w.heap.size
 mem : ∀ b o,M b = some o->w.heap[b]? = some o
 all : ∀ x,x∈Γ->x.ok M w
 nodup : (Γ.filterMap As.blk).Nodup

theorem St.lt {w0 w : World} {M : Mem} {Γ : List As} (h : St w0 M Γ w) {b : Nat} {o : Obj} (hb : M b = some o) : b < w.heap.size:=by
 have:=h.mem b o hb
 exact (Array.getElem?_eq_some_iff.1 this).1

theorem St.fresh {w0 w : World} {M : Mem} {Γ : List As} (h : St w0 M Γ w) : M w.heap.size = none:=by
 cases hM : M w.heap.size with
 | none=>rfl
 | some o=>have:=h.lt hM;omega

theorem St.cell {w0 w : World} {M : Mem} {Γ : List As} (h : St w0 M Γ w) {p : Addr} {v : Value} (hv : cellM M p = some v) : w.cell? p = some v:=by
 unfold cellM at hv
 unfold World.cell?
 cases hM : M p.block with
 | none=>simp [hM] at hv
 | some o =>
  rw [h.mem _ _ hM]
  rw [hM] at hv
  cases o <;> first | exact hv | simp at hv

theorem As.ok_blk_lt {M : Mem} {w : World} {x : As} (h : x.ok M w) {b : Nat} (hb : x.blk = some b) : b < w.heap.size/\M b = none:=by
 cases x with
 | rd d u=>simp [As.blk] at hb
 | rds d u=>simp [As.blk] at hb
 | own b' e cs =>
  simp only [As.blk,Option.some.injEq] at hb
  subst hb
  exact ⟨(Array.getElem?_eq_some_iff.1 h.2).1,h.1⟩
 | acc u e sz n us =>
  simp only [As.blk] at hb
  exact ⟨(h.1.lt b hb).2,h.2 b hb⟩
 | mp b' l =>
  simp only [As.blk,Option.some.injEq] at hb
  subst hb
  obtain ⟨h1,es,clock,h2,_⟩:=h
  exact ⟨(Array.getElem?_eq_some_iff.1 h2).1,h1⟩

theorem As.ok_keep {M M' : Mem} {w w' : World} {x : As} (h : x.ok M w) (hs : Sub M M') (hb : ∀ b,x.blk = some b->w'.heap[b]? = w.heap[b]?/\M' b = none) : x.ok M' w':=by
 cases x with
 | rd d u=>exact Rd.mono hs d u h
 | rds ds us=>exact RdL.mono hs h
 | own b e cs=>exact ⟨(hb b rfl).2,by rw [(hb b rfl).1];exact h.2⟩
 | acc u e sz n us =>
  refine ⟨?_,fun b hbb=>(hb b hbb).2⟩
  obtain ⟨h1,h2⟩:=h.1
  refine ⟨h1,?_⟩
  rcases h2 with h2 | ⟨g,cap,cur,hv,hg,hh,r⟩
  ·exact .inl h2
  ·exact .inr ⟨g,cap,cur,hv,hg,by rw [(hb g (by subst hv;rfl)).1];exact hh,r⟩
 | mp b l =>
  obtain ⟨_,es,clock,h2,h3⟩:=h
  exact ⟨(hb b rfl).2,es,clock,by rw [(hb b rfl).1];exact h2,h3⟩


theorem mem_blk {Γ : List As} {x : As} {b : Nat} (hx : x∈Γ) (hb : x.blk = some b) : b∈Γ.filterMap As.blk:=List.mem_filterMap.2 ⟨x,hx,hb⟩

theorem St.draw {w0 w : World} {M : Mem} {Γ : List As} (h : St w0 M Γ w) (k : Nat) : St w0 M Γ { w with drawn:=k } :=
 ⟨h.os,h.tape,h.output,h.size,h.mem,fun x hx=>As.ok_keep (w':={ w with drawn:=k }) (h.all x hx) (Sub.refl M) fun _ hb=>⟨rfl,(As.ok_blk_lt (h.all x hx) hb).2⟩,h.nodup⟩

theorem St.sub {w0 w : World} {M : Mem} {Γ Γ' : List As} (h : St w0 M Γ w) (hs : List.Sublist Γ' Γ) : St w0 M Γ' w :=
 ⟨h.os,h.tape,h.output,h.size,h.mem,fun x hx=>h.all x (hs.subset hx),(hs.filterMap As.blk).nodup h.nodup⟩

theorem St.perm {w0 w : World} {M : Mem} {Γ Γ' : List As} (h : St w0 M Γ w) (hp : List.Perm Γ Γ') : St w0 M Γ' w :=
 ⟨h.os,h.tape,h.output,h.size,h.mem,fun x hx=>h.all x (hp.symm.subset hx),(hp.filterMap As.blk).nodup_iff.1 h.nodup⟩

theorem St.add {w0 w : World} {M : Mem} {Γ : List As} (h : St w0 M Γ w) {x : As} (hx : x.ok M w) (hb : x.blk = none) : St w0 M (x::Γ) w :=
 ⟨h.os,h.tape,h.output,h.size,h.mem,fun y hy=>by
  rcases List.mem_cons.1 hy with rfl | hy
  ·exact hx
  ·exact h.all y hy,by simpa [List.filterMap_cons,hb] using h.nodup⟩

theorem St.rd {w0 w : World} {M : Mem} {Γ : List As} (h : St w0 M Γ w) {d : D} {u : Value} (hm : As.rd d u∈Γ) : Rd M d u:=h.all _ hm

theorem St.back {w0 w w' : World} {M M' : Mem} {Γ : List As} (h : St w0 M Γ w) (h' : St w0 M' Γ w') (hs : Sub M M') : St w0 M Γ w' :=
 ⟨h'.os,h'.tape,h'.output,h'.size,fun b o hb=>h'.mem b o (hs b o hb),fun x hx=>by
  have h1:=h.all x hx
  have h2:=h'.all x hx
  cases x with
  | rd d u=>exact h1
  | rds d u=>exact h1
  | own b e cs=>exact ⟨h1.1,h2.2⟩
  | acc u e sz n us=>exact ⟨h2.1,h1.2⟩
  | mp b l=>exact ⟨h1.1,h2.2⟩,h.nodup⟩

def Turn (w0 : World) (M : Mem) (Γ : List As) (F : Mem->List As->Prop) : Prop:=∀ w,St w0 M Γ w->∃ M' Γ',F M' Γ'/\St w0 M' Γ' w
theorem Turn.of {w0 : World} {M M' : Mem} {Γ Γ' : List As} {F : Mem->List As->Prop} (h : F M' Γ') (k : ∀ w,St w0 M Γ w->St w0 M' Γ' w) : Turn w0 M Γ F:=fun w hw=>⟨M',Γ',h,k w hw⟩

theorem St.alloc {w0 w : World} {M : Mem} {Γ : List As} (h : St w0 M Γ w) (e : TypeId) (cs : List Value) :
  St w0 M (.own w.heap.size e cs::Γ) { w with heap:=w.heap.push (.cells cs.toArray e (0,0)) }:=by
 have hold : ∀ b,b < w.heap.size->(w.heap.push (.cells cs.toArray e (0,0)))[b]? = w.heap[b]?:=fun b hb=>by
  rw [Array.getElem?_push,if_neg Q0]
 refine ⟨h.os,h.tape,h.output,by simp;have:=h.size;omega,fun b o hb=>?_,fun x hx=>?_,?_⟩
 ·rw [hold b (h.lt hb)];exact h.mem b o hb
 ·rcases List.mem_cons.1 hx with rfl | hx
  ·exact ⟨h.fresh,Q2⟩
  ·exact As.ok_keep (h.all x hx) (Sub.refl M) fun b hb=>⟨hold b (As.ok_blk_lt (h.all x hx) hb).1,(As.ok_blk_lt (h.all x hx) hb).2⟩
 ·simp only [List.filterMap_cons,As.blk]
  refine List.nodup_cons.2 ⟨fun hm=>?_,h.nodup⟩
  obtain ⟨x,hx,hb⟩:=List.mem_filterMap.1 hm
  have:=(As.ok_blk_lt (h.all x hx) hb).1
  omega

theorem St.write {w0 w : World} {M : Mem} {Γ : List As} {b : Nat} {e : TypeId} {cs : List Value} (h : St w0 M (.own b e cs::Γ) w) (cs' : List Value) (w' : World)
  (hw : w' = { w with heap:=w.heap.setIfInBounds b (.cells cs'.toArray e (0,0)) }) : St w0 M (.own b e cs'::Γ) w':=by
 subst hw
 have hown:=h.all _ (List.mem_cons_self ..)
 have hlt : b < w.heap.size:=(Array.getElem?_eq_some_iff.1 hown.2).1
 have hne : ∀ k,k ≠ b->(w.heap.setIfInBounds b (.cells cs'.toArray e (0,0)))[k]? = w.heap[k]?:=fun k hk=>Array.getElem?_setIfInBounds_ne Q0
 have hnd:=h.nodup
 simp only [List.filterMap_cons,As.blk] at hnd
 refine ⟨h.os,h.tape,h.output,by simp;exact h.size,fun k o hk=>?_,fun x hx=>?_,by simpa [List.filterMap_cons,As.blk] using h.nodup⟩
 ·rw [hne k (fun e=>by subst e;rw [hown.1] at hk;cases hk)];exact h.mem k o hk
 ·rcases List.mem_cons.1 hx with rfl | hm
  ·exact ⟨hown.1,by simp [hlt]⟩
  ·have hx':=h.all x (List.mem_cons_of_mem _ hm)
   refine As.ok_keep hx' (Sub.refl M) fun k hk=>⟨hne k fun e=>?_,(As.ok_blk_lt hx' hk).2⟩
   subst e
   exact (List.nodup_cons.1 hnd).1 (mem_blk hm hk)

abbrev Pst:=Exit->Lm->Mem->List As->Prop

def Real (n : Nat) (w0 : World) (X : Pst) (e : Exit) (a : Act) (w : World) : Prop:=∃ L M Γ,X e L M Γ/\Sat n L a/\St w0 M Γ w

def CW (P : Program) (n : Nat) (w0 : World) (c : Code) (X : Pst) (L : Lm) (M : Mem) (Γ : List As) : Prop :=
 ∀ a w,Sat n L a->St w0 M Γ w->c.wp P (Real n w0 X) a w

def thenX (K : Lm->Mem->List As->Prop) (X : Pst) : Pst
 | .normal,L,M,Γ=>K L M Γ
 | e,L,M,Γ=>X e L M Γ

def blockX (id : Nat) (X : Pst) : Pst
 | .exit i,L,M,Γ=>match Nat.beq i id with
  | true=>X .normal L M Γ
  | false=>X (.exit i) L M Γ
 | e,L,M,Γ=>X e L M Γ

section
variable {P : Program} {n : Nat} {w0 : World} {X : Pst} {L : Lm} {M : Mem} {Γ : List As}

theorem CW.pre {c : Code} {L' : Lm} {M' : Mem} {Γ' : List As} (h : CW P n w0 c X L' M' Γ') (hL : Keep L L') (hG : ∀ w,St w0 M Γ w->St w0 M' Γ' w) : CW P n w0 c X L M Γ :=
 fun a w ha hw=>h a w (ha.keep hL) (hG w hw)

theorem CW.keep {c : Code} {L' : Lm} (hL : Keep L L') (h : CW P n w0 c X L' M Γ) : CW P n w0 c X L M Γ:=h.pre hL fun _ hw=>hw

theorem CW.seq {c1 c2 : Code} (h : ∀ K : Lm->Mem->List As->Prop,(∀ L M Γ,CW P n w0 c2 X L M Γ->K L M Γ)->CW P n w0 c1 (thenX K X) L M Γ) : CW P n w0 (.seq c1 c2) X L M Γ:=by
 intro a w ha hw
 refine wp_seq (wp_mono (h (fun L M Γ=>CW P n w0 c2 X L M Γ) (fun _ _ _ h=>h) a w ha hw) ?_)
 rintro e a w ⟨L,M,Γ,hX,h1,h2⟩
 cases e <;> first | exact hX a w h1 h2 | exact ⟨L,M,Γ,hX,h1,h2⟩

theorem CW.skip (h : X .normal L M Γ) : CW P n w0 .skip X L M Γ:=fun _ _ ha hw=>wp_skip ⟨L,M,Γ,h,ha,hw⟩
theorem CW.label {l : Nat} (h : X .normal L M Γ) : CW P n w0 (.label l) X L M Γ:=fun _ _ ha hw=>wp_label ⟨L,M,Γ,h,ha,hw⟩
theorem CW.exit {id : Nat} (h : X (.exit id) L M Γ) : CW P n w0 (.exit id) X L M Γ:=fun _ _ ha hw=>wp_exit ⟨L,M,Γ,h,ha,hw⟩
theorem CW.ret (h : X .ret L M Γ) : CW P n w0 .ret X L M Γ:=fun _ _ ha hw=>wp_ret ⟨L,M,Γ,h,ha,hw⟩

theorem CW.block {id : Nat} {c : Code} (h : CW P n w0 c (blockX id X) L M Γ) : CW P n w0 (.block id c) X L M Γ:=by
 intro a w ha hw
 refine wp_block (wp_mono (h a w ha hw) ?_)
 rintro e a w ⟨L,M,Γ,hX,h1,h2⟩
 cases e with
 | exit i =>
  simp only [Exit.inBlock]
  by_cases e : i = id
  ·subst e
   have hb : Nat.beq i i = true:=Nat.beq_refl i
   simp only [blockX,hb] at hX
   simp only [if_true]
   exact ⟨L,M,Γ,hX,h1,h2⟩
  ·have hb : Nat.beq i id = false:=by
    cases hb : Nat.beq i id with
    | false=>rfl
    | true=>exact absurd (Nat.eq_of_beq_eq_true hb) e
   simp only [blockX,hb] at hX
   rw [if_neg e]
   exact ⟨L,M,Γ,hX,h1,h2⟩
 | _=>exact ⟨L,M,Γ,hX,h1,h2⟩

theorem CW.cond {t : Operand} {c1 c2 : Code} {b : Bool} (ht : evL L t = some (.bool b)) (h1 : b = true->CW P n w0 c1 X L M Γ) (h2 : b = false->CW P n w0 c2 X L M Γ) : CW P n w0 (.cond t c1 c2) X L M Γ :=
 fun a w ha hw=>wp_cond_split (ha.ev ht) (fun hb=>h1 hb a w ha hw) (fun hb=>h2 hb a w ha hw)
theorem CW.yes {t : Operand} {c1 c2 : Code} (ht : evL L t = some (.bool true)) (h1 : CW P n w0 c1 X L M Γ) : CW P n w0 (.cond t c1 c2) X L M Γ :=
 fun a w ha hw=>wp_cond_true (ha.ev ht) (h1 a w ha hw)
theorem CW.no {t : Operand} {c1 c2 : Code} (ht : evL L t = some (.bool false)) (h1 : CW P n w0 c2 X L M Γ) : CW P n w0 (.cond t c1 c2) X L M Γ :=
 fun a w ha hw=>wp_cond_false (ha.ev ht) (h1 a w ha hw)
theorem CW.ite {t : Operand} {c1 c2 : Code} {p : Prop} [Decidable p] (ht : evL L t = some (.bool (decide p))) (h1 : p->CW P n w0 c1 X L M Γ) (h2 : ¬ p->CW P n w0 c2 X L M Γ) : CW P n w0 (.cond t c1 c2) X L M Γ :=
 CW.cond ht (fun h=>h1 (of_decide_eq_true h)) (fun h=>h2 (of_decide_eq_false h))

theorem CW.loop {c : Code} (I : Nat->Lm->Mem->List As->Prop) (m : Nat) (h0 : I m L M Γ)
  (round : ∀ m L M Γ,I m L M Γ->CW P n w0 c (thenX (fun L M Γ=>∃ m',m' < m/\I m' L M Γ) X) L M Γ) : CW P n w0 (.loop c) X L M Γ:=by
 intro a w ha hw b k cs
 have key : ∀ m (L : Lm) (M : Mem) (Γ : List As) (a : Act) (w : World),I m L M Γ->Sat n L a->St w0 M Γ w ->
   ∃ e a' w',Real n w0 X e a' w'/\Arrives P (lone (b.at a (.code c::.inLoop c::k)) cs w) b k cs e a' w':=by
  intro m
  induction m using Nat.strongRecOn with
  | _ m ih =>
   intro L M Γ a w hI ha hw
   obtain ⟨e,a1,w1,hq,harr⟩:=round m L M Γ hI a w ha hw b (.inLoop c::k) cs
   obtain ⟨L1,M1,Γ1,hX,h1,h2⟩:=hq
   cases e with
   | normal =>
    obtain ⟨m',hlt,hI'⟩:=hX
    obtain ⟨e2,a2,w2,hq2,harr2⟩:=ih m' hlt L1 M1 Γ1 a1 w1 hI' h1 h2
    exact ⟨e2,a2,w2,hq2,.of_steps (Steps.trans harr (.one step_inLoop)) harr2⟩
   | exit id=>exact ⟨_,a1,w1,⟨L1,M1,Γ1,hX,h1,h2⟩,.pass (x:=.inLoop c) rfl (fun _ _=>.inl Q2) harr⟩
   | goto l=>exact ⟨_,a1,w1,⟨L1,M1,Γ1,hX,h1,h2⟩,.pass (x:=.inLoop c) rfl (fun _ _=>.inl Q2) harr⟩
   | ret=>exact ⟨_,a1,w1,⟨L1,M1,Γ1,hX,h1,h2⟩,.pass (x:=.inLoop c) rfl (fun _ _=>.inl Q2) harr⟩
   | panic ch=>exact ⟨_,a1,w1,⟨L1,M1,Γ1,hX,h1,h2⟩,.pass (x:=.inLoop c) rfl (fun _ _=>.inl Q2) harr⟩
   | outgrown=>exact ⟨_,a1,w1,⟨L1,M1,Γ1,hX,h1,h2⟩,.pass (x:=.inLoop c) rfl (fun _ _=>.inl Q2) harr⟩
 obtain ⟨e,a',w',hq,harr⟩:=key m L M Γ a w h0 ha hw
 exact ⟨e,a',w',hq,.of_steps (.one step_loop) harr⟩
end
abbrev Post:=Value->Mem->List As->Prop
def RetP (w0 : World) (R : Post) (e : Ending) (w' : World) : Prop:=∃ v M Γ,e = .returned v/\R v M Γ/\St w0 M Γ w'

def CallOk (P : Program) (w0 : World) (M : Mem) (Γ : List As) (f : FuncId) (args : Array Value) (R : Post) : Prop :=
 ∀ w,St w0 M Γ w->Calls P f args w (RetP w0 R)


def RL (P : Program) (n : Nat) (w0 : World) (ops : Array Oper) (rest : List Oper) (L : Lm) (M : Mem) (Γ : List As) (K : Lm->Mem->List As->Prop) : Prop :=
 ∀ R : Exit->Act->World->Prop,(∀ L M Γ,K L M Γ->∀ a w,Sat n L a->St w0 M Γ w->R .normal a w)->∀ a w,Sat n L a->St w0 M Γ w->wpList P ops R rest a w

def Yq (P : Program) (w0 : World) (L : Lm) (M : Mem) (Γ : List As) (o : Oper) (v : Value) : Prop :=
 ∀ n a w,Sat n L a->St w0 M Γ w->(execOp a.eval o).run P w = .ok (.value v) w

def Want (ops : Array Oper) (L : Lm) (o : Oper) (b : Bool) : Prop :=
 match o.guard with
 | none=>b = true
 | some (j,want)=>∃ t x,(ops[j]?).bind (·.dst) = some t/\getL L t = some (.bool x)/\b = (x == want)

theorem Want.spec {ops : Array Oper} {L : Lm} {o : Oper} {b : Bool} (h : Want ops L o b) {n : Nat} {a : Act} (ha : Sat n L a) : Region.wanted o (yielded ops a.tmps) = b:=by
 unfold Want at h
 unfold Region.wanted
 split at h
 ·rename_i hg
  rw [hg];exact h.symm
 ·rename_i j want hg
  obtain ⟨t,x,ht,hx,rfl⟩:=h
  rw [hg]
  have:=ha.get t _ hx
  simp only [yielded,ht,Option.bind_some,this]
  cases x <;> cases want <;> rfl

section
variable {P : Program} {n : Nat} {w0 : World} {ops : Array Oper} {rest : List Oper} {L : Lm} {M : Mem} {Γ : List As} {K : Lm->Mem->List As->Prop}

theorem RL.nil (h : K L M Γ) : RL P n w0 ops [] L M Γ K:=fun _ hR a w ha hw=>hR L M Γ h a w ha hw

theorem RL.pre {L' : Lm} {M' : Mem} {Γ' : List As} (hL : Keep L L') (hG : ∀ w,St w0 M Γ w->St w0 M' Γ' w) (h : RL P n w0 ops rest L' M' Γ' K) : RL P n w0 ops rest L M Γ K :=
 fun R hR a w ha hw=>h R hR a w (ha.keep hL) (hG w hw)

theorem RL.know {F : Prop} (hF : ∀ w,St w0 M Γ w->F) (h : F->RL P n w0 ops rest L M Γ K) : RL P n w0 ops rest L M Γ K :=
 fun R hR a w ha hw=>h (hF w hw) R hR a w ha hw

theorem RL.q {op : Op} {ty : TypeId} {pos : String} {after : Array Edge} {d : Nat} {v : Value} (hy : Yq P w0 L M Γ ⟨some d,op,ty,pos,after,none⟩ v) (hd : Nat.blt d n = true)
  (h : RL P n w0 ops rest ((d,v)::L) M Γ K) : RL P n w0 ops (⟨some d,op,ty,pos,after,none⟩::rest) L M Γ K:=by
 intro R hR a w ha hw
 unfold wpList
 rw [if_pos (by simp [Region.wanted])]
 refine .inl ?_
 unfold Oper.wp
 rw [hy n a w ha hw]
 exact h R hR _ _ (ha.put hd) hw

theorem RL.qg {op : Op} {ty : TypeId} {pos : String} {after : Array Edge} {g : Nat×Bool} {d : Nat} {v : Value} (hg : Want ops L ⟨some d,op,ty,pos,after,some g⟩ true) (hy : Yq P w0 L M Γ ⟨some d,op,ty,pos,after,some g⟩ v) (hd : Nat.blt d n = true)
  (h : RL P n w0 ops rest ((d,v)::L) M Γ K) : RL P n w0 ops (⟨some d,op,ty,pos,after,some g⟩::rest) L M Γ K:=by
 intro R hR a w ha hw
 unfold wpList
 rw [if_pos (hg.spec ha)]
 refine .inl ?_
 unfold Oper.wp
 rw [hy n a w ha hw]
 exact h R hR _ _ (ha.put hd) hw

theorem RL.no {op : Op} {ty : TypeId} {pos : String} {after : Array Edge} {g : Nat×Bool} {d : Nat} (hg : Want ops L ⟨some d,op,ty,pos,after,some g⟩ false) (hd : Nat.blt d n = true)
  (h : RL P n w0 ops rest ((d,undef)::L) M Γ K) : RL P n w0 ops (⟨some d,op,ty,pos,after,some g⟩::rest) L M Γ K:=by
 intro R hR a w ha hw
 unfold wpList
 rw [if_neg (by rw [hg.spec ha];simp)]
 exact h R hR _ _ (ha.put hd) hw

theorem RL.qw {op : Op} {ty : TypeId} {pos : String} {after : Array Edge} {g : Option (Nat×Bool)} {d : Nat} {v : Value} (hg : Want ops L ⟨some d,op,ty,pos,after,g⟩ true) (hy : Yq P w0 L M Γ ⟨some d,op,ty,pos,after,g⟩ v) (hd : Nat.blt d n = true)
  (h : RL P n w0 ops rest ((d,v)::L) M Γ K) : RL P n w0 ops (⟨some d,op,ty,pos,after,g⟩::rest) L M Γ K:=by
 intro R hR a w ha hw
 unfold wpList
 rw [if_pos (hg.spec ha)]
 refine .inl ?_
 unfold Oper.wp
 rw [hy n a w ha hw]
 exact h R hR _ _ (ha.put hd) hw

theorem RL.qs {op : Op} {ty : TypeId} {pos : String} {after : Array Edge} {d : Nat} {p : Prop} [Decidable p] (hy : Yq P w0 L M Γ ⟨some d,op,ty,pos,after,none⟩ (.bool (decide p))) (hd : Nat.blt d n = true)
  (h1 : p->RL P n w0 ops rest ((d,.bool true)::L) M Γ K) (h2 : ¬ p->RL P n w0 ops rest ((d,.bool false)::L) M Γ K) : RL P n w0 ops (⟨some d,op,ty,pos,after,none⟩::rest) L M Γ K:=by
 by_cases hp : p
 ·rw [decide_eq_true hp] at hy;exact RL.q hy hd (h1 hp)
 ·rw [decide_eq_false hp] at hy;exact RL.q hy hd (h2 hp)
theorem RL.e {op : Op} {ty : TypeId} {pos : String} {after : Array Edge} {d : Nat} (F : Value->Mem->List As->Prop)
  (hy : ∀ n a w,Sat n L a->St w0 M Γ w->∃ v w' M' Γ',(execOp a.eval ⟨some d,op,ty,pos,after,none⟩).run P w = .ok (.value v) w'/\F v M' Γ'/\St w0 M' Γ' w') (hd : Nat.blt d n = true)
  (h : ∀ v M' Γ',F v M' Γ'->RL P n w0 ops rest ((d,v)::L) M' Γ' K) : RL P n w0 ops (⟨some d,op,ty,pos,after,none⟩::rest) L M Γ K:=by
 intro R hR a w ha hw
 unfold wpList
 rw [if_pos (by simp [Region.wanted])]
 refine .inl ?_
 unfold Oper.wp
 obtain ⟨v,w',M',Γ',hr,hF,hw'⟩:=hy n a w ha hw
 rw [hr]
 exact h v M' Γ' hF R hR _ _ (ha.put hd) hw'

theorem RL.s {op : Op} {ty : TypeId} {pos : String} {after : Array Edge} {Γ' : List As}
  (hy : ∀ n a w,Sat n L a->St w0 M Γ w->∃ w',(execOp a.eval ⟨none,op,ty,pos,after,none⟩).run P w = .ok .skip w'/\St w0 M Γ' w')
  (h : RL P n w0 ops rest L M Γ' K) : RL P n w0 ops (⟨none,op,ty,pos,after,none⟩::rest) L M Γ K:=by
 intro R hR a w ha hw
 unfold wpList
 rw [if_pos (by simp [Region.wanted])]
 refine .inl ?_
 unfold Oper.wp
 obtain ⟨w',hr,hw'⟩:=hy n a w ha hw
 rw [hr]
 exact h R hR _ _ ha hw'

theorem RL.c {op : Op} {ty : TypeId} {pos : String} {after : Array Edge} {g : Option (Nat×Bool)} {d : Nat} {f : FuncId} {args : Array Value} {F : Post} (hg : Want ops L ⟨some d,op,ty,pos,after,g⟩ true)
  (hy : ∀ n a w,Sat n L a->(execOp a.eval ⟨some d,op,ty,pos,after,g⟩).run P w = .ok (.enter f args) w) (hd : Nat.blt d n = true)
  (hc : CallOk P w0 M Γ f args F)
  (h : ∀ v M' Γ',F v M' Γ'->RL P n w0 ops rest ((d,v)::L) M' Γ' K) : RL P n w0 ops (⟨some d,op,ty,pos,after,g⟩::rest) L M Γ K:=by
 intro R hR a w ha hw
 unfold wpList
 rw [if_pos (hg.spec ha)]
 refine .inl ?_
 unfold Oper.wp
 rw [hy n a w ha]
 refine (hc w hw).mono ?_
 rintro e w' ⟨v,M',Γ',rfl,hF,hw'⟩
 exact h v M' Γ' hF R hR _ _ (ha.put hd) hw'

theorem CW.region {id : Nat} {X : Pst} {l : List Oper} (h : RL P n w0 l.toArray l L M Γ (X .normal)) : CW P n w0 (.region id l.toArray false) X L M Γ :=
 fun a w ha hw=>wp_region_lit (h _ (fun L M Γ hX _ _ ha hw=>⟨L,M,Γ,hX,ha,hw⟩) a w ha hw)
end


section
variable {P : Program} {n : Nat} {w0 : World} {ops : Array Oper} {C0 : List As} {rest : List Oper} {L : Lm} {M : Mem} {Γ : List As} {K : Lm->List As->Prop}

end


def endX (w0 : World) (r : Nat) (R : Post) : Pst
 | .ret,L,M,Γ | .normal,L,M,Γ=>∃ v,getL L r = some v/\Turn w0 M Γ (R v)
 | _,_,_,_=>False

def slotsOf : Nat->List Value->Lm
 | _,[]=>[]
 | i,v::vs=>(i,v)::slotsOf (i+1) vs

theorem slotsOf_get : ∀ (vs : List Value) (i t : Nat) (v : Value),getL (slotsOf i vs) t = some v->∃ k,t = i+k/\vs[k]? = some v
 | [],_,_,_,h=>by simp [slotsOf,getL] at h
 | x::xs,i,t,v,h=>by
  simp only [slotsOf,getL] at h
  cases hb : Nat.beq t i with
  | true =>
   rw [hb] at h
   simp only [Option.some.injEq] at h
   exact ⟨0,by have:=Nat.eq_of_beq_eq_true hb;omega,by simp [h]⟩
  | false =>
   rw [hb] at h
   obtain ⟨k,h1,h2⟩:=slotsOf_get xs (i+1) t v h
   exact ⟨k+1,Q0,by simpa using h2⟩

theorem sat_start (n : Nat) (args : List Value) (hn : Nat.ble args.length n = true) :
  Sat n (slotsOf 0 args) { tmps:=args.toArray++Array.replicate (n - args.toArray.size) undef,defers:=[] }:=by
 have hn' : args.length<=n:=by simpa [Nat.ble_eq] using hn
 refine ⟨Qc,rfl,fun t v h=>?_⟩
 obtain ⟨k,rfl,hk⟩:=slotsOf_get args 0 t v h
 have : k < args.length:=by
  rcases Nat.lt_or_ge k args.length with h | h
  ·exact h
  ·rw [List.getElem?_eq_none h] at hk;cases hk
 simp only [Nat.zero_add]
 rw [Array.getElem?_append_left (by simpa using this)]
 simpa using hk

theorem enter {P : Program} {f : FuncId} {fn : Func} {c : Code} {args : List Value} {w0 : World} {M : Mem} {Γ : List As} {R : Post} {r n : Nat}
  (hf : P.funcs[f]? = some fn) (hb : fn.body = some c) (hn : fn.ntmps = n) (hr : fn.results = #[.tmp r]) (ha : Nat.ble args.length n = true)
  (h : ∀ w1,St w0 M Γ w1->CW P n w0 c (endX w0 r R) (slotsOf 0 args) M Γ) : CallOk P w0 M Γ f args.toArray R:=by
 intro w hw
 refine calls_of_wp hf hb ?_
 rw [hn]
 refine wp_mono (h w hw _ w (sat_start n args ha) hw) ?_
 rintro e a w' ⟨L,M1,Γ1,hX,h1,h2⟩
 cases e with
 | normal | ret =>
  obtain ⟨v,hv,hi⟩:=hX
  obtain ⟨M',Γ',hR,hw'⟩:=hi w' h2
  refine ⟨h1.defers,v,?_,v,M',Γ',rfl,hR,hw'⟩
  have:=h1.get r v hv
  simp [results,hr,this]
 | _=>exact hX.elim

theorem enter2 {P : Program} {f : FuncId} {fn : Func} {c : Code} {args : List Value} {w0 : World} {M : Mem} {Γ : List As} {R : Post} {r s n : Nat}
  (hf : P.funcs[f]? = some fn) (hb : fn.body = some c) (hn : fn.ntmps = n) (hr : fn.results = #[.tmp r,.tmp s]) (ha : Nat.ble args.length n = true)
  (h : ∀ w1,St w0 M Γ w1->CW P n w0 c (fun e L M Γ=>match e with
   | .ret | .normal=>∃ u v,getL L r = some u/\getL L s = some v/\Turn w0 M Γ (R (.tuple #[u,v]))
   | _=>False) (slotsOf 0 args) M Γ) : CallOk P w0 M Γ f args.toArray R:=by
 intro w hw
 refine calls_of_wp hf hb ?_
 rw [hn]
 refine wp_mono (h w hw _ w (sat_start n args ha) hw) ?_
 rintro e a w' ⟨L,M1,Γ1,hX,h1,h2⟩
 cases e with
 | normal | ret =>
  obtain ⟨u,v,hu,hv,hi⟩:=hX
  obtain ⟨M',Γ',hR,hw'⟩:=hi w' h2
  refine ⟨h1.defers,.tuple #[u,v],?_,_,M',Γ',rfl,hR,hw'⟩
  have e1:=h1.get r u hu
  have e2:=h1.get s v hv
  simp [results,hr,e1,e2]
 | _=>exact hX.elim

theorem enter3 {P : Program} {f : FuncId} {fn : Func} {c : Code} {args : List Value} {w0 : World} {M : Mem} {Γ : List As} {R : Post} {r s t n : Nat}
  (hf : P.funcs[f]? = some fn) (hb : fn.body = some c) (hn : fn.ntmps = n) (hr : fn.results = #[.tmp r,.tmp s,.tmp t]) (ha : Nat.ble args.length n = true)
  (h : ∀ w1,St w0 M Γ w1->CW P n w0 c (fun e L M Γ=>match e with
   | .ret | .normal=>∃ u v x,getL L r = some u/\getL L s = some v/\getL L t = some x/\Turn w0 M Γ (R (.tuple #[u,v,x]))
   | _=>False) (slotsOf 0 args) M Γ) : CallOk P w0 M Γ f args.toArray R:=by
 intro w hw
 refine calls_of_wp hf hb ?_
 rw [hn]
 refine wp_mono (h w hw _ w (sat_start n args ha) hw) ?_
 rintro e a w' ⟨L,M1,Γ1,hX,h1,h2⟩
 cases e with
 | normal | ret =>
  obtain ⟨u,v,x,hu,hv,hx,hi⟩:=hX
  obtain ⟨M',Γ',hR,hw'⟩:=hi w' h2
  refine ⟨h1.defers,.tuple #[u,v,x],?_,_,M',Γ',rfl,hR,hw'⟩
  have e1:=h1.get r u hu
  have e2:=h1.get s v hv
  have e3:=h1.get t x hx
  simp [results,hr,e1,e2,e3]
 | _=>exact hX.elim

def flatB (P : Program) (t : TypeId) : Bool:=match P.underlying t with
 | some (.struct _)=>false
 | some (.array ..)=>false
 | none=>false
 | _=>true
def aggB (P : Program) (t : TypeId) (sz : Nat) : Bool:=(match P.underlying t with
 | some (.struct _)=>true
 | some (.array ..)=>true
 | _=>false) && (match P.info? t with
 | some i=>Nat.beq i.size sz
 | none=>false)
def sizeB (P : Program) (t : TypeId) (sz : Nat) : Bool:=match P.info? t with
 | some i=>Nat.beq i.size sz
 | none=>false
def sliceB (P : Program) (t e sz : Nat) : Bool:=(match P.underlying t with
 | some (.slice e')=>Nat.beq e' e
 | _=>false) && sizeB P e sz
def fieldB (P : Program) (s i off : Nat) : Bool:=match P.underlying s with
 | some (.struct fs)=>match fs[i]? with
  | some f=>Nat.beq f.offset off && (match P.info? f.type with
   | some j=>Nat.blt 0 j.size
   | none=>false)
  | none=>false
 | _=>false
def funcB (P : Program) (f : FuncId) : Bool:=match P.funcs[f]? with
 | some fn => !(fn.name == "runtime.NumGoroutine") && fn.body.isSome
 | none=>false

section
variable {P : Program} {w : World}
theorem run_flat {t : TypeId} (h : flatB P t = true) : (isAgg t).run P w = .ok false w:=by
 unfold flatB at h
 unfold isAgg
 cases hu : P.underlying t with
 | none=>simp [hu] at h
 | some d =>
  simp only [Sem.run_bind,run_underlying hu,Result.andThen_ok]
  cases d <;> first | rfl | simp [hu] at h
theorem run_aggB {t : TypeId} {sz : Nat} (h : aggB P t sz = true) : (isAgg t).run P w = .ok true w/\(Go.sizeOf t).run P w = .ok sz w:=by
 unfold aggB at h
 simp only [Bool.and_eq_true] at h
 obtain ⟨h1,h2⟩:=h
 constructor
 ·unfold isAgg
  cases hu : P.underlying t with
  | none=>simp [hu] at h1
  | some d =>
   simp only [Sem.run_bind,run_underlying hu,Result.andThen_ok]
   cases d <;> first | rfl | simp [hu] at h1
 ·cases hi : P.info? t with
  | none=>simp [hi] at h2
  | some i =>
   rw [hi] at h2
   have:=Nat.eq_of_beq_eq_true h2
   simp [Go.sizeOf,typeInfo,hi,this]
theorem run_sizeB {t : TypeId} {sz : Nat} (h : sizeB P t sz = true) : (Go.sizeOf t).run P w = .ok sz w:=by
 unfold sizeB at h
 cases hi : P.info? t with
 | none=>simp [hi] at h
 | some i =>
  rw [hi] at h
  have:=Nat.eq_of_beq_eq_true h
  simp [Go.sizeOf,typeInfo,hi,this]
theorem sliceB_spec {t e sz : Nat} (h : sliceB P t e sz = true) : P.underlying t = some (.slice e)/\sizeB P e sz = true:=by
 unfold sliceB at h
 simp only [Bool.and_eq_true] at h
 obtain ⟨h1,h2⟩:=h
 refine ⟨?_,h2⟩
 cases hu : P.underlying t with
 | none=>simp [hu] at h1
 | some d =>
  rw [hu] at h1
  cases d <;> first | (have:=Nat.eq_of_beq_eq_true h1;subst this;rfl) | simp at h1
theorem run_fieldB {s i off : Nat} (h : fieldB P s i off = true) (x : Addr) : (Instr.fieldAt s (.pointer (some x)) i).run P w = .ok (.pointer (some (x.add off))) w:=by
 unfold fieldB at h
 unfold Instr.fieldAt
 cases hu : P.underlying s with
 | none=>simp [hu] at h
 | some d =>
  rw [hu] at h
  cases d with
  | struct fs =>
   simp only [] at h
   cases hf : fs[i]? with
   | none=>simp [hf] at h
   | some f =>
    rw [hf] at h
    simp only [Bool.and_eq_true] at h
    obtain ⟨h1,h2⟩:=h
    have h1:=Nat.eq_of_beq_eq_true h1
    cases hi : P.info? f.type with
    | none=>simp [hi] at h2
    | some j =>
     rw [hi] at h2
     have h2 : 0 < j.size:=by simpa [Nat.blt_eq] using h2
     have h3 : j.size ≠ 0:=Q0
     simp [run_underlying hu,hf,Instr.sureAddr,fieldPlace,Go.sizeOf,typeInfo,hi,h3,h1]
  | _=>simp at h
end

section
variable {P : Program} {w0 : World} {L : Lm} {M : Mem} {Γ : List As} {d : Option Nat} {ty : TypeId} {pos : String} {af : Array Edge} {g : Option (Nat×Bool)}

namespace Y
theorem move {x : Operand} {v : Value} (h : evL L x = some v) : Yq P w0 L M Γ ⟨d,.move x,ty,pos,af,g⟩ v:=fun n a w ha _=>by
 simp [execOp,ha.ev h]
theorem assign {x : Operand} {v : Value} (h : evL L x = some v) : Yq P w0 L M Γ ⟨d,.assign x,ty,pos,af,g⟩ v:=fun n a w ha _=>by
 simp [execOp,ha.ev h]
theorem pickT {c x y : Operand} {u : Value} (hc : evL L c = some (.bool true)) (hx : evL L x = some u) : Yq P w0 L M Γ ⟨d,.pick c x y,ty,pos,af,g⟩ u:=fun n a w ha _=>by
 simp [execOp,ha.ev hc,ha.ev hx,asBool]
theorem pickF {c x y : Operand} {v : Value} (hc : evL L c = some (.bool false)) (hy : evL L y = some v) : Yq P w0 L M Γ ⟨d,.pick c x y,ty,pos,af,g⟩ v:=fun n a w ha _=>by
 simp [execOp,ha.ev hc,ha.ev hy,asBool]

theorem wrap_in {z : Int} (h : -9223372036854775808<=z/\z<=9223372036854775807) : IntKind.i64.wrap z = z:=IntWalk.i64_in z h

theorem add {x y : Operand} {m k : Int} {t : TypeId} (hx : evL L x = some (.int .i64 m)) (hy : evL L y = some (.int .i64 k)) (hb : -9223372036854775808<=m+k/\m+k<=9223372036854775807) :
  Yq P w0 L M Γ ⟨d,.binOp .add t x y t,ty,pos,af,g⟩ (.int .i64 (m+k)):=fun n a w ha _=>by
 simp [execOp,ha.ev hx,ha.ev hy,eqGuard,Go.binOp,Op.intArith,wrap_in hb]
theorem sub {x y : Operand} {m k : Int} {t : TypeId} (hx : evL L x = some (.int .i64 m)) (hy : evL L y = some (.int .i64 k)) (hb : -9223372036854775808<=m - k/\m - k<=9223372036854775807) :
  Yq P w0 L M Γ ⟨d,.binOp .sub t x y t,ty,pos,af,g⟩ (.int .i64 (m - k)):=fun n a w ha _=>by
 simp [execOp,ha.ev hx,ha.ev hy,eqGuard,Go.binOp,Op.intArith,wrap_in hb]
theorem mul {x y : Operand} {m k : Int} {t : TypeId} (hx : evL L x = some (.int .i64 m)) (hy : evL L y = some (.int .i64 k)) (hb : -9223372036854775808<=m * k/\m * k<=9223372036854775807) :
  Yq P w0 L M Γ ⟨d,.binOp .mul t x y t,ty,pos,af,g⟩ (.int .i64 (m * k)):=fun n a w ha _=>by
 simp [execOp,ha.ev hx,ha.ev hy,eqGuard,Go.binOp,Op.intArith,wrap_in hb]
theorem quo {x y : Operand} {m k : Int} {t : TypeId} (hx : evL L x = some (.int .i64 m)) (hy : evL L y = some (.int .i64 k)) (h0 : k ≠ 0) (hb : -9223372036854775808<=m.tdiv k/\m.tdiv k<=9223372036854775807) :
  Yq P w0 L M Γ ⟨d,.binOp .quo t x y t,ty,pos,af,g⟩ (.int .i64 (m.tdiv k)):=fun n a w ha _=>by
 simp [execOp,ha.ev hx,ha.ev hy,eqGuard,Go.binOp,Op.intDiv,h0,wrap_in hb]
theorem rem {x y : Operand} {m k : Int} {t : TypeId} (hx : evL L x = some (.int .i64 m)) (hy : evL L y = some (.int .i64 k)) (h0 : k ≠ 0) :
  Yq P w0 L M Γ ⟨d,.binOp .rem t x y t,ty,pos,af,g⟩ (.int .i64 (m.tmod k)):=fun n a w ha _=>by
 simp [execOp,ha.ev hx,ha.ev hy,eqGuard,Go.binOp,Op.intDiv,h0]
theorem lss {x y : Operand} {m k : Int} {t : TypeId} (hx : evL L x = some (.int .i64 m)) (hy : evL L y = some (.int .i64 k)) :
  Yq P w0 L M Γ ⟨d,.binOp .lss t x y t,ty,pos,af,g⟩ (.bool (decide (m < k))):=fun n a w ha _=>by
 simp [execOp,ha.ev hx,ha.ev hy,eqGuard,Go.binOp,Op.intCmp]
theorem leq {x y : Operand} {m k : Int} {t : TypeId} (hx : evL L x = some (.int .i64 m)) (hy : evL L y = some (.int .i64 k)) :
  Yq P w0 L M Γ ⟨d,.binOp .leq t x y t,ty,pos,af,g⟩ (.bool (decide (m<=k))):=fun n a w ha _=>by
 simp [execOp,ha.ev hx,ha.ev hy,eqGuard,Go.binOp,Op.intCmp]
theorem gtr {x y : Operand} {m k : Int} {t : TypeId} (hx : evL L x = some (.int .i64 m)) (hy : evL L y = some (.int .i64 k)) :
  Yq P w0 L M Γ ⟨d,.binOp .gtr t x y t,ty,pos,af,g⟩ (.bool (decide (k < m))):=fun n a w ha _=>by
 simp [execOp,ha.ev hx,ha.ev hy,eqGuard,Go.binOp,Op.intCmp]
theorem geq {x y : Operand} {m k : Int} {t : TypeId} (hx : evL L x = some (.int .i64 m)) (hy : evL L y = some (.int .i64 k)) :
  Yq P w0 L M Γ ⟨d,.binOp .geq t x y t,ty,pos,af,g⟩ (.bool (decide (k<=m))):=fun n a w ha _=>by
 simp [execOp,ha.ev hx,ha.ev hy,eqGuard,Go.binOp,Op.intCmp]
theorem eql {x y : Operand} {m k : Int} {t : TypeId} (hx : evL L x = some (.int .i64 m)) (hy : evL L y = some (.int .i64 k)) :
  Yq P w0 L M Γ ⟨d,.binOp .eql t x y t,ty,pos,af,g⟩ (.bool (decide (m = k))):=fun n a w ha _=>by
 simp [execOp,ha.ev hx,ha.ev hy,eqGuard,Go.binOp,Op.intCmp]
 by_cases h : m = k <;> simp [h]
theorem neq {x y : Operand} {m k : Int} {t : TypeId} (hx : evL L x = some (.int .i64 m)) (hy : evL L y = some (.int .i64 k)) :
  Yq P w0 L M Γ ⟨d,.binOp .neq t x y t,ty,pos,af,g⟩ (.bool (decide (m ≠ k))):=fun n a w ha _=>by
 simp [execOp,ha.ev hx,ha.ev hy,eqGuard,Go.binOp,Op.intCmp]
 by_cases h : m = k <;> simp [h]
theorem neg {x : Operand} {m : Int} {t : TypeId} (hx : evL L x = some (.int .i64 m)) (hb : -9223372036854775808<=-m/\-m<=9223372036854775807) :
  Yq P w0 L M Γ ⟨d,.unOp .neg t x,ty,pos,af,g⟩ (.int .i64 (-m)):=fun n a w ha _=>by
 have hb' : -9223372036854775808<=0 - m/\0 - m<=9223372036854775807:=Q0
 simp only [execOp,ha.ev hx,Op.unary,Op.intArith,wrap_in hb']
 simp
theorem not {x : Operand} {b : Bool} {t : TypeId} (hx : evL L x = some (.bool b)) :
  Yq P w0 L M Γ ⟨d,.unOp .not t x,ty,pos,af,g⟩ (.bool (!b)):=fun n a w ha _=>by
 simp [execOp,ha.ev hx,Op.unary]
theorem extract {x : Operand} {vs : List Value} {i : Nat} {v : Value} (hx : evL L x = some (.tuple vs.toArray)) (hi : vs[i]? = some v) :
  Yq P w0 L M Γ ⟨d,.extract x i,ty,pos,af,g⟩ v:=fun n a w ha _=>by
 simp [execOp,ha.ev hx,Instr.extract,hi]

theorem len {x : Operand} {t : TypeId} {a : Option Addr} {k c : Nat} {e : Nat} (hx : evL L x = some (.slice a k c)) (ht : P.underlying t = some (.slice e)) :
  Yq P w0 L M Γ ⟨d,.call ⟨.builtin .len,#[x],#[t]⟩,ty,pos,af,g⟩ (.int .i64 (k : Int)):=fun n a w ha _=>by
 simp [execOp,resolve,invoke,Go.builtin,Builtin.len_,ha.ev hx,run_underlying ht,goInt]
theorem min2 {x y : Operand} {m k : Int} {ts : Array TypeId} (hx : evL L x = some (.int .i64 m)) (hy : evL L y = some (.int .i64 k)) :
  Yq P w0 L M Γ ⟨d,.call ⟨.builtin .min,#[x,y],ts⟩,ty,pos,af,g⟩ (.int .i64 (min m k)):=fun n a w ha _=>by
 simp [execOp,resolve,invoke,Go.builtin,Builtin.min_,Builtin.min2,ha.ev hx,ha.ev hy]
 omega
theorem max2 {x y : Operand} {m k : Int} {ts : Array TypeId} (hx : evL L x = some (.int .i64 m)) (hy : evL L y = some (.int .i64 k)) :
  Yq P w0 L M Γ ⟨d,.call ⟨.builtin .max,#[x,y],ts⟩,ty,pos,af,g⟩ (.int .i64 (max m k)):=fun n a w ha _=>by
 simp [execOp,resolve,invoke,Go.builtin,Builtin.max_,Builtin.max2,ha.ev hx,ha.ev hy]
 omega

theorem index {x i : Operand} {t e sz : Nat} {a : Option Addr} {l c : Nat} {ik : IntKind} {z : Int} (k : Nat) (hx : evL L x = some (.slice a l c)) (hi : evL L i = some (.int ik z)) (hz : z = (k : Int)) (hk : k < l)
  (ht : sliceB P t e sz = true) (hs : ∀ w,St w0 M Γ w->a.isSome = true) :
  Yq P w0 L M Γ ⟨d,.indexAddr t x i,ty,pos,af,g⟩ (.pointer (some (adr a (k * sz)))):=fun n ac w ha hw=>by
 obtain ⟨b,rfl⟩:=Option.isSome_iff_exists.1 (hs w hw)
 subst hz
 obtain ⟨h1,h2⟩:=sliceB_spec ht
 simp [execOp,ha.ev hx,ha.ev hi,Instr.indexAt,asIntOf,run_underlying h1,run_sizeB h2,hk,adr]
theorem field {x : Operand} {s i off : Nat} {a : Option Addr} {q : Nat} (hx : evL L x = some (.pointer (some (adr a q)))) (hf : fieldB P s i off = true) :
  Yq P w0 L M Γ ⟨d,.fieldAddr s x i,ty,pos,af,g⟩ (.pointer (some (adr a (q+off)))):=fun n ac w ha _=>by
 simp [execOp,ha.ev hx,run_fieldB hf,adr_add]

theorem load {x : Operand} {t : TypeId} {p : Addr} {v : Value} (hx : evL L x = some (.pointer (some p))) (hf : flatB P t = true) (hc : ∀ w,St w0 M Γ w->w.cell? p = some v) :
  Yq P w0 L M Γ ⟨d,.load t x,ty,pos,af,g⟩ v:=fun n a w ha hw=>by
 simp [execOp,ha.ev hx,Instr.loadAt,Instr.sureAddr,loadVar,run_flat hf,hc w hw]
theorem run_loadCellsFrom {w : World} {p : Addr} : ∀ (vs : List Value) (i : Nat) (acc : Array Value),(∀ j v,vs[j]? = some v->w.cell? (p.add (i+j)) = some v) ->
  (loadCellsFrom p i vs.length acc).run P w = .ok (acc++vs.toArray) w
 | [],i,acc,_=>by simp [loadCellsFrom]
 | v::vs,i,acc,h=>by
  have h0 : w.cell? (p.add i) = some v:=by simpa using h 0 v rfl
  have ih:=run_loadCellsFrom (w:=w) (p:=p) vs (i+1) (acc.push v) fun j u hj=>by
   have:=h (j+1) u (by simpa using hj)
   rwa [show i+1+j = i+(j+1) from by omega]
  simp only [List.length_cons,loadCellsFrom,Sem.run_bind,run_load,h0,Result.andThen_ok,ih]
  simp
theorem loadAgg {x : Operand} {t : TypeId} {p : Addr} {vs : List Value} (hx : evL L x = some (.pointer (some p))) (hf : aggB P t vs.length = true) (hc : ∀ w,St w0 M Γ w->∀ j v,vs[j]? = some v->w.cell? (p.add j) = some v) :
  Yq P w0 L M Γ ⟨d,.load t x,ty,pos,af,g⟩ (.agg vs.toArray):=fun n a w ha hw=>by
 obtain ⟨h1,h2⟩:=run_aggB (P:=P) (w:=w) hf
 have h3:=run_loadCellsFrom (P:=P) (w:=w) (p:=p) vs 0 #[] (by simpa using hc w hw)
 simp [execOp,ha.ev hx,Instr.loadAt,Instr.sureAddr,loadVar,h1,h2,loadCells,h3]
end Y
end

theorem St.own_cell {w0 w : World} {M : Mem} {Γ : List As} (h : St w0 M Γ w) {b : Nat} {e : TypeId} {cs : List Value} (hm : As.own b e cs∈Γ) {q : Nat} {v : Value} (hq : cs[q]? = some v) :
  w.cell? (adr (some ⟨b,0,none⟩) q) = some v:=by
 have:=(h.all _ hm).2
 rw [adr_some]
 simp [World.cell?,this,hq]
theorem St.rd_cell {w0 w : World} {M : Mem} {Γ : List As} (h : St w0 M Γ w) {n sz : Nat} {cs : List D} {a : Option Addr} {l c : Nat} (hm : As.rd (.sl n sz cs) (.slice a l c)∈Γ) {q : Nat} {e : D} (hq : cs[q]? = some e) :
  ∃ u,cellM M (adr a q) = some u/\Rd M e u:=by
 have:=h.rd hm
 simp only [Rd] at this
 obtain ⟨a',cap,h1,h2,h3,h4,h5,h6,h7⟩:=this
 simp only [Value.slice.injEq] at h1
 obtain ⟨rfl,rfl,rfl⟩:=h1
 simpa using RdC.get cs 0 h7 q e hq
theorem St.rd_some {w0 w : World} {M : Mem} {Γ : List As} (h : St w0 M Γ w) {n sz : Nat} {cs : List D} {a : Option Addr} {l c : Nat} (hm : As.rd (.sl n sz cs) (.slice a l c)∈Γ) (hn : 0 < l) : a.isSome = true:=by
 have:=h.rd hm
 simp only [Rd] at this
 obtain ⟨a',cap,h1,h2,h3,h4,h5,h6,h7⟩:=this
 simp only [Value.slice.injEq] at h1
 obtain ⟨rfl,rfl,rfl⟩:=h1
 exact h6 hn

end Xe

namespace Xe
open Go

theorem sub_get {cs ds : List D} {q sz : Nat} (hq : (cs.drop q).take sz = ds) {j : Nat} {e : D} (hj : ds[j]? = some e) : cs[q+j]? = some e:=by
 subst hq
 have hlt : j < ((cs.drop q).take sz).length:=by
  rcases Nat.lt_or_ge j ((cs.drop q).take sz).length with h | h
  ·exact h
  ·rw [List.getElem?_eq_none h] at hj;cases hj
 have h2 : j < sz:=by simp at hlt;omega
 rw [List.getElem?_take_of_lt h2,List.getElem?_drop] at hj
 exact hj

theorem cells_of {M : Mem} {a : Option Addr} {q : Nat} : ∀ {ds : List D},(∀ j e,ds[j]? = some e->∃ u,cellM M (adr a (q+j)) = some u/\Rd M e u) ->
  ∃ us,RdL M ds us/\∀ j v,us[j]? = some v->cellM M (adr a (q+j)) = some v:=by
 intro ds
 induction ds generalizing q with
 | nil=>exact fun _=>⟨[],RdL.nil M,fun j v h=>by simp at h⟩
 | cons d ds ih =>
  intro h
  obtain ⟨u,h1,h2⟩:=h 0 d rfl
  obtain ⟨us,h3,h4⟩:=ih (q:=q+1) fun j e hj=>by
   have:=h (j+1) e (by simpa using hj)
   rwa [show q+1+j = q+(j+1) from by omega]
  refine ⟨u::us,RdL.cons h2 h3,fun j v hj=>?_⟩
  cases j with
  | zero=>simp only [List.getElem?_cons_zero,Option.some.injEq] at hj;subst hj;exact h1
  | succ j =>
   have:=h4 j v (by simpa using hj)
   rwa [show q+1+j = q+(j+1) from by omega] at this

theorem RdL.get {M : Mem} {ds : List D} {us : List Value} (h : RdL M ds us) {q : Nat} {e : D} (hq : ds[q]? = some e) : ∃ u,us[q]? = some u/\Rd M e u:=by
 have hlt : q < us.length:=by
  rw [h.1]
  rcases Nat.lt_or_ge q ds.length with h | h
  ·exact h
  ·rw [List.getElem?_eq_none h] at hq;cases hq
 exact ⟨us[q],by simp [hlt],h.2 q _ _ hq (by simp [hlt])⟩

theorem Rd.one {M : Mem} : ∀ {d : D} {u : Value},Rd M d u->u.oneCell' = true
 | .v x,u,h=>by simp only [Rd] at h;rw [h.1];exact h.2
 | .sl n sz cs,u,h=>by
  simp only [Rd] at h
  obtain ⟨a,c,rfl,_⟩:=h
  rfl
theorem RdL.one {M : Mem} {ds : List D} {us : List Value} (h : RdL M ds us) : ∀ u∈us,u.oneCell' = true:=by
 intro u hu
 obtain ⟨k,hk,rfl⟩:=List.mem_iff_getElem.1 hu
 have hk' : k < ds.length:=by rw [<-h.1];exact hk
 exact Rd.one (h.2 k ds[k] us[k] (by simp [hk']) (by simp [hk]))

section
variable {P : Program} {w0 : World} {L : Lm} {M : Mem} {Γ : List As} {d : Option Nat} {ty : TypeId} {pos : String} {af : Array Edge} {g : Option (Nat×Bool)}
namespace Y
theorem loadRd {x : Operand} {t : TypeId} {a : Option Addr} {q n0 sz0 l c : Nat} {cs : List D} {v : Value} (hx : evL L x = some (.pointer (some (adr a q)))) (hm : As.rd (.sl n0 sz0 cs) (.slice a l c)∈Γ) (hq : cs[q]? = some (.v v)) (hf : flatB P t = true) :
  Yq P w0 L M Γ ⟨d,.load t x,ty,pos,af,g⟩ v :=
 Y.load hx hf fun w hw=>by
  obtain ⟨u,h1,h2⟩:=hw.rd_cell hm hq
  simp only [Rd] at h2
  rw [<-h2.1]
  exact hw.cell h1
theorem loadOwn {x : Operand} {t : TypeId} {b e q : Nat} {cs : List Value} {v : Value} (hx : evL L x = some (.pointer (some (adr (some ⟨b,0,none⟩) q)))) (hm : As.own b e cs∈Γ) (hq : cs[q]? = some v) (hf : flatB P t = true) :
  Yq P w0 L M Γ ⟨d,.load t x,ty,pos,af,g⟩ v:=Y.load hx hf fun _ hw=>hw.own_cell hm hq
theorem loadOwnV {x : Operand} {t : TypeId} {b e q : Nat} {us : List Value} {ds : List D} {v : Value} (hx : evL L x = some (.pointer (some (adr (some ⟨b,0,none⟩) q)))) (hm : As.own b e us∈Γ) (hr : As.rds ds us∈Γ) (hq : ds[q]? = some (.v v)) (hf : flatB P t = true) :
  Yq P w0 L M Γ ⟨d,.load t x,ty,pos,af,g⟩ v:=Y.load hx hf fun w hw=>by
   obtain ⟨u,h1,h2⟩:=RdL.get (hw.all _ hr) hq
   simp only [Rd] at h2
   rw [<-h2.1]
   exact hw.own_cell hm h1
theorem loadAggOwn {x : Operand} {t : TypeId} {b e q : Nat} {cs : List Value} (vs : List Value) (hx : evL L x = some (.pointer (some (adr (some ⟨b,0,none⟩) q)))) (hm : As.own b e cs∈Γ) (hq : ∀ j v,vs[j]? = some v->cs[q+j]? = some v) (hf : aggB P t vs.length = true) :
  Yq P w0 L M Γ ⟨d,.load t x,ty,pos,af,g⟩ (.agg vs.toArray):=Y.loadAgg hx hf fun _ hw j v hj=>by
   rw [adr_add]
   exact hw.own_cell hm (hq j v hj)
theorem loadAll {x : Operand} {t : TypeId} {b e : Nat} {cs : List Value} {sz : Nat} (hx : evL L x = some (.pointer (some (adr (some ⟨b,0,none⟩) 0)))) (hm : As.own b e cs∈Γ) (hl : cs.length = sz) (hf : aggB P t sz = true) :
  Yq P w0 L M Γ ⟨d,.load t x,ty,pos,af,g⟩ (.agg cs.toArray):=loadAggOwn cs hx hm (fun j v h=>by simpa using h) (by rw [hl];exact hf)
end Y
end

section
variable {P : Program} {n : Nat} {w0 : World} {ops : Array Oper} {rest : List Oper} {L : Lm} {M : Mem} {Γ : List As} {K : Lm->Mem->List As->Prop}
theorem RL.more {Γ' : List As} (hG : ∀ w,St w0 M Γ w->St w0 M Γ' w) (h : RL P n w0 ops rest L M Γ' K) : RL P n w0 ops rest L M Γ K:=RL.pre (Keep.refl L) hG h

theorem RL.loadOwnSl {x : Operand} {t : TypeId} {ty : TypeId} {pos : String} {af : Array Edge} {g : Option (Nat×Bool)} {d b e : Nat} {q n1 sz1 : Nat} {us : List Value} {ds cs1 : List D}
  (hg : Want ops L ⟨some d,.load t x,ty,pos,af,g⟩ true) (hx : evL L x = some (.pointer (some (adr (some ⟨b,0,none⟩) q)))) (hm : As.own b e us∈Γ) (hr : As.rds ds us∈Γ) (hq : ds[q]? = some (.sl n1 sz1 cs1)) (hf : flatB P t = true) (hd : Nat.blt d n = true)
  (h : ∀ a1 c1,us[q]? = some (.slice a1 n1 c1)->n1<=c1->n1<=140737488355328->RL P n w0 ops rest ((d,.slice a1 n1 c1)::L) M (.rd (.sl n1 sz1 cs1) (.slice a1 n1 c1)::Γ) K) :
  RL P n w0 ops (⟨some d,.load t x,ty,pos,af,g⟩::rest) L M Γ K:=by
 refine RL.know (F:=∃ u,us[q]? = some u/\Rd M (.sl n1 sz1 cs1) u) (fun w hw=>?_) ?_
 ·have:=hw.all _ hr
  simp only [As.ok] at this
  have hlt : q < us.length:=by
   rw [this.1]
   rcases Nat.lt_or_ge q ds.length with h | h
   ·exact h
   ·rw [List.getElem?_eq_none h] at hq;cases hq
  exact ⟨us[q],by simp [hlt],this.2 q _ _ hq (by simp [hlt])⟩
 ·rintro ⟨u,hu,hr⟩
  have hr':=hr
  simp only [Rd] at hr'
  obtain ⟨a1,c1,rfl,h2,h3,h4,_⟩:=hr'
  exact RL.qw hg (Y.load hx hf fun w hw=>hw.own_cell hm hu) hd (RL.more (fun w hw=>hw.add (x:=.rd (.sl n1 sz1 cs1) (.slice a1 n1 c1)) hr rfl) (h a1 c1 hu h2 h4))

theorem RL.loadAgg {x : Operand} {t : TypeId} {ty : TypeId} {pos : String} {af : Array Edge} {g : Option (Nat×Bool)} {d : Nat} {a : Option Addr} {q sz n0 sz0 l c : Nat} {cs ds : List D}
  (hg : Want ops L ⟨some d,.load t x,ty,pos,af,g⟩ true) (hx : evL L x = some (.pointer (some (adr a q)))) (hm : As.rd (.sl n0 sz0 cs) (.slice a l c)∈Γ) (hq : (cs.drop q).take sz = ds) (hl : ds.length = sz) (hf : aggB P t sz = true) (hd : Nat.blt d n = true)
  (h : ∀ us,us.length = sz->RdL M ds us->RL P n w0 ops rest ((d,.agg us.toArray)::L) M (.rds ds us::Γ) K) :
  RL P n w0 ops (⟨some d,.load t x,ty,pos,af,g⟩::rest) L M Γ K:=by
 refine RL.know (F:=∃ us,RdL M ds us/\∀ j v,us[j]? = some v->cellM M (adr a (q+j)) = some v) (fun w hw=>cells_of (fun j e hj=>hw.rd_cell hm (sub_get hq hj))) ?_
 rintro ⟨us,hr,hc⟩
 have hul : us.length = sz:=by rw [hr.1,hl]
 refine RL.qw hg (Y.loadAgg (vs:=us) hx (by rw [hul];exact hf) fun _ hw j v hj=>?_) hd (RL.more (fun w hw=>hw.add (x:=.rds ds us) hr rfl) (h us hul hr))
 rw [adr_add]
 exact hw.cell (hc j v hj)

end

section
variable {P : Program} {n : Nat} {w0 : World} {ops : Array Oper} {C0 : List As} {rest : List Oper} {L : Lm} {M : Mem} {Γ : List As} {K : Lm->List As->Prop}

end

section
variable {P : Program} {n : Nat} {w0 : World} {ops : Array Oper} {rest : List Oper} {L : Lm} {M : Mem} {Γ : List As} {K : Lm->Mem->List As->Prop} {ty : TypeId} {pos : String} {af : Array Edge} {d : Nat}

theorem RL.box {e : TypeId} {x : Operand} {v : Value} (cs : List Value) (hx : evL L x = some v) (hc : v.cells = cs.toArray) (hd : Nat.blt d n = true)
  (h : ∀ b,RL P n w0 ops rest ((d,.pointer (some (adr (some ⟨b,0,none⟩) 0)))::L) M (.own b e cs::Γ) K) : RL P n w0 ops (⟨some d,.box e x,ty,pos,af,none⟩::rest) L M Γ K:=by
 refine RL.e (fun v M' Γ'=>∃ b,v = .pointer (some (adr (some ⟨b,0,none⟩) 0))/\M' = M/\Γ' = .own b e cs::Γ) (fun n a w ha hw=>?_) hd ?_
 ·refine ⟨.pointer (some ⟨w.heap.size,0,none⟩),_,M,_,?_,⟨w.heap.size,by rw [adr_some],rfl,rfl⟩,hw.alloc e cs⟩
  simp [execOp,ha.ev hx,Instr.box,newVar,newRow,hc]
 ·rintro v M' Γ' ⟨b,rfl,rfl,rfl⟩
  exact h b

def zeroB (P : Program) (e : TypeId) : Option Value:=(P.info? e).bind (·.zero)
theorem run_zeroB {w : World} {e : TypeId} {z : Value} (h : zeroB P e = some z) : (zeroValue e).run P w = .ok z w:=by
 unfold zeroB at h
 cases hi : P.info? e with
 | none=>simp [hi] at h
 | some i =>
  simp only [hi,Option.bind_some] at h
  simp [zeroValue,typeInfo,hi,h]

theorem RL.alloc {e : TypeId} {z : Value} (cs : List Value) (hz : zeroB P e = some z) (hc : z.cells = cs.toArray) (hd : Nat.blt d n = true)
  (h : ∀ b,RL P n w0 ops rest ((d,.pointer (some (adr (some ⟨b,0,none⟩) 0)))::L) M (.own b e cs::Γ) K) : RL P n w0 ops (⟨some d,.alloc e,ty,pos,af,none⟩::rest) L M Γ K:=by
 refine RL.e (fun v M' Γ'=>∃ b,v = .pointer (some (adr (some ⟨b,0,none⟩) 0))/\M' = M/\Γ' = .own b e cs::Γ) (fun n a w ha hw=>?_) hd ?_
 ·refine ⟨.pointer (some ⟨w.heap.size,0,none⟩),_,M,_,?_,⟨w.heap.size,by rw [adr_some],rfl,rfl⟩,hw.alloc e cs⟩
  simp [execOp,Instr.alloc,run_zeroB hz,newVar,newRow,hc]
 ·rintro v M' Γ' ⟨b,rfl,rfl,rfl⟩
  exact h b
end

inductive Repl (x x' : As) : List As->List As->Prop
 | here (Γ : List As) : Repl x x' (x::Γ) (x'::Γ)
 | there (y : As) {Γ Γ' : List As} : Repl x x' Γ Γ'->Repl x x' (y::Γ) (y::Γ')

theorem Repl.perm {x x' : As} {Γ Γ' : List As} (h : Repl x x' Γ Γ') : ∃ R,List.Perm Γ (x::R)/\List.Perm (x'::R) Γ':=by
 induction h with
 | here Γ=>exact ⟨Γ,.refl _,.refl _⟩
 | there y _ ih =>
  obtain ⟨R,h1,h2⟩:=ih
  exact ⟨y::R,(h1.cons y).trans (.swap x y R),(List.Perm.swap y x' R).trans (h2.cons y)⟩

theorem St.write_at {w0 w : World} {M : Mem} {Γ Γ' : List As} {b : Nat} {e : TypeId} {cs cs' : List Value} (hw : St w0 M Γ w) (hr : Repl (.own b e cs) (.own b e cs') Γ Γ') :
  St w0 M Γ' { w with heap:=w.heap.setIfInBounds b (.cells cs'.toArray e (0,0)) }:=by
 obtain ⟨R,h1,h2⟩:=hr.perm
 exact ((hw.perm h1).write cs' _ rfl).perm h2

theorem Repl.mem {x x' : As} {Γ Γ' : List As} (h : Repl x x' Γ Γ') : x∈Γ:=by
 induction h with
 | here Γ=>exact List.mem_cons_self ..
 | there y _ ih=>exact List.mem_cons_of_mem _ ih

theorem set_own {w : World} {b : Nat} {e : TypeId} {cs : List Value} (h : w.heap[b]? = some (.cells cs.toArray e (0,0))) (q : Nat) (v : Value) :
  w.setCell (adr (some ⟨b,0,none⟩) q) v = { w with heap:=w.heap.setIfInBounds b (.cells (cs.set q v).toArray e (0,0)) }:=by
 rw [adr_some]
 have hlt : b < w.heap.size:=(Array.getElem?_eq_some_iff.1 h).1
 have hb : w.heap[b] = .cells cs.toArray e (0,0):=(Array.getElem?_eq_some_iff.1 h).2
 simp only [World.setCell]
 congr 1
 apply Array.ext
 ·simp
 ·intro i h1 h2
  by_cases hi : b = i
  ·subst hi
   simp [Array.getElem_modify,hb]
  ·rw [Array.getElem_modify,if_neg hi,Array.getElem_setIfInBounds_ne (by simpa using h1) hi]

section
variable {P : Program} {n : Nat} {w0 : World} {ops : Array Oper} {rest : List Oper} {L : Lm} {M : Mem} {Γ : List As} {K : Lm->Mem->List As->Prop} {ty : TypeId} {pos : String} {af : Array Edge} {d : Nat}
theorem run_store_own {w : World} {b : Nat} {e : TypeId} {cs : List Value} (h : w.heap[b]? = some (.cells cs.toArray e (0,0))) {q : Nat} {v : Value} (hq : q < cs.length) (h1 : v.oneCell' = true) :
  (store (adr (some ⟨b,0,none⟩) q) v).run P w = .ok () { w with heap:=w.heap.setIfInBounds b (.cells (cs.set q v).toArray e (0,0)) }:=by
 have hc : w.cell? (adr (some ⟨b,0,none⟩) q) = some cs[q]:=by rw [adr_some];simp [World.cell?,h,hq]
 have hf : w.frozen? (adr (some ⟨b,0,none⟩) q) = false:=by rw [adr_some];simp [World.frozen?,h]
 rw [run_store P w _ v _ h1,hc]
 simp only [hf]
 rw [set_own h]
 simp

theorem RL.store {t : TypeId} {x y : Operand} {b e q : Nat} {cs : List Value} {v : Value} {Γ' : List As} (cs' : List Value) (hx : evL L x = some (.pointer (some (adr (some ⟨b,0,none⟩) q)))) (hy : evL L y = some v)
  (hr : Repl (.own b e cs) (.own b e cs') Γ Γ') (hs : cs.set q v = cs') (hq : q < cs.length) (h1 : v.oneCell' = true) (ht : sizeB P t 1 = true)
  (h : RL P n w0 ops rest L M Γ' K) : RL P n w0 ops (⟨none,.store t x y,ty,pos,af,none⟩::rest) L M Γ K:=by
 refine RL.s (Γ':=Γ') (fun n a w ha hw=>?_) h
 have hb:=(hw.all _ hr.mem).2
 subst hs
 refine ⟨_,?_,hw.write_at hr⟩
 have hcells : v.cells = #[v]:=by cases v <;> first | rfl | simp [Value.oneCell'] at h1
 have h2 : (adr (some ⟨b,0,none⟩) q).add 0 = adr (some ⟨b,0,none⟩) q:=by rw [adr_add];rfl
 simp [execOp,ha.ev hx,ha.ev hy,Instr.storeAt,Instr.sureAddr,storeVar,hcells,run_sizeB ht,storeCells,h2,run_store_own hb hq h1]

theorem run_storeCells_own : ∀ (vs : List Value) (i : Nat) (w : World) (b : Nat) (e : TypeId) (cs : List Value) (q : Nat),w.heap[b]? = some (.cells cs.toArray e (0,0))->q+i+vs.length<=cs.length->(∀ v∈vs,v.oneCell' = true) ->
  (storeCells (adr (some ⟨b,0,none⟩) q) vs i).run P w = .ok () { w with heap:=w.heap.setIfInBounds b (.cells (cs.take (q+i)++vs++cs.drop (q+i+vs.length)).toArray e (0,0)) }:=by
 intro vs i w b e cs q h hl h1
 rw [adr_some]
 have:=run_storeCells_at P b (0+q) e vs i cs.toArray w (by rw [h]) (by simpa using hl) h1
 rw [this]
 simp only [World.setRow,Nat.zero_add]
 congr 2
 have hlt : b < w.heap.size:=(Array.getElem?_eq_some_iff.1 h).1
 have hb : w.heap[b] = .cells cs.toArray e (0,0):=(Array.getElem?_eq_some_iff.1 h).2
 apply Array.ext
 ·simp
 ·intro j h3 h4
  by_cases hi : b = j
  ·subst hi
   simp [Array.getElem_modify,hb]
  ·rw [Array.getElem_modify,if_neg hi,Array.getElem_setIfInBounds_ne (by simpa using h3) hi]

theorem RL.storeAgg {t : TypeId} {x y : Operand} {b e q : Nat} {cs vs : List Value} {Γ' : List As} (cs' : List Value) (hx : evL L x = some (.pointer (some (adr (some ⟨b,0,none⟩) q)))) (hy : evL L y = some (.agg vs.toArray))
  (hr : Repl (.own b e cs) (.own b e cs') Γ Γ') (hs : cs.take q++vs++cs.drop (q+vs.length) = cs') (hq : q+vs.length<=cs.length) (h1 : ∀ w,St w0 M Γ w->∀ v∈vs,v.oneCell' = true) (ht : sizeB P t vs.length = true)
  (h : RL P n w0 ops rest L M Γ' K) : RL P n w0 ops (⟨none,.store t x y,ty,pos,af,none⟩::rest) L M Γ K:=by
 refine RL.s (Γ':=Γ') (fun n a w ha hw=>?_) h
 have hb:=(hw.all _ hr.mem).2
 subst hs
 refine ⟨_,?_,hw.write_at hr⟩
 have h2:=run_storeCells_own (P:=P) vs 0 w b e cs q hb (by simpa using hq) (h1 w hw)
 simp only [Nat.add_zero] at h2
 simp [execOp,ha.ev hx,ha.ev hy,Instr.storeAt,Instr.sureAddr,storeVar,Value.cells,run_sizeB ht,h2]
end

def evs (L : Lm) : List Operand->Option (List Value)
 | []=>some []
 | x::xs=>match evL L x with
  | some v=>match evs L xs with
   | some vs=>some (v::vs)
   | none=>none
  | none=>none
theorem Sat.evs {n : Nat} {L : Lm} {a : Act} (h : Sat n L a) : ∀ {xs : List Operand} {vs : List Value},evs L xs = some vs->xs.map a.eval = vs
 | [],vs,hv=>by simp only [Xe.evs,Option.some.injEq] at hv;simp [<-hv]
 | x::xs,vs,hv=>by
  simp only [Xe.evs] at hv
  cases hx : evL L x with
  | none=>simp [hx] at hv
  | some v =>
   rw [hx] at hv
   simp only [] at hv
   cases hxs : Xe.evs L xs with
   | none=>simp [hxs] at hv
   | some us =>
    rw [hxs] at hv
    simp only [Option.some.injEq] at hv
    rw [<-hv]
    simp [h.ev hx,h.evs hxs]

section
variable {P : Program} {w0 : World} {L : Lm} {M : Mem} {Γ : List As} {d : Option Nat} {ty : TypeId} {pos : String} {af : Array Edge} {g : Option (Nat×Bool)}
theorem run_funcB {w : World} {f : FuncId} (h : funcB P f = true) (args : Array Value) : (callFunc f args).run P w = .ok (.enter f args) w:=by
 unfold funcB at h
 cases hf : P.funcs[f]? with
 | none=>simp [hf] at h
 | some fn =>
  rw [hf] at h
  simp only [Bool.and_eq_true,Bool.not_eq_true',beq_eq_false_iff_ne] at h
  obtain ⟨h1,h2⟩:=h
  have h3 : fn.body ≠ none:=by intro e;rw [e] at h2;cases h2
  simp [callFunc,hf,h1,h3]
theorem call_enter {f : FuncId} {xs : List Operand} {ts : Array TypeId} {vs : List Value} (hf : funcB P f = true) (hx : evs L xs = some vs) :
  ∀ n a w,Sat n L a->(execOp a.eval ⟨d,.call ⟨.value (.func f),xs.toArray,ts⟩,ty,pos,af,g⟩).run P w = .ok (.enter f vs.toArray) w:=fun n a w ha=>by
 have h1 : (xs.toArray.map a.eval) = vs.toArray:=by rw [List.map_toArray,ha.evs hx]
 simp only [execOp,resolve,h1,Act.eval,Deferred.ofValue]
 simp [invoke,run_funcB hf]
theorem call_value {f : FuncId} {y : Operand} {first captured : Array Value} {xs : List Operand} {ts : Array TypeId} {vs : List Value} (hf : funcB P f = true) (hy : evL L y = some (.func (.func f) first captured)) (hx : evs L xs = some vs) :
  ∀ n a w,Sat n L a->(execOp a.eval ⟨d,.call ⟨.value y,xs.toArray,ts⟩,ty,pos,af,g⟩).run P w = .ok (.enter f (first++vs.toArray++captured)) w:=fun n a w ha=>by
 have h1 : (xs.toArray.map a.eval) = vs.toArray:=by rw [List.map_toArray,ha.evs hx]
 simp only [execOp,resolve,h1,ha.ev hy,Deferred.ofValue]
 simp [invoke,run_funcB hf]
end

section
variable {P : Program} {n : Nat} {w0 : World} {ops : Array Oper} {rest : List Oper} {L : Lm} {M : Mem} {Γ : List As} {K : Lm->Mem->List As->Prop} {ty : TypeId} {pos : String} {af : Array Edge} {d : Nat}
theorem RL.call {g : Option (Nat×Bool)} {f : FuncId} {xs : List Operand} {ts : Array TypeId} {vs : List Value} {F : Post} (hg : Want ops L ⟨some d,.call ⟨.value (.func f),xs.toArray,ts⟩,ty,pos,af,g⟩ true) (hf : funcB P f = true) (hx : evs L xs = some vs) (hd : Nat.blt d n = true)
  (hc : CallOk P w0 M Γ f vs.toArray F) (h : ∀ v M' Γ',F v M' Γ'->RL P n w0 ops rest ((d,v)::L) M' Γ' K) :
  RL P n w0 ops (⟨some d,.call ⟨.value (.func f),xs.toArray,ts⟩,ty,pos,af,g⟩::rest) L M Γ K:=RL.c hg (call_enter hf hx) hd hc h
theorem RL.callv {g : Option (Nat×Bool)} {f : FuncId} {xs : List Operand} {ts : Array TypeId} {vs : List Value} {v : Value} (hg : Want ops L ⟨some d,.call ⟨.value (.func f),xs.toArray,ts⟩,ty,pos,af,g⟩ true) (hf : funcB P f = true) (hx : evs L xs = some vs) (hd : Nat.blt d n = true)
  (hc : CallOk P w0 M Γ f vs.toArray (fun u M' Γ'=>u = v/\M' = M/\Γ' = Γ)) (h : RL P n w0 ops rest ((d,v)::L) M Γ K) :
  RL P n w0 ops (⟨some d,.call ⟨.value (.func f),xs.toArray,ts⟩,ty,pos,af,g⟩::rest) L M Γ K:=RL.c hg (call_enter hf hx) hd hc (by rintro u M' Γ' ⟨rfl,rfl,rfl⟩;exact h)
theorem RL.callf {g : Option (Nat×Bool)} {f : FuncId} {y : Operand} {first captured : Array Value} {xs : List Operand} {ts : Array TypeId} {vs : List Value} {F : Post} (hg : Want ops L ⟨some d,.call ⟨.value y,xs.toArray,ts⟩,ty,pos,af,g⟩ true) (hf : funcB P f = true) (hy : evL L y = some (.func (.func f) first captured)) (hx : evs L xs = some vs) (hd : Nat.blt d n = true)
  (hc : CallOk P w0 M Γ f (first++vs.toArray++captured) F) (h : ∀ v M' Γ',F v M' Γ'->RL P n w0 ops rest ((d,v)::L) M' Γ' K) :
  RL P n w0 ops (⟨some d,.call ⟨.value y,xs.toArray,ts⟩,ty,pos,af,g⟩::rest) L M Γ K:=RL.c hg (call_value hf hy hx) hd hc h
end
section
variable {P : Program} {n : Nat} {w0 : World} {ops : Array Oper} {C0 : List As} {rest : List Oper} {L : Lm} {M : Mem} {Γ : List As} {K : Lm->List As->Prop} {ty : TypeId} {pos : String} {af : Array Edge} {d : Nat} {g : Option (Nat×Bool)}
end
end Xe

namespace Xe
open Go

def EndR (w0 : World) (M : Mem) (L0 : Lm) (Γ0 : List As) (I : Nat->Lm->Mem->List As->Prop) (m : Nat) (L2 : Lm) (M2 : Mem) (Γ2 : List As) : Prop :=
 ∃ m' Lc,m' < m/\Keep L2 (Lc++L0)/\Turn w0 M2 Γ2 (fun M3 Γ3=>∃ Γc,Γ3 = Γc++Γ0/\Sub M M3/\I m' Lc M3 Γc)

theorem CW.loopF {P : Program} {n : Nat} {w0 : World} {X : Pst} {L : Lm} {M : Mem} {Γ : List As} {c : Code} (I : Nat->Lm->Mem->List As->Prop) (m : Nat) (Lc : Lm) (Γc : List As) {L0 : Lm} {Γ0 : List As}
  (hL : L = Lc++L0) (hG : Γ = Γc++Γ0) (h0 : I m Lc M Γc)
  (round : ∀ m Lc M1 Γc,Sub M M1->I m Lc M1 Γc->CW P n w0 c (thenX (EndR w0 M L0 Γ0 I m) X) (Lc++L0) M1 (Γc++Γ0)) : CW P n w0 (.loop c) X L M Γ:=by
 subst hL hG
 refine CW.loop (fun m L M1 Γ=>∃ Lc Γc,L = Lc++L0/\Γ = Γc++Γ0/\Sub M M1/\I m Lc M1 Γc) m ⟨Lc,Γc,rfl,rfl,Sub.refl M,h0⟩ ?_
 rintro m L M1 Γ ⟨Lc,Γc,rfl,rfl,hs,hI⟩
 intro a w ha hw
 refine wp_mono (round m Lc M1 Γc hs hI a w ha hw) ?_
 rintro e a w ⟨L2,M2,Γ2,hX,h1,h2⟩
 cases e with
 | normal =>
  obtain ⟨m',Lc',hlt,hk,ht⟩:=hX
  obtain ⟨M3,Γ3,⟨Γc',rfl,hs3,hI3⟩,hw3⟩:=ht w h2
  exact ⟨Lc'++L0,M3,Γc'++Γ0,⟨m',hlt,Lc',Γc',rfl,rfl,hs3,hI3⟩,h1.keep hk,hw3⟩
 | _=>exact ⟨L2,M2,Γ2,hX,h1,h2⟩

def Mem.put (M : Mem) (b : Nat) (o : Obj) : Mem:=fun k=>if k = b then some o else M k
theorem Mem.put_sub {M : Mem} {b : Nat} {o : Obj} (h : M b = none) : Sub M (M.put b o):=fun k x hk=>by
 unfold Mem.put
 by_cases e : k = b
 ·subst e;rw [h] at hk;cases hk
 ·rw [if_neg e];exact hk

theorem St.seal_block {w0 w : World} {M : Mem} {Γ : List As} {x : As} {b : Nat} {o : Obj} (hw : St w0 M (x::Γ) w) (hx : x.blk = some b) (ho : w.heap[b]? = some o) : St w0 (M.put b o) Γ w:=by
 have hb:=As.ok_blk_lt (hw.all x (List.mem_cons_self ..)) hx
 have hs : Sub M (M.put b o):=Mem.put_sub hb.2
 have hnd:=hw.nodup
 simp only [List.filterMap_cons,hx] at hnd
 refine ⟨hw.os,hw.tape,hw.output,hw.size,fun k y hk=>?_,fun y hy=>?_,(List.nodup_cons.1 hnd).2⟩
 ·unfold Mem.put at hk
  by_cases e : k = b
  ·subst e;rw [if_pos rfl] at hk;cases hk;exact ho
  ·rw [if_neg e] at hk;exact hw.mem k y hk
 ·have hy':=hw.all y (List.mem_cons_of_mem _ hy)
  refine As.ok_keep hy' hs fun k hk=>⟨rfl,?_⟩
  have hne : k ≠ b:=fun e=>by subst e;exact (List.nodup_cons.1 hnd).1 (mem_blk hy hk)
  unfold Mem.put
  rw [if_neg hne]
  exact (As.ok_blk_lt hy' hk).2

theorem cellM_put {M : Mem} {b : Nat} {c : Array Value} {e : TypeId} {i : Nat} {v : Value} (h : c[i]? = some v) : cellM (M.put b (.cells c e (0,0))) (adr (some ⟨b,0,none⟩) i) = some v:=by
 rw [adr_some]
 simp [cellM,Mem.put,h]

theorem St.sealAcc {w0 w : World} {M : Mem} {Γ : List As} {u : Value} {e : TypeId} {sz n : Nat} {us : List Value} {ds : List D} (hw : St w0 M (.acc u e sz n us::Γ) w) (hr : RdL M ds us) (hn : n<=lim) :
  ∃ M',Sub M M'/\Rd M' (.sl n sz ds) u/\St w0 M' (.rd (.sl n sz ds) u::Γ) w:=by
 have hx:=hw.all _ (List.mem_cons_self ..)
 obtain ⟨⟨hl,hh⟩,hM⟩:=hx
 rcases hh with ⟨rfl,rfl⟩ | ⟨b,cap,cur,rfl,_,hb,hnc,hcm,hcs,htk⟩
 ·have hd : ds = []:=by
   have h1:=hr.1
   have : us.length = 0:=by simpa using hl
   rw [this] at h1
   exact List.eq_nil_of_length_eq_zero h1.symm
  subst hd
  have hrd : Rd M (.sl 0 sz []) (.slice none 0 0):=by
   simp only [Rd]
   exact ⟨none,0,rfl,Nat.le_refl _,Nat.zero_le _,Nat.zero_le _,Q2,Q2,by simp [RdC]⟩
  refine ⟨M,Sub.refl M,hrd,?_⟩
  exact (hw.sub (List.sublist_cons_self _ _)).add (x:=.rd (.sl 0 sz []) (.slice none 0 0)) hrd rfl
 ·have hMb : M b = none:=hM b rfl
  have hs : Sub M (M.put b (.cells cur e (0,0))):=Mem.put_sub hMb
  have hw':=hw.seal_block (b:=b) rfl hb
  have hrd : Rd (M.put b (.cells cur e (0,0))) (.sl n sz ds) (.slice (some ⟨b,0,none⟩) n cap):=by
   simp only [Rd]
   refine ⟨some ⟨b,0,none⟩,cap,rfl,hnc,hcm,hn,by rw [<-hr.1];exact hl,fun _=>rfl,RdC.mk ds 0 fun k d hk=>?_⟩
   obtain ⟨v,h1,h2⟩:=RdL.get hr hk
   refine ⟨v,?_,Rd.mono hs d v h2⟩
   rw [Nat.zero_add]
   apply cellM_put
   have hk' : k < n * sz:=by
    rw [<-hl]
    rcases Nat.lt_or_ge k us.length with h | h
    ·exact h
    ·rw [List.getElem?_eq_none h] at h1;cases h1
   rw [<-htk,List.getElem?_take_of_lt hk'] at h1
   simpa using h1
  exact ⟨_,hs,hrd,hw'.add (x:=.rd _ _) hrd rfl⟩

theorem St.own_acc {w0 w : World} {M : Mem} {Γ : List As} {b n : Nat} {e : TypeId} {sz : Nat} {us : List Value} (hw : St w0 M (.own b e us::Γ) w) (hl : us.length = n * sz) (hn : n<=maxLen) :
  St w0 M (.acc (.slice (some ⟨b,0,none⟩) n n) e sz n us::Γ) w:=by
 have hx:=hw.all _ (List.mem_cons_self ..)
 refine ⟨hw.os,hw.tape,hw.output,hw.size,hw.mem,fun y hy=>?_,by simpa [List.filterMap_cons,As.blk,Value.ownBlock] using hw.nodup⟩
 rcases List.mem_cons.1 hy with rfl | hy
 ·refine ⟨⟨hl,.inr ⟨b,n,us.toArray,rfl,Nat.zero_le _,hx.2,Nat.le_refl _,hn,by simpa using hl,?_⟩⟩,fun k hk=>?_⟩
  ·rw [List.take_of_length_le Qc]
  ·simp only [Value.ownBlock,Option.some.injEq] at hk
   subst hk;exact hx.1
 ·exact hw.all y (List.mem_cons_of_mem _ hy)

theorem St.acc_nil {w0 w : World} {M : Mem} {Γ : List As} (hw : St w0 M Γ w) (e sz : Nat) : St w0 M (.acc (.slice none 0 0) e sz 0 []::Γ) w :=
 hw.add ⟨World.ownsRow_nil w 0 e sz,fun b hb=>by simp [Value.ownBlock] at hb⟩ rfl

structure ElemOk (P : Program) (t e sz bytes : Nat) : Prop where
 ut : P.underlying t = some (.slice e)
 info : ∃ i z,P.info? e = some i/\i.zero = some z/\i.size = sz/\i.bytes = bytes/\z.cells.size = sz
 pos : 0 < sz
theorem ElemOk.mk' {P : Program} {t e sz bytes : Nat} {z : Value} (h1 : P.underlying t = some (.slice e)) (h2 : (P.info? e).map (fun i=>(i.zero,i.size,i.bytes)) = some (some z,sz,bytes)) (h3 : z.cells.size = sz) (h4 : Nat.blt 0 sz = true) : ElemOk P t e sz bytes:=by
 refine ⟨h1,?_,by simpa [Nat.blt_eq] using h4⟩
 cases hi : P.info? e with
 | none=>simp [hi] at h2
 | some i =>
  simp only [hi,Option.map_some,Option.some.injEq,Prod.mk.injEq] at h2
  exact ⟨i,z,rfl,h2.1,h2.2.1,h2.2.2,h3⟩

def SrcOk (w0 : World) (M : Mem) (Γ : List As) (x : Value) (sz m : Nat) (news : List Value) : Prop :=
 news.length = m * sz/\(∀ u∈news,u.oneCell' = true) /\
 ((∃ p c,x = .slice (some p) m c/\∀ w,St w0 M Γ w->∀ j u,news[j]? = some u->w.cell? (p.add j) = some u)\/(m = 0/\∃ c,x = .slice none 0 c))

theorem St.grown {w0 w w' : World} {M : Mem} {Γ : List As} {u u' : Value} {e : TypeId} {sz n n' : Nat} {us us' : List Value} (hw : St w0 M (.acc u e sz n us::Γ) w)
  (hg : w.grownBy w' u.ownBlock) (ho : w'.ownsRow 0 e sz u' n' us') (hb : ∀ b,u'.ownBlock = some b->u.ownBlock = some b\/w.heap.size<=b) : St w0 M (.acc u' e sz n' us'::Γ) w':=by
 have hx:=hw.all _ (List.mem_cons_self ..)
 have hold : ∀ k,k < w.heap.size->u.ownBlock ≠ some k->w'.heap[k]? = w.heap[k]?:=fun k hk hne=>hg.block k hk (fun e=>hne e.symm)
 have hnd:=hw.nodup
 have hrest : ∀ y∈Γ,∀ k,y.blk = some k->u.ownBlock ≠ some k:=fun y hy k hk e=>by
  simp only [List.filterMap_cons,As.blk,e] at hnd
  exact (List.nodup_cons.1 hnd).1 (mem_blk hy hk)
 refine ⟨hg.os.trans hw.os,hg.tape.trans hw.tape,hg.output.trans hw.output,Nat.le_trans hw.size hg.size,fun k o hk=>?_,fun y hy=>?_,?_⟩
 ·rw [hold k (hw.lt hk) (fun e=>by rw [hx.2 k e] at hk;cases hk)];exact hw.mem k o hk
 ·rcases List.mem_cons.1 hy with rfl | hm
  ·refine ⟨ho,fun b hbb=>?_⟩
   rcases hb b hbb with h | h
   ·exact hx.2 b h
   ·cases hM : M b with
    | none=>rfl
    | some o=>have:=hw.lt hM;omega
  ·have hy':=hw.all y (List.mem_cons_of_mem _ hm)
   refine As.ok_keep hy' (Sub.refl M) fun k hk=>⟨hold k (As.ok_blk_lt hy' hk).1 (hrest y hm k hk),(As.ok_blk_lt hy' hk).2⟩
 ·simp only [List.filterMap_cons,As.blk] at hnd ⊢
  cases hu' : u'.ownBlock with
  | none =>
   cases hu : u.ownBlock with
   | none=>simpa [hu] using hnd
   | some k=>rw [hu] at hnd;exact (List.nodup_cons.1 hnd).2
  | some b =>
   have hnd2 : (List.filterMap As.blk Γ).Nodup:=by
    cases hu : u.ownBlock with
    | none=>simpa [hu] using hnd
    | some k=>rw [hu] at hnd;exact (List.nodup_cons.1 hnd).2
   refine List.nodup_cons.2 ⟨fun hm=>?_,hnd2⟩
   obtain ⟨y,hy,hk⟩:=List.mem_filterMap.1 hm
   rcases hb b hu' with h | h
   ·exact hrest y hy b hk h
   ·have:=(As.ok_blk_lt (hw.all y (List.mem_cons_of_mem _ hy)) hk).1
    omega

theorem append_acc {P : Program} {w0 w : World} {M : Mem} {Γ : List As} {t ty e sz bytes n m : Nat} {u x : Value} {us news : List Value} (hE : ElemOk P t e sz bytes)
  (hw : St w0 M (.acc u e sz n us::Γ) w) (hs : SrcOk w0 M (.acc u e sz n us::Γ) x sz m news) (hb : (n+m) * bytes<=140737488355328) (hm : n+m<=lim) :
  ∃ u' w',(Builtin.append_ #[t,t] ty #[u,x]).run P w = .ok u' w'/\St w0 M (.acc u' e sz (n+m) (us++news)::Γ) w':=by
 obtain ⟨ht,⟨i,z,hi,hz,hsize,hby,hzs⟩,hpos⟩:=hE
 obtain ⟨hl,h1,hsrc⟩:=hs
 have hx:=hw.all _ (List.mem_cons_self ..)
 have h63 : n+m<=maxLen:=by unfold lim at hm;unfold maxLen;omega
 rcases hsrc with ⟨p,c,rfl,hnews⟩ | ⟨rfl,c,rfl⟩
 ·obtain ⟨v',w',hr,ho,hg,_⟩:=run_append_own (P:=P) w 0 t ty e i z sz bytes ht hi hz hsize hby hzs hpos u n us hx.1 p m c news hl (hnews w hw) h1 h63 hb (Nat.zero_le _)
  refine ⟨v',w',hr,hw.grown hg ho fun b hbb=>?_⟩
  subst hsize
  obtain ⟨hlen,hh⟩:=hx.1
  rcases hh with ⟨rfl,rfl⟩ | ⟨b0,cap,cur,rfl,_,hb0,hnc,hcm,hcs,htk⟩
  ·rcases Nat.eq_zero_or_pos m with rfl | hmp
   ·have e0 : news = []:=List.eq_nil_of_length_eq_zero (by simpa using hl)
    subst e0
    have hr2 : (Builtin.append_ #[t,t] ty #[.slice none 0 0,.slice (some p) 0 c]).run P w = .ok (.slice none 0 0) w:=by
     have hf:=run_firstCells_some (P:=P) w i.size 0 p 0 c [] Q2 Q2
     simp [Builtin.append_,run_underlying ht,Go.sizeOf,typeInfo,hi,Builtin.lenOf,hf]
    rw [hr2] at hr
    cases hr
    simp [Value.ownBlock] at hbb
   ·have hr2:=run_append_nil (P:=P) w t ty e i z ht hi hz p m c news hl (hnews w hw) hmp (by unfold lim at hm;omega) (by rw [hby];simp at hb;omega)
    rw [hr2] at hr
    cases hr
    simp only [Value.ownBlock,Option.some.injEq] at hbb
    right;omega
  ·by_cases hroom : n+m<=cap
   ·have hr2:=run_append_room (P:=P) w t ty e i ht hi b0 n cap cur hb0 p m c news hl (hnews w hw) h1 hroom (by rw [hl,hcs,<-Nat.add_mul];exact Nat.mul_le_mul_right _ hroom)
    rw [hr2] at hr
    cases hr
    exact .inl hbb
   ·have holds : ∀ j v,us[j]? = some v->w.cell? ((⟨b0,0,none⟩ : Addr).add j) = some v:=hx.1.cells rfl
    have hr2:=run_append_grow (P:=P) w t ty e i z ht hi hz ⟨b0,0,none⟩ n cap us hlen holds p m c news hl (hnews w hw) Q0 (by unfold lim at hm;omega)
     (by rw [hby];exact growslice_fits Q0 hb)
    rw [hr2] at hr
    cases hr
    simp only [Value.ownBlock,Option.some.injEq] at hbb
    right;omega
 ·have e0 : news = []:=List.eq_nil_of_length_eq_zero (by simpa using hl)
  subst e0
  refine ⟨u,w,?_,by simpa using hw⟩
  obtain ⟨hlen,hh⟩:=hx.1
  rcases hh with ⟨rfl,rfl⟩ | ⟨b0,cap,cur,rfl,_,hb0,hnc,hcm,hcs,htk⟩
  ·simp [Builtin.append_,run_underlying ht,Go.sizeOf,typeInfo,hi,Builtin.lenOf,Builtin.firstCells]
  ·simp [Builtin.append_,run_underlying ht,Go.sizeOf,typeInfo,hi,Builtin.lenOf,Builtin.firstCells,hnc,storeCells]

def splice (cs : List Value) (off : Nat) (vs : List Value) : List Value:=cs.take off++vs++cs.drop (off+vs.length)
theorem splice_length {cs : List Value} {off : Nat} {vs : List Value} (h : off+vs.length<=cs.length) : (splice cs off vs).length = cs.length:=by
 simp [splice];omega

theorem fold_splice : ∀ (l : List Value) (off k : Nat) (cs : List Value),off+k+l.length<=cs.length ->
  (l.zipIdx k).foldl (fun (c : Array Value) (x : Value×Nat)=>c.setIfInBounds (off+x.2) x.1) cs.toArray = (splice cs (off+k) l).toArray
 | [],off,k,cs,_=>by simp [splice]
 | v::l,off,k,cs,h=>by
  have h' : off+(k+1)+l.length<=cs.length:=by simp at h;omega
  simp only [List.zipIdx_cons,List.foldl_cons,List.setIfInBounds_toArray]
  rw [fold_splice l off (k+1) (cs.set (off+k) v) (by simpa using h')]
  congr 1
  simp only [splice]
  have hk : off+k < cs.length:=by simp at h;omega
  rw [<-Nat.add_assoc,List.take_succ_eq_append_getElem (by simpa using hk),List.take_set_of_le Q0]
  simp only [List.getElem_set_self,List.length_cons,List.append_assoc,List.cons_append,List.nil_append,Nat.add_assoc]
  congr 3
  rw [List.drop_set,if_pos Q0]
  congr 1
  omega

def fillL (place : Nat->Option (Nat×Nat)) : List Value->List (Nat×List Value)->Option (List Value)
 | cells,[]=>some cells
 | cells,(i,vs)::rest=>match place i with
  | none=>none
  | some (off,size)=>if vs.length = size/\off+size<=cells.length then fillL place (splice cells off vs) rest else none

def cellsL : Value->List Value
 | .agg cs=>cs.toList
 | v=>[v]
theorem cellsL_spec (v : Value) : v.cells = (cellsL v).toArray:=by cases v <;> simp [Value.cells,cellsL]

theorem fill_eq (place : Nat->Option (Nat×Nat)) : ∀ (parts : List (Nat×Value)) (cells out : List Value),fillL place cells (parts.map fun p=>(p.1,cellsL p.2)) = some out->Instr.fill place cells.toArray parts = some out.toArray
 | [],cells,out,h=>by simp only [List.map_nil,fillL,Option.some.injEq] at h;simp [Instr.fill,h]
 | (i,v)::rest,cells,out,h=>by
  simp only [List.map_cons,fillL] at h
  unfold Instr.fill
  cases hp : place i with
  | none=>simp [hp] at h
  | some os =>
   obtain ⟨off,size⟩:=os
   rw [hp] at h
   simp only [] at h ⊢
   split at h
   ·rename_i hc
    obtain ⟨h1,h2⟩:=hc
    have hsz : v.cells.size = size:=by rw [cellsL_spec];simpa using h1
    rw [if_neg (by simp [hsz];omega)]
    rw [cellsL_spec v,<-Array.foldl_toList,Array.toList_zipIdx]
    have:=fold_splice (cellsL v) off 0 cells Q0
    simp only [Nat.add_zero] at this
    rw [this]
    exact fill_eq place rest _ _ h
   ·cases h

def pEv (L : Lm) : List (Nat×Operand)->Option (List (Nat×Value))
 | []=>some []
 | (i,x)::r=>match evL L x with
  | some v=>match pEv L r with
   | some vs=>some ((i,v)::vs)
   | none=>none
  | none=>none
theorem Sat.pEv {n : Nat} {L : Lm} {a : Act} (h : Sat n L a) : ∀ {xs : List (Nat×Operand)} {vs : List (Nat×Value)},pEv L xs = some vs->xs.map (fun p=>(p.1,a.eval p.2)) = vs
 | [],vs,hv=>by simp only [Xe.pEv,Option.some.injEq] at hv;simp [<-hv]
 | (i,x)::xs,vs,hv=>by
  simp only [Xe.pEv] at hv
  cases hx : evL L x with
  | none=>simp [hx] at hv
  | some v =>
   rw [hx] at hv
   simp only [] at hv
   cases hxs : Xe.pEv L xs with
   | none=>simp [hxs] at hv
   | some us =>
    rw [hxs] at hv
    simp only [Option.some.injEq] at hv
    rw [<-hv]
    simp [h.ev hx,h.pEv hxs]

def placesB (P : Program) (t : TypeId) : Option (List (Nat×Nat)):=match P.underlying t with
 | some (.struct fs)=>fs.toList.mapM fun f=>match P.info? f.type with
  | some i=>some (f.offset,i.size)
  | none=>none
 | _=>none

theorem run_places {P : Program} {w : World} : ∀ (fs : List Field) (pl : List (Nat×Nat)),(fs.mapM fun f=>match P.info? f.type with
  | some i=>some (f.offset,i.size)
  | none=>none) = some pl->(fs.mapM fun f=>Prod.mk f.offset <$> Go.sizeOf f.type : Sem (List (Nat×Nat))).run P w = .ok pl w
 | [],pl,h=>by simp at h;simp [<-h]
 | f::fs,pl,h=>by
  simp only [List.mapM_cons] at h ⊢
  cases hi : P.info? f.type with
  | none=>simp [hi] at h
  | some i =>
   simp only [hi,Option.bind_eq_bind,Option.bind_some] at h
   cases hr : (fs.mapM fun f=>match P.info? f.type with
    | some i=>some (f.offset,i.size)
    | none=>none) with
   | none=>rw [hr] at h;simp at h
   | some pl' =>
    rw [hr] at h
    simp only [Option.bind_some,Option.pure_def,Option.some.injEq] at h
    subst h
    have ih:=run_places (P:=P) (w:=w) fs pl' hr
    have hs : (Go.sizeOf f.type).run P w = .ok i.size w:=by simp [Go.sizeOf,typeInfo,hi]
    simp only [Sem.run_bind,Sem.run_map,hs,Result.andThen_ok,ih,Sem.run_pure]

section
variable {P : Program} {w0 : World} {L : Lm} {M : Mem} {Γ : List As} {d : Option Nat} {ty : TypeId} {pos : String} {af : Array Edge} {g : Option (Nat×Bool)}
namespace Y
theorem build {t : TypeId} {parts : List (Nat×Operand)} {vs : List (Nat×Value)} {zs : List Value} {pl : List (Nat×Nat)} (out : List Value) (hp : pEv L parts = some vs) (hz : zeroB P t = some (.agg zs.toArray)) (hpl : placesB P t = some pl)
  (hf : fillL (pl[·]?) zs (vs.map fun p=>(p.1,cellsL p.2)) = some out) : Yq P w0 L M Γ ⟨d,.build t parts.toArray,ty,pos,af,g⟩ (.agg out.toArray):=fun n a w ha _=>by
 unfold placesB at hpl
 cases hu : P.underlying t with
 | none=>simp [hu] at hpl
 | some dd =>
  rw [hu] at hpl
  cases dd with
  | struct fs =>
   simp only [] at hpl
   have h1:=run_places (P:=P) (w:=w) fs.toList pl hpl
   have h2:=fill_eq (pl[·]?) vs zs out hf
   have h3 : (parts.toArray.map fun x=>(x.1,a.eval x.2)) = vs.toArray:=by rw [List.map_toArray,ha.pEv hp]
   have h4 : (fs.mapM fun f=>(do pure (f.offset,<-Go.sizeOf f.type) : Sem (Nat×Nat))).run P w = .ok pl.toArray w:=by
    rw [Array.mapM_eq_mapM_toList]
    simp [h1]
   simp only [execOp,h3]
   simp only [Instr.build,Sem.run_bind,run_zeroB hz,Result.andThen_ok,run_underlying hu,Value.cells,h4,List.getElem?_toArray,h2,Sem.run_pure]
  | _=>simp at hpl
end Y
end

section
variable {P : Program} {n : Nat} {w0 : World} {ops : Array Oper} {rest : List Oper} {L : Lm} {M : Mem} {Γ : List As} {K : Lm->Mem->List As->Prop} {ty : TypeId} {pos : String} {af : Array Edge} {d : Nat}

theorem run_buildSlice {w : World} {t e sz bytes len : Nat} {vs : List (Nat×Value)} {out : List Value} (hE : ElemOk P t e sz bytes) (hlen : Nat.ble (len * sz) 16777216 = true)
  (hf : ∀ zs : List Value,zs.length = len * sz->fillL (fun i=>some (i * sz,sz)) zs (vs.map fun p=>(p.1,cellsL p.2)) = some out) :
  (Instr.buildSlice t len vs.toArray).run P w = .ok (.slice (some ⟨w.heap.size,0,none⟩) len len) { w with heap:=w.heap.push (.cells out.toArray e (0,0)) }:=by
 obtain ⟨ht,⟨i,z,hi,hz,hsize,hby,hzs⟩,hpos⟩:=hE
 have hl : ¬ (16777216 < len * sz):=by simpa [Nat.ble_eq] using hlen
 by_cases h0 : len * sz = 0
 ·have h1:=fill_eq (fun i=>some (i * sz,sz)) vs [] out (hf [] (by simp [h0]))
  have e0 : Array.map (fun _=>(default : Value)) (Array.range 0) = #[]:=Q2
  simp [Instr.buildSlice,run_underlying ht,Go.sizeOf,typeInfo,hi,hsize,h0,h1,e0,newRow]
 ·have h1:=fill_eq (fun i=>some (i * sz,sz)) vs ((Array.range (len * sz)).map (z.cells[· % z.cells.size]!)).toList out (hf _ Q2)
  simp only [Array.toArray_toList] at h1
  simp [Instr.buildSlice,run_underlying ht,Go.sizeOf,typeInfo,zeroValue,hi,hz,hsize,h0,hl,h1,newRow]

theorem RL.buildSlice {t e sz bytes len : Nat} {parts : List (Nat×Operand)} {vs : List (Nat×Value)} (out : List Value) (hE : ElemOk P t e sz bytes) (hp : pEv L parts = some vs) (hlen : Nat.ble (len * sz) 16777216 = true)
  (hf : ∀ zs : List Value,zs.length = len * sz->fillL (fun i=>some (i * sz,sz)) zs (vs.map fun p=>(p.1,cellsL p.2)) = some out) (hd : Nat.blt d n = true)
  (h : ∀ b,RL P n w0 ops rest ((d,.slice (some ⟨b,0,none⟩) len len)::L) M (.own b e out::Γ) K) : RL P n w0 ops (⟨some d,.buildSlice t len parts.toArray,ty,pos,af,none⟩::rest) L M Γ K:=by
 refine RL.e (fun v M' Γ'=>∃ b,v = .slice (some ⟨b,0,none⟩) len len/\M' = M/\Γ' = .own b e out::Γ) (fun n a w ha hw=>?_) hd ?_
 ·refine ⟨_,_,M,_,?_,⟨w.heap.size,rfl,rfl,rfl⟩,hw.alloc e out⟩
  have h3 : (parts.toArray.map fun x=>(x.1,a.eval x.2)) = vs.toArray:=by rw [List.map_toArray,ha.pEv hp]
  simp only [execOp,h3]
  simp [run_buildSlice hE hlen hf]
 ·rintro v M' Γ' ⟨b,rfl,rfl,rfl⟩
  exact h b

inductive Pick (x : As) : List As->List As->Prop
 | here (Γ : List As) : Pick x (x::Γ) Γ
 | there (y : As) {Γ R : List As} : Pick x Γ R->Pick x (y::Γ) (y::R)
theorem Pick.perm {x : As} {Γ R : List As} (h : Pick x Γ R) : List.Perm Γ (x::R):=by
 induction h with
 | here Γ=>exact .refl _
 | there y _ ih=>exact (ih.cons y).trans (.swap x y _)

theorem SrcOk.own {b e c : Nat} {news : List Value} {sz m : Nat} (hm : As.own b e news∈Γ) (hl : news.length = m * sz) (h1 : ∀ u∈news,u.oneCell' = true) : SrcOk w0 M Γ (.slice (some ⟨b,0,none⟩) m c) sz m news :=
 ⟨hl,h1,.inl ⟨_,c,rfl,fun w hw j u hj=>by
  have:=hw.own_cell hm hj
  rwa [show (⟨b,0,none⟩ : Addr).add j = adr (some ⟨b,0,none⟩) j from rfl]⟩⟩
theorem src_rd {w : World} {n sz : Nat} {ds : List D} {a : Option Addr} {l c : Nat} (hw : St w0 M Γ w) (hm : As.rd (.sl n sz ds) (.slice a l c)∈Γ) :
  ∃ news,RdL M ds news/\SrcOk w0 M Γ (.slice a l c) sz l news:=by
 have hr:=hw.rd hm
 simp only [Rd] at hr
 obtain ⟨a',c',h1,h2,h3,h4,h5,h6,h7⟩:=hr
 simp only [Value.slice.injEq] at h1
 obtain ⟨rfl,rfl,rfl⟩:=h1
 obtain ⟨us,h8,h9⟩:=cells_of (M:=M) (a:=a) (q:=0) (ds:=ds) fun j e hj=>by simpa using RdC.get ds 0 h7 j e hj
 refine ⟨us,h8,by rw [h8.1];exact h5,h8.one,?_⟩
 cases a with
 | none =>
  have h0 : ¬ 0 < l:=fun h=>by have:=h6 h;simp at this
  obtain rfl : l = 0:=Q0
  exact .inr ⟨rfl,c,rfl⟩
 | some p=>exact .inl ⟨p,c,rfl,fun w hw j u hj=>hw.cell (by have:=h9 j u hj;rw [Nat.zero_add] at this;exact this)⟩

theorem acc_slice {w : World} {u : Value} {e : TypeId} {sz n : Nat} {us : List Value} (h : As.ok M w (.acc u e sz n us)) : ∃ a c,u = .slice a n c/\n<=c:=by
 obtain ⟨⟨_,hh⟩,_⟩:=h
 rcases hh with ⟨rfl,rfl⟩ | ⟨b,cap,cur,rfl,_,_,hc,_⟩
 ·exact ⟨none,0,rfl,Nat.le_refl _⟩
 ·exact ⟨_,cap,rfl,hc⟩
theorem RL.append {t e sz bytes k m : Nat} {x y : Operand} {u xv : Value} {us news : List Value} {R : List As} (hE : ElemOk P t e sz bytes) (hx : evL L x = some u) (hy : evL L y = some xv) (hp : Pick (.acc u e sz k us) Γ R)
  (hs : SrcOk w0 M Γ xv sz m news) (hb : (k+m) * bytes<=140737488355328) (hm : k+m<=lim) (hd : Nat.blt d n = true)
  (h : ∀ a' c',k+m<=c'->RL P n w0 ops rest ((d,.slice a' (k+m) c')::L) M (.acc (.slice a' (k+m) c') e sz (k+m) (us++news)::R) K) : RL P n w0 ops (⟨some d,.call ⟨.builtin .append,#[x,y],#[t,t]⟩,ty,pos,af,none⟩::rest) L M Γ K:=by
 refine RL.e (fun v M' Γ'=>M' = M/\Γ' = .acc v e sz (k+m) (us++news)::R) (fun n a w ha hw=>?_) hd ?_
 ·obtain ⟨hl,h1,hsrc⟩:=hs
  have hs' : SrcOk w0 M (.acc u e sz k us::R) xv sz m news:=⟨hl,h1,hsrc.imp (fun ⟨p,c,h1,h2⟩=>⟨p,c,h1,fun w hw=>h2 w (hw.perm hp.perm.symm)⟩) id⟩
  obtain ⟨u',w',hr,hw'⟩:=append_acc (P:=P) (ty:=ty) hE (hw.perm hp.perm) hs' hb hm
  refine ⟨u',w',M,_,?_,⟨rfl,rfl⟩,hw'⟩
  simp [execOp,resolve,invoke,Go.builtin,ha.ev hx,ha.ev hy,hr]
 ·rintro v M' Γ' ⟨rfl,rfl⟩
  refine RL.know (F:=∃ a' c',v = .slice a' (k+m) c'/\k+m<=c') (fun w hw=>acc_slice (hw.all _ (List.mem_cons_self ..))) ?_
  rintro ⟨a',c',rfl,hc'⟩
  exact h a' c' hc'
theorem RL.appendRd {t e sz bytes k m : Nat} {x y : Operand} {u : Value} {a : Option Addr} {c : Nat} {us : List Value} {ds : List D} {R : List As} (hE : ElemOk P t e sz bytes) (hx : evL L x = some u) (hy : evL L y = some (.slice a m c)) (hp : Pick (.acc u e sz k us) Γ R)
  (hs : As.rd (.sl m sz ds) (.slice a m c)∈Γ) (hb : (k+m) * bytes<=140737488355328) (hm : k+m<=lim) (hd : Nat.blt d n = true)
  (h : ∀ a' c' news,k+m<=c'->RdL M ds news->RL P n w0 ops rest ((d,.slice a' (k+m) c')::L) M (.acc (.slice a' (k+m) c') e sz (k+m) (us++news)::R) K) : RL P n w0 ops (⟨some d,.call ⟨.builtin .append,#[x,y],#[t,t]⟩,ty,pos,af,none⟩::rest) L M Γ K:=by
 refine RL.know (F:=∃ news,RdL M ds news/\SrcOk w0 M Γ (.slice a m c) sz m news) (fun w hw=>src_rd hw hs) ?_
 rintro ⟨news,hr,hs'⟩
 exact RL.append hE hx hy hp hs' hb hm hd fun a' c' hc'=>h a' c' news hc' hr
end

theorem Turn.drop {w0 : World} {M : Mem} {Γ Γ' : List As} {F : Mem->List As->Prop} (h : F M Γ') (hs : List.Sublist Γ' Γ) : Turn w0 M Γ F:=Turn.of h fun _ hw=>hw.sub hs
theorem CW.addRd {P : Program} {n : Nat} {w0 : World} {c : Code} {X : Pst} {L : Lm} {M : Mem} {Γ : List As} {e : D} {u : Value} (hr : Rd M e u) (h : CW P n w0 c X L M (.rd e u::Γ)) : CW P n w0 c X L M Γ :=
 h.pre (Keep.refl L) fun _ hw=>hw.add (x:=.rd e u) hr rfl
theorem CW.addRds {P : Program} {n : Nat} {w0 : World} {c : Code} {X : Pst} {L : Lm} {M : Mem} {Γ : List As} {es : List D} {us : List Value} (hr : RdL M es us) (h : CW P n w0 c X L M (.rds es us::Γ)) : CW P n w0 c X L M Γ :=
 h.pre (Keep.refl L) fun _ hw=>hw.add (x:=.rds es us) hr rfl
theorem Rd.slice {M : Mem} {n sz : Nat} {cs : List D} {u : Value} (h : Rd M (.sl n sz cs) u) : ∃ a c,u = .slice a n c/\n<=c/\n<=140737488355328/\cs.length = n * sz:=by
 simp only [Rd] at h
 obtain ⟨a,c,h1,h2,_,h4,h5,_⟩:=h
 exact ⟨a,c,h1,h2,h4,h5⟩
theorem Turn.sealAcc {w0 : World} {M1 : Mem} {Γ Γ1 R : List As} {F : Mem->List As->Prop} {u : Value} {e : TypeId} {sz n : Nat} {us : List Value} {ds : List D} (hp : Pick (.acc u e sz n us) Γ1 R) (hr : RdL M1 ds us) (hn : n<=lim) (hl : List.Sublist Γ R)
  (hF : ∀ M',Sub M1 M'->Rd M' (.sl n sz ds) u->F M' Γ) : Turn w0 M1 Γ1 F:=fun _ hw=>by
 obtain ⟨M',h1,h2,h3⟩:=(hw.perm hp.perm).sealAcc hr hn
 exact ⟨M',Γ,hF M' h1 h2,h3.sub (hl.trans (List.sublist_cons_self _ _))⟩
theorem CW.accNil {P : Program} {n : Nat} {w0 : World} {c : Code} {X : Pst} {L : Lm} {M : Mem} {Γ : List As} (e sz : Nat) (h : CW P n w0 c X L M (.acc (.slice none 0 0) e sz 0 []::Γ)) : CW P n w0 c X L M Γ:=h.pre (Keep.refl L) fun _ hw=>hw.acc_nil e sz
theorem fill1 {sz : Nat} {v : Value} {out : List Value} (h : cellsL v = out) (hl : out.length = sz) : ∀ zs : List Value,zs.length = 1 * sz->fillL (fun i=>some (i * sz,sz)) zs ([(0,v)].map fun p=>(p.1,cellsL p.2)) = some out:=fun zs hz=>by
 have h1 : zs.length = sz:=Q0
 simp only [List.map_cons,List.map_nil,h,fillL,hl,h1,Nat.zero_mul,Nat.zero_add,Nat.le_refl,and_self,if_true,splice,List.take_zero,List.nil_append]
 rw [List.drop_of_length_le Q0,List.append_nil]
theorem RdL.vals {M : Mem} : ∀ {vs : List Value},(∀ v∈vs,v.oneCell' = true)->RdL M (vs.map D.v) vs
 | [],_=>RdL.nil M
 | v::vs,h=>RdL.cons (by unfold Rd;exact ⟨rfl,h v (List.mem_cons_self ..)⟩) (RdL.vals fun u hu=>h u (List.mem_cons_of_mem _ hu))
theorem CallOk.pick {P : Program} {w0 : World} {M : Mem} {Γ R : List As} {x : As} {f : FuncId} {args : Array Value} {F : Post} (hp : Pick x Γ R) (h : CallOk P w0 M (x::R) f args F) : CallOk P w0 M Γ f args F :=
 fun w hw=>h w (hw.perm hp.perm)
theorem CW.front {P : Program} {n : Nat} {w0 : World} {c : Code} {X : Pst} {L : Lm} {M : Mem} {Γ R : List As} {x : As} (hp : Pick x Γ R) (h : CW P n w0 c X L M (x::R)) : CW P n w0 c X L M Γ :=
 h.pre (Keep.refl L) fun _ hw=>hw.perm hp.perm
end Xe

namespace Xe
open Go

def Norm (R : Act->World->Prop) : Exit->Act->World->Prop
 | .normal,a,w=>R a w
 | _,_,_=>False

theorem upon_norm {P : Program} {o : Oper} {a : Act} {K : Act->World->Prop} {R R' : Act->World->Prop} {r : Result Next} (h : o.upon P a K (Norm R) r) : o.upon P a K (Norm R') r:=by
 cases r with
 | ok x w =>
  cases x <;> simp only [Oper.upon] at h ⊢ <;> first | exact h | (refine h.mono fun e w'' he=>?_;cases e <;> first | exact he | exact he.elim | (obtain ⟨a,w,hf⟩:=he;exact hf.elim))
 | halt x w=>cases x <;> simp only [Oper.upon] at h ⊢ <;> exact h

def HL (P : Program) (n : Nat) (w0 : World) (ops : Array Oper) (Mc : Mem) (Γc : List As) (fuel : Nat) (listed : Array Bool) (L : Lm) (M : Mem) (Γ : List As) (K : Lm->Mem->List As->Prop) : Prop :=
 (∃ w,St w0 Mc Γc w)->∀ R : Act->World->Prop,(∀ L M Γ,K L M Γ->∀ a w,Sat n L a->St w0 M Γ w->R a w) ->
 ∀ a w,Sat n L a->St w0 M Γ w->St w0 Mc Γc w->wpAnyH P .any ops (Norm R) (St w0 Mc Γc) fuel listed a w

section
variable {P : Program} {n : Nat} {w0 : World} {ops : Array Oper} {Mc : Mem} {Γc : List As} {fuel : Nat} {listed : Array Bool} {L : Lm} {M : Mem} {Γ : List As} {K : Lm->Mem->List As->Prop}

theorem HL.done (hr : Region.ready .any ops listed = []) (h : K L M Γ) : HL P n w0 ops Mc Γc fuel listed L M Γ K :=
 fun _ _ hR a w ha hw _=>wpAnyH_done hr (hR L M Γ h a w ha hw) fuel

theorem HL.take (i : Nat) {op : Op} {ty : TypeId} {pos : String} {after : Array Edge} {g : Option (Nat×Bool)} {d : Nat} {v : Value} (hi : ops[i]? = some ⟨some d,op,ty,pos,after,g⟩) (hs : Region.noSelect ops = true) (hf : Region.free .any ops listed i = true)
  (hr : (Region.ready .any ops listed).contains i = true) (hg : Want ops L ⟨some d,op,ty,pos,after,g⟩ true) (hy : Yq P w0 L Mc Γc ⟨some d,op,ty,pos,after,g⟩ v) (hd : Nat.blt d n = true)
  (h : HL P n w0 ops Mc Γc fuel (listed.setIfInBounds i true) ((d,v)::L) M Γ K) : HL P n w0 ops Mc Γc (fuel+1) listed L M Γ K :=
 fun hex R hR a w ha hw hc=>wpAnyH_take hi hs hf hr (fun _ _ _ h=>h) (.inl ⟨hg.spec ha,fun w hw=>hy n a w ha hw⟩) hc (h hex R hR _ w (ha.put hd) hw hc)

theorem HL.know {F : Prop} (hF : ∀ w,St w0 Mc Γc w->F) (h : F->HL P n w0 ops Mc Γc fuel listed L M Γ K) : HL P n w0 ops Mc Γc fuel listed L M Γ K :=
 fun hex=>h (let ⟨w,hw⟩:=hex;hF w hw) hex

theorem HL.more {Γc' : List As} (h1 : ∀ w,St w0 Mc Γc w↔St w0 Mc Γc' w) (h : HL P n w0 ops Mc Γc' fuel listed L M Γ K) : HL P n w0 ops Mc Γc fuel listed L M Γ K:=by
 have e : St w0 Mc Γc = St w0 Mc Γc':=funext fun w=>propext (h1 w)
 unfold HL at h ⊢
 rw [e]
 exact h

theorem wpOp_of_RL {i : Nat} {o : Oper} {K' : Lm->Mem->List As->Prop} {R R' : Act->World->Prop} (hi : ops[i]? = some o) (h : RL P n w0 ops [o] L M Γ K') (hR : ∀ L M Γ,K' L M Γ->∀ a w,Sat n L a->St w0 M Γ w->R a w) {a : Act} {w : World} (ha : Sat n L a) (hw : St w0 M Γ w) :
  wpOp P ops (Norm R') i R a w:=by
 have h1:=h (Norm R) hR a w ha hw
 unfold wpOp
 simp only [hi]
 unfold wpList at h1
 split
 ·rename_i hwt
  rw [if_pos hwt] at h1
  rcases h1 with h1 | ⟨_,a,w,hf⟩
  ·exact .inl (upon_norm (R:=R) h1)
  ·exact hf.elim
 ·rename_i hwt
  rw [if_neg hwt] at h1
  exact h1

theorem HL.step (i : Nat) {o : Oper} (hi : ops[i]? = some o) (hr : Region.ready .any ops listed = [i])
  (h : RL P n w0 ops [o] L M Γ (fun L' M' Γ'=>((∃ w,St w0 Mc Γc w)->∀ w,St w0 M' Γ' w->St w0 Mc Γc w)/\HL P n w0 ops Mc Γc fuel (listed.setIfInBounds i true) L' M' Γ' K)) : HL P n w0 ops Mc Γc (fuel+1) listed L M Γ K:=by
 intro hex R hR a w ha hw hc
 refine wpAnyH_all hr Q2 fun j hj=>?_
 simp only [List.mem_singleton] at hj
 subst hj
 exact wpOp_of_RL hi h (fun L' M' Γ' hK a' w' ha' hw'=>⟨hK.1 hex w' hw',hK.2 hex R hR a' w' ha' hw' (hK.1 hex w' hw')⟩) ha hw

theorem HL.step2 (i j : Nat) {o o' : Oper} (hi : ops[i]? = some o) (hj : ops[j]? = some o') (hr : Region.ready .any ops listed = [i,j])
  (h : RL P n w0 ops [o] L M Γ (fun L' M' Γ'=>((∃ w,St w0 Mc Γc w)->∀ w,St w0 M' Γ' w->St w0 Mc Γc w)/\HL P n w0 ops Mc Γc fuel (listed.setIfInBounds i true) L' M' Γ' K))
  (h' : RL P n w0 ops [o'] L M Γ (fun L' M' Γ'=>((∃ w,St w0 Mc Γc w)->∀ w,St w0 M' Γ' w->St w0 Mc Γc w)/\HL P n w0 ops Mc Γc fuel (listed.setIfInBounds j true) L' M' Γ' K)) : HL P n w0 ops Mc Γc (fuel+1) listed L M Γ K:=by
 intro hex R hR a w ha hw hc
 refine wpAnyH_all hr Q2 fun k hk=>?_
 simp only [List.mem_cons,List.not_mem_nil,or_false] at hk
 rcases hk with rfl | rfl
 ·exact wpOp_of_RL hi h (fun L' M' Γ' hK a' w' ha' hw'=>⟨hK.1 hex w' hw',hK.2 hex R hR a' w' ha' hw' (hK.1 hex w' hw')⟩) ha hw
 ·exact wpOp_of_RL hj h' (fun L' M' Γ' hK a' w' ha' hw'=>⟨hK.1 hex w' hw',hK.2 hex R hR a' w' ha' hw' (hK.1 hex w' hw')⟩) ha hw

theorem keep_same {Γ' : List As} (hl : List.Sublist Γc Γ') : (∃ w,St w0 Mc Γc w)->∀ w,St w0 Mc Γ' w->St w0 Mc Γc w:=fun _ _ hw=>hw.sub hl
theorem keep_more {M' : Mem} {Γ' : List As} (hs : Sub Mc M') (hl : List.Sublist Γc Γ') : (∃ w,St w0 Mc Γc w)->∀ w,St w0 M' Γ' w->St w0 Mc Γc w:=fun ⟨_,h⟩ _ hw=>h.back (hw.sub hl) hs

theorem CW.regionH {id : Nat} {X : Pst} {l : List Oper} (hm : P.follows .mixedOrders = true) (Mc : Mem) (Γc : List As) (hc : ∀ w,St w0 M Γ w->St w0 Mc Γc w)
  (h : HL P n w0 l.toArray Mc Γc l.length (Array.replicate l.length false) L M Γ (X .normal)) : CW P n w0 (.region id l.toArray true) X L M Γ:=by
 intro a w ha hw
 have hw':=hw.draw (w.drawn+1)
 have h1:=h ⟨_,hc _ hw'⟩ (fun a w=>Real n w0 X .normal a w) (fun L M Γ hX a w ha hw=>⟨L,M,Γ,hX,ha,hw⟩) a _ ha hw' (hc _ hw')
 have h2:=wp_region_held (P:=P) (id:=id) (Q:=Norm (fun a w=>Real n w0 X .normal a w)) (S:=St w0 Mc Γc) (ops:=l.toArray) (a:=a) (w:=w) hm (by simpa using h1)
 refine wp_mono h2 fun e a w he=>?_
 cases e <;> first | exact he | exact he.elim

theorem pure_iff {x : As} (hb : x.blk = none) (hx : ∀ w,x.ok M w) : ∀ w,St w0 M Γc w↔St w0 M (x::Γc) w:=fun w=>⟨fun h=>h.add (hx w) hb,fun h=>h.sub (List.sublist_cons_self _ _)⟩

theorem HL.takeX (i : Nat) {op : Op} {ty : TypeId} {pos : String} {after : Array Edge} {g : Option (Nat×Bool)} {d : Nat} (hi : ops[i]? = some ⟨some d,op,ty,pos,after,g⟩) (hs : Region.noSelect ops = true) (hf : Region.free .any ops listed i = true)
  (hr : (Region.ready .any ops listed).contains i = true) (hg : Want ops L ⟨some d,op,ty,pos,after,g⟩ true) (F : Value->As->Prop) (hex : ∀ w,St w0 M Γc w->∃ v x,F v x)
  (hF : ∀ v x,F v x->Yq P w0 L M Γc ⟨some d,op,ty,pos,after,g⟩ v/\x.blk = none/\∀ w,x.ok M w) (hd : Nat.blt d n = true)
  (h : ∀ v x,F v x->HL P n w0 ops M (x::Γc) fuel (listed.setIfInBounds i true) ((d,v)::L) M (x::Γ) K) : HL P n w0 ops M Γc (fuel+1) listed L M Γ K:=by
 refine HL.know hex ?_
 rintro ⟨v,x,hv⟩
 obtain ⟨h1,h2,h3⟩:=hF v x hv
 refine HL.take i hi hs hf hr hg h1 hd ?_
 have h4:=h v x hv
 refine HL.more (pure_iff h2 h3) ?_
 exact fun hex R hR a w ha hw hc=>h4 hex R hR a w ha (hw.add (h3 w) h2) hc

theorem HL.loadOwnSl (i : Nat) {x : Operand} {t : TypeId} {ty : TypeId} {pos : String} {af : Array Edge} {g : Option (Nat×Bool)} {d b e : Nat} {q n1 sz1 : Nat} {us : List Value} {ds cs1 : List D} (hi : ops[i]? = some ⟨some d,.load t x,ty,pos,af,g⟩) (hs : Region.noSelect ops = true) (hf : Region.free .any ops listed i = true)
  (hr : (Region.ready .any ops listed).contains i = true) (hg : Want ops L ⟨some d,.load t x,ty,pos,af,g⟩ true)
  (hx : evL L x = some (.pointer (some (adr (some ⟨b,0,none⟩) q)))) (hm : As.own b e us∈Γc) (hrd : As.rds ds us∈Γc) (hq : ds[q]? = some (.sl n1 sz1 cs1)) (hfl : flatB P t = true) (hd : Nat.blt d n = true)
  (h : ∀ a1 c1,us[q]? = some (.slice a1 n1 c1)->n1<=c1->n1<=140737488355328->HL P n w0 ops M (.rd (.sl n1 sz1 cs1) (.slice a1 n1 c1)::Γc) fuel (listed.setIfInBounds i true) ((d,.slice a1 n1 c1)::L) M (.rd (.sl n1 sz1 cs1) (.slice a1 n1 c1)::Γ) K) :
  HL P n w0 ops M Γc (fuel+1) listed L M Γ K:=by
 refine HL.takeX i hi hs hf hr hg (fun v x=>us[q]? = some v/\Rd M (.sl n1 sz1 cs1) v/\x = .rd (.sl n1 sz1 cs1) v) (fun w hw=>?_) ?_ hd ?_
 ·obtain ⟨u,h1,h2⟩:=RdL.get (hw.all _ hrd) hq
  exact ⟨u,_,h1,h2,rfl⟩
 ·rintro v _ ⟨h1,h2,rfl⟩
  exact ⟨Y.load hx hfl fun w hw=>hw.own_cell hm h1,rfl,fun _=>h2⟩
 ·rintro v _ ⟨h1,h2,rfl⟩
  have hr':=h2
  simp only [Rd] at hr'
  obtain ⟨a1,c1,rfl,h3,_,h4,_⟩:=hr'
  exact h a1 c1 h1 h3 h4

theorem CW.regionHP {id : Nat} {X : Pst} {l : List Oper} {x : As} {R : List As} (hm : P.follows .mixedOrders = true) (hp : Pick x Γ R)
  (h : HL P n w0 l.toArray M R l.length (Array.replicate l.length false) L M Γ (X .normal)) : CW P n w0 (.region id l.toArray true) X L M Γ :=
 CW.regionH hm M R (fun _ hw=>(hw.perm hp.perm).sub (List.sublist_cons_self _ _)) h
end
def CellAt (P : Program) (w0 : World) (r : Nat) (t : TypeId) (L : Lm) (M : Mem) (Γ : List As) (R : Post) : Prop :=
 ∃ b e cs,getL L r = some (.pointer (some (adr (some ⟨b,0,none⟩) 0)))/\As.own b e cs∈Γ/\aggB P t cs.length = true/\Turn w0 M Γ (R (.agg cs.toArray))

theorem CellAt.mk {P : Program} {w0 : World} {r : Nat} {t : TypeId} {L : Lm} {M : Mem} {Γ : List As} {R : Post} {b e sz : Nat} {cs : List Value} (h1 : getL L r = some (.pointer (some (adr (some ⟨b,0,none⟩) 0)))) (h2 : As.own b e cs∈Γ)
  (h3 : cs.length = sz) (h4 : aggB P t sz = true) (h5 : Turn w0 M Γ (R (.agg cs.toArray))) : CellAt P w0 r t L M Γ R:=⟨b,e,cs,h1,h2,by rw [h3];exact h4,h5⟩

theorem run_loadOwn {P : Program} {w0 w : World} {M : Mem} {Γ : List As} {b : Nat} {e t : TypeId} {cs : List Value} (hw : St w0 M Γ w) (hm : As.own b e cs∈Γ) (ha : aggB P t cs.length = true) :
  (loadVar t (adr (some ⟨b,0,none⟩) 0)).run P w = .ok (.agg cs.toArray) w:=by
 obtain ⟨h1,h2⟩:=run_aggB (P:=P) (w:=w) ha
 have h3:=Y.run_loadCellsFrom (P:=P) (w:=w) (p:=adr (some ⟨b,0,none⟩) 0) cs 0 #[] (by
  intro j v hj
  rw [adr_add]
  simpa using hw.own_cell hm hj)
 simp [loadVar,h1,h2,loadCells,h3]

theorem enterCell {P : Program} {f : FuncId} {fn : Func} {c : Code} {args : List Value} {w0 : World} {M : Mem} {Γ : List As} {R : Post} {r n : Nat} {t : TypeId}
  (hf : P.funcs[f]? = some fn) (hb : fn.body = some c) (hn : fn.ntmps = n) (hr : fn.results = #[.cell r t]) (ha : Nat.ble args.length n = true)
  (h : ∀ w1,St w0 M Γ w1->CW P n w0 c (fun e L M Γ=>match e with
   | .ret | .normal=>CellAt P w0 r t L M Γ R
   | _=>False) (slotsOf 0 args) M Γ) : CallOk P w0 M Γ f args.toArray R:=by
 intro w hw
 refine calls_of_wp hf hb ?_
 rw [hn]
 refine wp_mono (h w hw _ w (sat_start n args ha) hw) ?_
 rintro e a w' ⟨L,M1,Γ1,hX,h1,h2⟩
 cases e with
 | normal | ret =>
  obtain ⟨b,e,cs,hv,hm,hag,hi⟩:=hX
  obtain ⟨M',Γ',hR,hw'⟩:=hi w' h2
  refine ⟨h1.defers,.agg cs.toArray,?_,_,M',Γ',rfl,hR,hw'⟩
  have e1:=h1.get r _ hv
  simp [results,hr,e1,asAddr,run_loadOwn h2 hm hag]
 | _=>exact hX.elim

theorem enterCell2 {P : Program} {f : FuncId} {fn : Func} {c : Code} {args : List Value} {w0 : World} {M : Mem} {Γ : List As} {R : Post} {r s n : Nat} {t : TypeId}
  (hf : P.funcs[f]? = some fn) (hb : fn.body = some c) (hn : fn.ntmps = n) (hr : fn.results = #[.cell r t,.tmp s]) (ha : Nat.ble args.length n = true)
  (h : ∀ w1,St w0 M Γ w1->CW P n w0 c (fun e L M Γ=>match e with
   | .ret | .normal=>∃ v,getL L s = some v/\CellAt P w0 r t L M Γ (fun u=>R (.tuple #[u,v]))
   | _=>False) (slotsOf 0 args) M Γ) : CallOk P w0 M Γ f args.toArray R:=by
 intro w hw
 refine calls_of_wp hf hb ?_
 rw [hn]
 refine wp_mono (h w hw _ w (sat_start n args ha) hw) ?_
 rintro e a w' ⟨L,M1,Γ1,hX,h1,h2⟩
 cases e with
 | normal | ret =>
  obtain ⟨v,hs,b,e,cs,hv,hm,hag,hi⟩:=hX
  obtain ⟨M',Γ',hR,hw'⟩:=hi w' h2
  refine ⟨h1.defers,.tuple #[.agg cs.toArray,v],?_,_,M',Γ',rfl,hR,hw'⟩
  have e1:=h1.get r _ hv
  have e2:=h1.get s _ hs
  simp [results,hr,e1,e2,asAddr,run_loadOwn h2 hm hag]
 | _=>exact hX.elim

abbrev ints (l : List Int) : List Value:=l.map fun n=>.int .i64 n
def OptIs (L : Lm) : Option Operand->Nat->Nat->Prop
 | none,d,k=>k = d
 | some x,_,k=>∃ z,evL L x = some (.int .i64 z)/\z = (k : Int)
theorem run_sliceBound {P : Program} {w : World} {z : Int} {y k : Nat} {c : BoundsCode} (h : z = (k : Int)) (hk : k<=y) : (Instr.sliceBound (.int .i64 z) y c).run P w = .ok k w:=by
 subst h
 simp [Instr.sliceBound,asIntOf,hk]
def cutV (a : Option Addr) (l h m sz : Nat) : Value:=.slice (if m = l then a else a.map (·.add (l * sz))) (h - l) (m - l)
theorem Y.slice {P : Program} {w0 : World} {L : Lm} {M : Mem} {Γ : List As} {d : Option Nat} {ty : TypeId} {pos : String} {af : Array Edge} {g : Option (Nat×Bool)} {x : Operand} {lo hi mx : Option Operand} {t e sz : Nat} {a : Option Addr} {n c : Nat} (l h m : Nat)
  (hx : evL L x = some (.slice a n c)) (hlo : OptIs L lo 0 l) (hhi : OptIs L hi n h) (hmx : OptIs L mx c m) (hb : hi.isSome = true\/mx.isSome = false) (h1 : l<=h) (h2 : h<=m) (h3 : m<=c) (ht : sliceB P t e sz = true) :
  Yq P w0 L M Γ ⟨d,.slice t x lo hi mx,ty,pos,af,g⟩ (cutV a l h m sz):=fun k ac w ha _=>by
 obtain ⟨e1,e2⟩:=sliceB_spec ht
 have r3:=run_sizeB (P:=P) (w:=w) e2
 have key : (Instr.slice t (.slice a n c) (lo.map ac.eval) (hi.map ac.eval) (mx.map ac.eval)).run P w = .ok (cutV a l h m sz) w:=by
  have hl : lo = none/\l = 0\/∃ y z,lo = some y/\ac.eval y = .int .i64 z/\z = (l : Int):=by
   cases lo with
   | none=>exact .inl ⟨rfl,hlo⟩
   | some y=>obtain ⟨z,hz,e⟩:=hlo;exact .inr ⟨y,z,rfl,ha.ev hz,e⟩
  cases mx with
  | none =>
   simp only [OptIs] at hmx;subst hmx
   cases hi with
   | none =>
    simp only [OptIs] at hhi;subst hhi
    rcases hl with ⟨rfl,rfl⟩ | ⟨y,z,rfl,hy,hz⟩
    ·simp [Instr.slice,run_underlying e1,Instr.sliceBounds,r3,cutV]
    ·simp [Instr.slice,run_underlying e1,Instr.sliceBounds,hy,r3,run_sliceBound hz h1,cutV]
   | some y =>
    obtain ⟨z,hz,e⟩:=hhi
    rcases hl with ⟨rfl,rfl⟩ | ⟨y',z',rfl,hy,hz'⟩
    ·simp [Instr.slice,run_underlying e1,Instr.sliceBounds,ha.ev hz,r3,run_sliceBound e h2,cutV]
    ·simp [Instr.slice,run_underlying e1,Instr.sliceBounds,ha.ev hz,hy,r3,run_sliceBound e h2,run_sliceBound hz' h1,cutV]
  | some u =>
   obtain ⟨z',hz',e'⟩:=hmx
   cases hi with
   | none=>simp at hb
   | some y =>
    obtain ⟨z,hz,e⟩:=hhi
    rcases hl with ⟨rfl,rfl⟩ | ⟨y',z'',rfl,hy,hz''⟩
    ·simp [Instr.slice,run_underlying e1,Instr.sliceBounds,ha.ev hz,ha.ev hz',r3,run_sliceBound e h2,run_sliceBound e' h3,cutV]
    ·simp [Instr.slice,run_underlying e1,Instr.sliceBounds,ha.ev hz,ha.ev hz',hy,r3,run_sliceBound e h2,run_sliceBound e' h3,run_sliceBound hz'' h1,cutV]
 simp [execOp,ha.ev hx,Instr.sliceAt,run_underlying e1,key]
theorem Rd.cut {M : Mem} {n sz : Nat} {cs : List D} {a : Option Addr} {c : Nat} (hr : Rd M (.sl n sz cs) (.slice a n c)) (l h m : Nat) (h1 : l<=h) (h2 : h<=m) (h3 : m<=c) (h4 : h<=n) :
  Rd M (.sl (h - l) sz ((cs.drop (l * sz)).take ((h - l) * sz))) (cutV a l h m sz):=by
 simp only [Rd] at hr ⊢
 obtain ⟨a',cap,e,k1,k2,k3,k4,k5,k6⟩:=hr
 simp only [Value.slice.injEq] at e
 obtain ⟨rfl,_,rfl⟩:=e
 refine ⟨_,_,rfl,Q0,Q0,Q0,?_,?_,?_⟩
 ·have:=Nat.mul_le_mul_right sz h4
  simp only [List.length_take,List.length_drop,k4,Nat.sub_mul]
  omega
 ·intro hp
  have:=k5 Q0
  by_cases hm : m = l
  ·omega
  ·rw [if_neg hm];simpa using this
 ·by_cases hm : m = l
  ·have : h - l = 0:=Q0
   simp [this,RdC]
  ·rw [if_neg hm]
   refine RdC.mk _ 0 fun k d hk=>?_
   have hk' : cs[l * sz+k]? = some d:=by
    rw [List.getElem?_take] at hk
    split at hk
    ·simpa using hk
    ·cases hk
   have hk2 : k < (h - l) * sz:=by
    rw [List.getElem?_take] at hk
    split at hk
    ·assumption
    ·cases hk
   obtain ⟨u,q1,q2⟩:=RdC.get cs 0 k6 _ d hk'
   have hp : 0 < h - l:=by
    rcases Nat.eq_zero_or_pos (h - l) with e | e
    ·rw [e] at hk2;omega
    ·exact e
   have:=k5 Q0
   obtain ⟨b,rfl⟩:=Option.isSome_iff_exists.1 this
   refine ⟨u,?_,q2⟩
   rw [Nat.zero_add] at q1 ⊢
   have : adr ((some b).map (·.add (l * sz))) k = adr (some b) (l * sz+k):=by
    have h0 : b.add (l * sz) = adr (some b) (l * sz):=rfl
    show (b.add (l * sz)).add k = _
    rw [h0,adr_add]
   rw [this]
   exact q1

theorem St.own_acc2 {w0 w : World} {M : Mem} {Γ : List As} {b n cap : Nat} {e : TypeId} {sz : Nat} {cs us : List Value} (hw : St w0 M (.own b e cs::Γ) w) (hl : us.length = n * sz) (hc : cs.length = cap * sz) (ht : cs.take (n * sz) = us) (hn : n<=cap) (hm : cap<=maxLen) :
  St w0 M (.acc (.slice (some ⟨b,0,none⟩) n cap) e sz n us::Γ) w:=by
 have hx:=hw.all _ (List.mem_cons_self ..)
 refine ⟨hw.os,hw.tape,hw.output,hw.size,hw.mem,fun y hy=>?_,by simpa [List.filterMap_cons,As.blk,Value.ownBlock] using hw.nodup⟩
 rcases List.mem_cons.1 hy with rfl | hy
 ·refine ⟨⟨hl,.inr ⟨b,cap,cs.toArray,rfl,Nat.zero_le _,hx.2,hn,hm,by simpa using hc,by simpa using ht⟩⟩,fun k hk=>?_⟩
  simp only [Value.ownBlock,Option.some.injEq] at hk
  subst hk;exact hx.1
 ·exact hw.all y (List.mem_cons_of_mem _ hy)

section
variable {P : Program} {n : Nat} {w0 : World} {ops : Array Oper} {rest : List Oper} {L : Lm} {M : Mem} {Γ : List As} {K : Lm->Mem->List As->Prop} {ty : TypeId} {pos : String} {af : Array Edge} {d : Nat}
theorem RL.ownAcc {b k e sz : Nat} {us : List Value} {R : List As} (hp : Pick (.own b e us) Γ R) (hl : us.length = k * sz) (hk : k<=maxLen) (h : RL P n w0 ops rest L M (.acc (.slice (some ⟨b,0,none⟩) k k) e sz k us::R) K) : RL P n w0 ops rest L M Γ K :=
 h.pre (fun _ _ h=>h) fun _ hw=>(hw.perm hp.perm).own_acc hl hk
theorem RL.addRd {dd : D} {u : Value} (hr : Rd M dd u) (h : RL P n w0 ops rest L M (.rd dd u::Γ) K) : RL P n w0 ops rest L M Γ K :=
 h.pre (fun _ _ h=>h) fun _ hw=>hw.add (x:=.rd dd u) hr rfl
end
def Mem.diff (M' M : Mem) : Mem:=fun b=>if (M b).isSome then none else M' b
theorem cellM_of {M : Mem} {b : Nat} {c : Array Value} {e : TypeId} {i : Nat} {v : Value} (hM : M b = some (.cells c e (0,0))) (h : c[i]? = some v) : cellM M (adr (some ⟨b,0,none⟩) i) = some v:=by
 rw [adr_some]
 simp [cellM,hM,h]

theorem Rd.ofBlock {M : Mem} {b n cap : Nat} {e : TypeId} {sz : Nat} {cur : Array Value} {us : List Value} {ds : List D} (hM : M b = some (.cells cur e (0,0))) (hr : RdL M ds us) (hl : us.length = n * sz) (hn : n<=lim) (hc : n<=cap) (hm : cap<=maxLen) (ht : cur.toList.take (n * sz) = us) :
  Rd M (.sl n sz ds) (.slice (some ⟨b,0,none⟩) n cap):=by
 simp only [Rd]
 refine ⟨some ⟨b,0,none⟩,cap,rfl,hc,hm,hn,by rw [<-hr.1];exact hl,fun _=>rfl,RdC.mk ds 0 fun k d hk=>?_⟩
 obtain ⟨v,h1,h2⟩:=RdL.get hr hk
 refine ⟨v,?_,h2⟩
 rw [Nat.zero_add]
 apply cellM_of hM
 have hk' : k < n * sz:=by
  rw [<-hl]
  rcases Nat.lt_or_ge k us.length with h | h
  ·exact h
  ·rw [List.getElem?_eq_none h] at h1;cases h1
 rw [<-ht,List.getElem?_take_of_lt hk'] at h1
 simpa using h1

def Mem.less (M : Mem) (bs : List Nat) : Mem:=fun b=>if b∈bs then none else M b
def As.owns : As->Prop
 | .own ..=>True
 | .acc ..=>True
 | _=>False
structure Lent (w0 : World) (M : Mem) (Γs Γ : List As) (M' : Mem) : Prop where
 sub : Sub M M'
 wit : ∃ w,St w0 M (Γs++Γ) w/\∀ x∈Γs,∀ b,x.blk = some b->M' b = w.heap[b]?
 only : ∀ b o,M' b = some o->M b = some o\/b∈Γs.filterMap As.blk

theorem St.lend {w0 w : World} {M : Mem} {Γ : List As} : ∀ (Γs : List As),(∀ x∈Γs,x.owns)->St w0 M (Γs++Γ) w->∃ M',Lent w0 M Γs Γ M'/\St w0 M' Γ w
 | [],_,h=>⟨M,⟨Sub.refl M,⟨w,h,fun x hx=>by simp at hx⟩,fun b o hb=>.inl hb⟩,h⟩
 | x::Γs,ho,h=>by
  have hp : St w0 M (Γs++(x::Γ)) w:=h.perm (List.perm_middle.symm)
  obtain ⟨M1,hl,h1⟩:=St.lend Γs (fun y hy=>ho y (List.mem_cons_of_mem _ hy)) hp
  have hx:=h1.all x (List.mem_cons_self ..)
  cases hb : x.blk with
  | none =>
   refine ⟨M1,⟨hl.sub,⟨w,h,fun y hy b hyb=>?_⟩,fun b o hbo=>?_⟩,h1.sub (List.sublist_cons_self _ _)⟩
   ·rcases List.mem_cons.1 hy with rfl | hy
    ·rw [hb] at hyb;cases hyb
    ·have hblk : b∈Γs.filterMap As.blk:=mem_blk hy hyb
     have:=h1.mem
     cases hM : M1 b with
     | some o=>exact (h1.mem b o hM).symm
     | none =>
      obtain ⟨w',hw',hw2⟩:=hl.wit
      have e1:=hw2 y hy b hyb
      have e2:=(As.ok_blk_lt (hw'.all y (List.mem_append_left _ hy)) hyb).1
      rw [hM] at e1
      exact absurd e1.symm (by rw [Array.getElem?_eq_getElem e2];simp)
   ·rcases hl.only b o hbo with h2 | h2
    ·exact .inl h2
    ·exact .inr (by simpa [List.filterMap_cons,hb] using h2)
  | some b =>
   have hlt:=(As.ok_blk_lt hx hb)
   obtain ⟨o,ho'⟩ : ∃ o,w.heap[b]? = some o:=⟨_,Array.getElem?_eq_getElem hlt.1⟩
   have h2:=h1.seal_block (b:=b) (o:=o) hb ho'
   refine ⟨M1.put b o,⟨hl.sub.trans (Mem.put_sub hlt.2),⟨w,h,fun y hy c hyc=>?_⟩,fun c o' hc=>?_⟩,h2⟩
   ·rcases List.mem_cons.1 hy with rfl | hy
    ·rw [hb] at hyc;cases hyc
     simp [Mem.put,ho']
    ·obtain ⟨w',hw',hw2⟩:=hl.wit
     have e1:=hw2 y hy c hyc
     have e2:=(As.ok_blk_lt (hw'.all y (List.mem_append_left _ hy)) hyc).1
     cases hM : M1 c with
     | none=>rw [hM] at e1;exact absurd e1.symm (by rw [Array.getElem?_eq_getElem e2];simp)
     | some o2 =>
      have:=Mem.put_sub hlt.2 (o:=o) c o2 hM
      rw [this]
      exact (h1.mem c o2 hM).symm
   ·unfold Mem.put at hc
    by_cases e : c = b
    ·right;simp [hb,e]
    ·rw [if_neg e] at hc
     rcases hl.only c o' hc with h3 | h3
     ·exact .inl h3
     ·right;simp only [List.filterMap_cons,hb];exact List.mem_cons_of_mem _ h3

theorem Lent.back {w0 w' : World} {M M1 M2 : Mem} {Γs Γ : List As} (h : Lent w0 M Γs Γ M1) (_ho : ∀ x∈Γs,x.owns) (hs : Sub M1 M2) (hw : St w0 M2 Γ w') :
  Sub M (M2.less (Γs.filterMap As.blk))/\Sub (M2.diff M1) (M2.less (Γs.filterMap As.blk))/\St w0 (M2.less (Γs.filterMap As.blk)) (Γs++Γ) w':=by
 obtain ⟨w,hw1,hl⟩:=h.wit
 have hMs : ∀ x∈Γs,∀ b,x.blk = some b->∃ o,M1 b = some o/\w.heap[b]? = some o:=fun x hx b hb=>by
  have e1:=hl x hx b hb
  have e2:=(As.ok_blk_lt (hw1.all x (List.mem_append_left _ hx)) hb).1
  rw [Array.getElem?_eq_getElem e2] at e1
  exact ⟨_,e1,Array.getElem?_eq_getElem e2⟩
 have hsubM : Sub M (M2.less (Γs.filterMap As.blk)):=fun b o hb=>by
  unfold Mem.less
  rw [if_neg fun hm=>?_]
  ·exact hs b o (h.sub b o hb)
  ·obtain ⟨x,hx,hxb⟩:=List.mem_filterMap.1 hm
   have:=(As.ok_blk_lt (hw1.all x (List.mem_append_left _ hx)) hxb).2
   rw [hb] at this;cases this
 have hle : Sub (M2.less (Γs.filterMap As.blk)) M2:=fun b o hb=>by
  unfold Mem.less at hb
  split at hb
  ·cases hb
  ·exact hb
 refine ⟨hsubM,fun b o hb=>?_,hw.os,hw.tape,hw.output,hw.size,fun b o hb=>hw.mem b o (hle b o hb),fun x hx=>?_,?_⟩
 ·unfold Mem.diff at hb
  split at hb
  ·cases hb
  ·rename_i hn
   unfold Mem.less
   rw [if_neg fun hm=>?_]
   ·exact hb
   ·obtain ⟨x,hx,hxb⟩:=List.mem_filterMap.1 hm
    obtain ⟨o',h1,h2⟩:=hMs x hx b hxb
    simp [h1] at hn
 ·rcases List.mem_append.1 hx with hx | hx
  ·have h0:=hw1.all x (List.mem_append_left _ hx)
   have hk : ∀ b,x.blk = some b->w'.heap[b]? = w.heap[b]?/\M2.less (Γs.filterMap As.blk) b = none:=fun b hb=>by
    obtain ⟨o,h1,h2⟩:=hMs x hx b hb
    refine ⟨by rw [hw.mem b o (hs b o h1),h2],?_⟩
    unfold Mem.less
    rw [if_pos (mem_blk hx hb)]
   exact As.ok_keep h0 hsubM hk
  ·have h0:=hw1.all x (List.mem_append_right _ hx)
   have h2:=hw.all x hx
   cases x with
   | rd d u=>exact Rd.mono hsubM d u h0
   | rds d u=>exact RdL.mono hsubM h0
   | own b e cs =>
    refine ⟨?_,h2.2⟩
    cases hM : M2.less (Γs.filterMap As.blk) b with
    | none=>rfl
    | some o=>have:=hle b o hM;rw [h2.1] at this;cases this
   | acc u e sz n us =>
    refine ⟨h2.1,fun b hb=>?_⟩
    cases hM : M2.less (Γs.filterMap As.blk) b with
    | none=>rfl
    | some o=>have:=hle b o hM;rw [h2.2 b hb] at this;cases this
   | mp b l =>
    refine ⟨?_,h2.2⟩
    cases hM : M2.less (Γs.filterMap As.blk) b with
    | none=>rfl
    | some o=>have:=hle b o hM;rw [h2.1] at this;cases this
 ·exact hw1.nodup

theorem Lent.acc {w0 : World} {M M' : Mem} {Γs Γ : List As} (h : Lent w0 M Γs Γ M') {u : Value} {n : Nat} {e : TypeId} {sz : Nat} {us : List Value} {ds : List D} (hx : As.acc u e sz n us∈Γs) (hr : RdL M' ds us) (hn : n<=lim) :
  Rd M' (.sl n sz ds) u:=by
 obtain ⟨w,hw,hm⟩:=h.wit
 have h0:=hw.all _ (List.mem_append_left _ hx)
 obtain ⟨⟨hl,hh⟩,_⟩:=h0
 rcases hh with ⟨rfl,rfl⟩ | ⟨b,cap,cur,rfl,_,hb,hnc,hcm,hcs,htk⟩
 ·have hd : ds = []:=by
   have h1:=hr.1
   have : us.length = 0:=by simpa using hl
   rw [this] at h1
   exact List.eq_nil_of_length_eq_zero h1.symm
  subst hd
  simp only [Rd]
  exact ⟨none,0,rfl,Nat.le_refl _,Nat.zero_le _,Nat.zero_le _,Q2,Q2,by simp [RdC]⟩
 ·have h1:=hm _ hx b rfl
  rw [hb] at h1
  exact Rd.ofBlock h1 hr hl hn hnc hcm (by simpa using htk)

theorem St.acc_cell {w0 w : World} {M : Mem} {Γ : List As} (h : St w0 M Γ w) {a : Option Addr} {n c e sz : Nat} {us : List Value} (hm : As.acc (.slice a n c) e sz n us∈Γ) {q : Nat} {v : Value} (hq : us[q]? = some v) : a.isSome = true/\w.cell? (adr a q) = some v:=by
 obtain ⟨⟨hl,hh⟩,_⟩:=h.all _ hm
 rcases hh with ⟨e1,rfl⟩ | ⟨b,cap,cur,e1,_,hb,hnc,hcm,hcs,htk⟩
 ·have : us = []:=List.eq_nil_of_length_eq_zero (by rw [hl];simp)
  subst this
  simp at hq
 ·simp only [Value.slice.injEq] at e1
  obtain ⟨rfl,_,rfl⟩:=e1
  refine ⟨rfl,?_⟩
  rw [adr_some]
  have hk' : q < n * sz:=by
   rw [<-hl]
   rcases Nat.lt_or_ge q us.length with h | h
   ·exact h
   ·rw [List.getElem?_eq_none h] at hq;cases hq
  have h2:=hq
  rw [<-htk,List.getElem?_take_of_lt hk'] at h2
  have h3 : cur[q]? = some v:=by simpa using h2
  simp [World.cell?,hb,h3]

section
variable {P : Program} {w0 : World} {L : Lm} {M : Mem} {Γ : List As} {d : Option Nat} {ty : TypeId} {pos : String} {af : Array Edge} {g : Option (Nat×Bool)}
end

theorem ints_get {l : List Int} {q k : Nat} {z : Int} (h : l[k]? = some z) (e : q = k) : (ints l)[q]? = some (.int .i64 z):=by
 subst e;simp [ints,h]
structure KeyOk (P : Program) (kt : TypeId) {κ : Type} [DecidableEq κ] (kv : κ->Value) : Prop where
 kind : ∃ fs,P.underlying kt = some (.struct fs)
 check : ∀ k b w,(Instr.checkKey b 10000 kt (kv k)).run P w = .ok () w
 eq : ∀ k k' w,(Op.equal kt (kv k) (kv k')).run P w = .ok (decide (k = k')) w

variable {P : Program} {κ : Type} [DecidableEq κ] {kv : κ->Value}

def findK (k : κ) : List (κ×Value)->Option Value
 | []=>none
 | p::l=>if k = p.1 then some p.2 else findK k l
abbrev kvs (kv : κ->Value) (l : List (κ×Value)) : List (Value×Value):=l.map fun p=>(kv p.1,p.2)

theorem run_findAsking {kt : TypeId} (hK : KeyOk P kt kv) (k : κ) : ∀ (l : List (κ×Value)) (es : List MapEntry) (i : Nat) (w : World),es.map (fun e=>(e.key,e.val)) = kvs kv l ->
  ∃ r : Option (Nat×Value),(Instr.findAsking kt (kv k) es i).run P w = .ok r w/\r.map (·.2) = findK k l
 | [],[],i,w,_=>⟨none,by simp [Instr.findAsking],rfl⟩
 | p::l,e::es,i,w,h=>by
  simp only [kvs,List.map_cons,List.cons.injEq,Prod.mk.injEq] at h
  obtain ⟨⟨h0,h00⟩,ht⟩:=h
  have h1:=hK.eq k p.1 w
  by_cases he : k = p.1
  ·refine ⟨some (i,e.val),?_,by simp [findK,he,h00]⟩
   rw [decide_eq_true he] at h1
   simp only [Instr.findAsking,h0]
   simp [h1]
  ·obtain ⟨r,h2,h3⟩:=run_findAsking hK k l es (i+1) w ht
   rw [decide_eq_false he] at h1
   refine ⟨r,?_,by simp only [findK];rw [if_neg he];exact h3⟩
   simp only [Instr.findAsking,h0]
   simp [h1,h2]
 | [],_::_,_,_,h=>by simp [kvs] at h
 | _::_,[],_,_,h=>by simp [kvs] at h
theorem run_findKey {kt : TypeId} (hK : KeyOk P kt kv) (k : κ) (l : List (κ×Value)) (es : List MapEntry) (w : World) (h : es.map (fun e=>(e.key,e.val)) = kvs kv l) :
  ∃ r : Option (Nat×Value),(Instr.findKey kt (kv k) es).run P w = .ok r w/\r.map (·.2) = findK k l:=by
 obtain ⟨fs,hfs⟩:=hK.kind
 obtain ⟨r,h1,h2⟩:=run_findAsking hK k l es 0 w h
 cases es with
 | nil =>
  refine ⟨none,by simp [Instr.findKey,run_underlying hfs,Instr.findNow],?_⟩
  cases l with
  | nil=>rfl
  | cons p l=>simp [kvs] at h
 | cons e es =>
  refine ⟨r,?_,h2⟩
  simp [Instr.findKey,run_underlying hfs,Instr.findNow,Instr.sameNow,h1]

def mapB (P : Program) (t k e : Nat) : Bool:=match P.underlying t with
 | some (.map k' e')=>Nat.beq k k' && Nat.beq e e'
 | _=>false
theorem mapB_spec {t k e : Nat} (h : mapB P t k e = true) : P.underlying t = some (.map k e):=by
 unfold mapB at h
 cases hu : P.underlying t with
 | none=>simp [hu] at h
 | some d =>
  rw [hu] at h
  cases d <;> simp at h
  obtain ⟨h1,h2⟩:=h
  rw [h1,h2]

section
variable {w0 : World} {L : Lm} {M : Mem} {Γ : List As} {d : Option Nat} {ty : TypeId} {pos : String} {af : Array Edge} {g : Option (Nat×Bool)}
theorem run_lookup {w : World} {t kt e b : Nat} {l : List (κ×Value)} {k : κ} {z : Value} (hK : KeyOk P kt kv) (ht : mapB P t kt e = true) (hz : zeroB P e = some z) (hw : St w0 M Γ w) (hm : As.mp b (kvs kv l)∈Γ) (cm : Bool) :
  (Instr.lookup t (.map (some b)) (kv k) cm).run P w = .ok (if cm then .tuple #[(findK k l).getD z,.bool (findK k l).isSome] else (findK k l).getD z) w:=by
 obtain ⟨hM,es,clock,hb,hes⟩:=hw.all _ hm
 obtain ⟨r,h1,h2⟩:=run_findKey hK k l es.toList w hes
 have h3:=fun b=>hK.check k b w
 have h4 : (getObj b).run P w = .ok (.map es clock) w:=MapKept.run_getObj_map hb
 rw [<-h2]
 cases r with
 | none=>cases cm <;> simp [Instr.lookup,run_underlying (mapB_spec ht),h4,h3,h1,run_zeroB hz]
 | some r=>cases cm <;> simp [Instr.lookup,run_underlying (mapB_spec ht),h4,h3,h1]
theorem Y.lookup {x y : Operand} {t kt e b : Nat} {l : List (κ×Value)} {k : κ} {z : Value} (hx : evL L x = some (.map (some b))) (hy : evL L y = some (kv k)) (hK : KeyOk P kt kv) (ht : mapB P t kt e = true) (hz : zeroB P e = some z) (hm : As.mp b (kvs kv l)∈Γ) :
  Yq P w0 L M Γ ⟨d,.lookup t x y false,ty,pos,af,g⟩ ((findK k l).getD z):=fun n a w ha hw=>by
 have:=run_lookup (k:=k) hK ht hz hw hm false
 simp only [Bool.false_eq_true,if_false] at this
 simp [execOp,ha.ev hx,ha.ev hy,this]
theorem Y.lookup2 {x y : Operand} {t kt e b : Nat} {l : List (κ×Value)} {k : κ} {z : Value} (hx : evL L x = some (.map (some b))) (hy : evL L y = some (kv k)) (hK : KeyOk P kt kv) (ht : mapB P t kt e = true) (hz : zeroB P e = some z) (hm : As.mp b (kvs kv l)∈Γ) :
  Yq P w0 L M Γ ⟨d,.lookup t x y true,ty,pos,af,g⟩ (.tuple [(findK k l).getD z,.bool (findK k l).isSome].toArray):=fun n a w ha hw=>by
 have:=run_lookup (k:=k) hK ht hz hw hm true
 simp only [if_true] at this
 simp [execOp,ha.ev hx,ha.ev hy,this]
theorem Y.makeFunc {f : FuncId} {first cap : List Operand} {vs us : List Value} (h1 : evs L first = some vs) (h2 : evs L cap = some us) :
  Yq P w0 L M Γ ⟨d,.makeFunc (.func f) first.toArray cap.toArray,ty,pos,af,g⟩ (.func (.func f) vs.toArray us.toArray):=fun n a w ha _=>by
 have e1 : first.toArray.map a.eval = vs.toArray:=by rw [List.map_toArray,ha.evs h1]
 have e2 : cap.toArray.map a.eval = us.toArray:=by rw [List.map_toArray,ha.evs h2]
 simp [execOp,Instr.makeFunc,e1,e2]
end

section
variable {n : Nat} {w0 : World} {ops : Array Oper} {rest : List Oper} {L : Lm} {M : Mem} {Γ : List As} {K : Lm->Mem->List As->Prop} {ty : TypeId} {pos : String} {af : Array Edge} {d : Nat}
theorem St.newMap {w : World} (h : St w0 M Γ w) : St w0 M (.mp w.heap.size []::Γ) { w with heap:=w.heap.push (.map #[] 0) }:=by
 have hold : ∀ b,b < w.heap.size->(w.heap.push (.map #[] 0))[b]? = w.heap[b]?:=fun b hb=>by
  rw [Array.getElem?_push,if_neg Q0]
 refine ⟨h.os,h.tape,h.output,by simp;have:=h.size;omega,fun b o hb=>?_,fun x hx=>?_,?_⟩
 ·rw [hold b (h.lt hb)];exact h.mem b o hb
 ·rcases List.mem_cons.1 hx with rfl | hx
  ·exact ⟨h.fresh,#[],0,Q2,rfl⟩
  ·exact As.ok_keep (h.all x hx) (Sub.refl M) fun b hb=>⟨hold b (As.ok_blk_lt (h.all x hx) hb).1,(As.ok_blk_lt (h.all x hx) hb).2⟩
 ·simp only [List.filterMap_cons,As.blk]
  refine List.nodup_cons.2 ⟨fun hm=>?_,h.nodup⟩
  obtain ⟨x,hx,hb⟩:=List.mem_filterMap.1 hm
  have:=(As.ok_blk_lt (h.all x hx) hb).1
  omega
end
section
variable {n : Nat} {w0 : World} {ops : Array Oper} {rest : List Oper} {L : Lm} {M : Mem} {Γ : List As} {K : Lm->Mem->List As->Prop} {ty : TypeId} {pos : String} {af : Array Edge} {d : Nat}
end
theorem Turn.front {w0 : World} {M : Mem} {Γ R : List As} {x : As} {F : Mem->List As->Prop} (hp : Pick x Γ R) (h : Turn w0 M (x::R) F) : Turn w0 M Γ F:=fun w hw=>h w (hw.perm hp.perm)
def arrB (P : Program) (t n e sz : Nat) : Bool:=(match P.underlying t with
 | some (.array n' e')=>Nat.beq n n' && Nat.beq e e'
 | _=>false) && sizeB P e sz && Nat.blt 1 n
theorem arrB_spec {t n e sz : Nat} (h : arrB P t n e sz = true) : P.underlying t = some (.array n e)/\sizeB P e sz = true/\1 < n:=by
 unfold arrB at h
 simp only [Bool.and_eq_true] at h
 obtain ⟨⟨h1,h2⟩,h3⟩:=h
 refine ⟨?_,h2,by simpa [Nat.blt_eq] using h3⟩
 cases hu : P.underlying t with
 | none=>simp [hu] at h1
 | some d =>
  rw [hu] at h1
  cases d <;> simp at h1
  obtain ⟨h4,h5⟩:=h1
  rw [h4,h5]
theorem Y.indexArr {w0 : World} {L : Lm} {M : Mem} {Γ : List As} {d : Option Nat} {ty : TypeId} {pos : String} {af : Array Edge} {g : Option (Nat×Bool)} {x i : Operand} {t e sz n : Nat} {a : Option Addr} {q : Nat} {ik : IntKind} {z : Int} (k : Nat) (hx : evL L x = some (.pointer (some (adr a q)))) (hi : evL L i = some (.int ik z)) (hz : z = (k : Int)) (hk : k < n)
  (ht : arrB P t n e sz = true) : Yq P w0 L M Γ ⟨d,.indexAddr t x i,ty,pos,af,g⟩ (.pointer (some (adr a (q+k * sz)))):=fun m ac w ha hw=>by
 subst hz
 obtain ⟨h1,h2,h3⟩:=arrB_spec ht
 simp [execOp,ha.ev hx,ha.ev hi,Instr.indexAt,asIntOf,run_underlying h1,run_sizeB h2,hk,adr_add,Instr.sureAddr]
theorem Y.eqlBB {w0 : World} {L : Lm} {M : Mem} {Γ : List As} {d : Option Nat} {ty : TypeId} {pos : String} {af : Array Edge} {g : Option (Nat×Bool)} {x y : Operand} {p q : Bool} {t : TypeId} (ht : P.underlying t = some .bool) (hx : evL L x = some (.bool p)) (hy : evL L y = some (.bool q)) :
  Yq P w0 L M Γ ⟨d,.binOp .eql t x y t,ty,pos,af,g⟩ (.bool (p == q)):=fun n a w ha _=>by
 simp only [execOp,ha.ev hx,ha.ev hy]
 have h : ∀ b c : Bool,(Op.equalIn 10000 t (.bool b) (.bool c)).run P w = .ok (b == c) w:=fun b c=>run_equalIn_bool w 9999 t b c ht
 cases p <;> cases q <;> simp [eqGuard,Go.binOp,Op.equal,Op.maxDepth,h]
theorem Y.neqD {w0 : World} {L : Lm} {M : Mem} {Γ : List As} {d : Option Nat} {ty : TypeId} {pos : String} {af : Array Edge} {g : Option (Nat×Bool)} {x y : Operand} {p q : Prop} [Decidable p] [Decidable q] {t : TypeId} (ht : P.underlying t = some .bool) (hx : evL L x = some (.bool (decide p))) (hy : evL L y = some (.bool (decide q))) :
  Yq P w0 L M Γ ⟨d,.binOp .neq t x y t,ty,pos,af,g⟩ (.bool (decide (¬ (p↔q)))):=fun n a w ha _=>by
 simp only [execOp,ha.ev hx,ha.ev hy]
 have h : ∀ b c : Bool,(Op.equalIn 10000 t (.bool b) (.bool c)).run P w = .ok (b == c) w:=fun b c=>run_equalIn_bool w 9999 t b c ht
 by_cases h1 : p <;> by_cases h2 : q <;> simp [h1,h2,eqGuard,Go.binOp,Op.equal,Op.maxDepth,h]
section
end
end Xe

namespace Xe
open Go

def InI (n : Int) : Prop:=-9223372036854775808<=n/\n<=9223372036854775807
abbrev Is (M : Mem) (Γ : List As) (v : Value) : Post:=fun u M' Γ'=>u = v/\M' = M/\Γ' = Γ
abbrev Gives (M : Mem) (Γ : List As) (R : Mem->Value->Prop) : Post:=fun u M' Γ'=>Sub M M'/\Γ' = Γ/\R M' u

abbrev vint (n : Int) : Value:=.int .i64 n
abbrev dint (n : Int) : D:=.v (.int .i64 n)

section
variable {α : Type} {enc : α->List D} {sz : Nat}
theorem flat_take (h : ∀ x,(enc x).length = sz) : ∀ (xs : List α) (k : Nat) (x : α),xs[k]? = some x->((xs.flatMap enc).drop (k * sz)).take sz = enc x
 | [],k,x,hk=>by simp at hk
 | y::ys,0,x,hk=>by
  simp only [List.getElem?_cons_zero,Option.some.injEq] at hk
  subst hk
  simp [List.flatMap_cons,List.take_append_of_le_length (Nat.le_of_eq (h y).symm),List.take_of_length_le (Nat.le_of_eq (h y))]
 | y::ys,k+1,x,hk=>by
  have hk' : ys[k]? = some x:=by simpa using hk
  rw [List.flatMap_cons,Nat.succ_mul,Nat.add_comm,<-List.drop_drop,List.drop_append_of_le_length (Nat.le_of_eq (h y).symm),List.drop_of_length_le (Nat.le_of_eq (h y)),List.nil_append]
  exact flat_take h ys k x hk'
end

def dints (l : List Int) : D:=.sl l.length 1 (l.map dint)
structure IdT where
 shop : Int
 seq : Int
 index : Int
 deriving DecidableEq,Repr,Inhabited
def IdT.vals (x : IdT) : List Value:=[vint x.shop,vint x.seq,vint x.index]
def IdT.enc (x : IdT) : List D:=[dint x.shop,dint x.seq,dint x.index]

inductive Ty where
 | mk (kind : Int) (df : IdT) (kids : List Ty)
 deriving Inhabited
def Ty.kind : Ty->Int | .mk k _ _=>k
def Ty.df : Ty->IdT | .mk _ d _=>d
def Ty.kids : Ty->List Ty | .mk _ _ l=>l
mutual
def Ty.enc : Ty->List D
 | .mk k d l=>[dint k,dint d.shop,dint d.seq,dint d.index,.sl l.length 5 (Ty.encs l)]
def Ty.encs : List Ty->List D
 | []=>[]
 | t::ts=>t.enc++Ty.encs ts
end
theorem Ty.encs_eq : ∀ l : List Ty,Ty.encs l = l.flatMap Ty.enc
 | []=>by simp [Ty.encs]
 | t::ts=>by rw [Ty.encs,Ty.encs_eq ts,List.flatMap_cons]
theorem Ty.enc_eq (t : Ty) : t.enc = [dint t.kind,dint t.df.shop,dint t.df.seq,dint t.df.index,.sl t.kids.length 5 (t.kids.flatMap Ty.enc)]:=by
 cases t;rw [Ty.enc,Ty.encs_eq];rfl
theorem Ty.enc_len (t : Ty) : t.enc.length = 5:=by rw [Ty.enc_eq];rfl
mutual
def Ty.size : Ty->Nat
 | .mk _ _ l=>1+Ty.sizes l
def Ty.sizes : List Ty->Nat
 | []=>0
 | t::ts=>t.size+Ty.sizes ts
end
mutual
def Ty.beq : Ty->Ty->Bool
 | .mk a b l,.mk c d m=>decide (a = c) && decide (b = d) && Ty.beqs l m
def Ty.beqs : List Ty->List Ty->Bool
 | [],[]=>true
 | x::xs,y::ys=>x.beq y && Ty.beqs xs ys
 | [],_::_=>false
 | _::_,[]=>false
end
mutual
theorem Ty.beq_iff : ∀ a b : Ty,a.beq b = true↔a = b
 | .mk a b l,.mk c d m=>by
  simp only [Ty.beq,Bool.and_eq_true,decide_eq_true_eq,Ty.mk.injEq,Ty.beqs_iff l m,and_assoc]
theorem Ty.beqs_iff : ∀ a b : List Ty,Ty.beqs a b = true↔a = b
 | [],[]=>by simp [Ty.beqs]
 | x::xs,y::ys=>by simp only [Ty.beqs,Bool.and_eq_true,List.cons.injEq,Ty.beq_iff x y,Ty.beqs_iff xs ys]
 | [],_::_=>by simp [Ty.beqs]
 | _::_,[]=>by simp [Ty.beqs]
end
instance : DecidableEq Ty:=fun a b=>decidable_of_iff (a.beq b = true) (Ty.beq_iff a b)
inductive Ex where
 | mk (id : IdT) (kind n : Int) (ref : IdT) (ty : Ty) (kids : List Ex) (names : List ByteArray)
 deriving Inhabited
def Ex.id : Ex->IdT | .mk i _ _ _ _ _ _=>i
def Ex.kind : Ex->Int | .mk _ k _ _ _ _ _=>k
def Ex.n : Ex->Int | .mk _ _ n _ _ _ _=>n
def Ex.ref : Ex->IdT | .mk _ _ _ r _ _ _=>r
def Ex.ty : Ex->Ty | .mk _ _ _ _ t _ _=>t
def Ex.kids : Ex->List Ex | .mk _ _ _ _ _ l _=>l
def Ex.names : Ex->List ByteArray | .mk _ _ _ _ _ _ s=>s
def dstr (s : ByteArray) : D:=.v (.string s)
def dstrs (l : List ByteArray) : D:=.sl l.length 1 (l.map dstr)
mutual
def Ex.enc : Ex->List D
 | .mk i k n r t l s=>[dint i.shop,dint i.seq,dint i.index,dint k,dint n,dint r.shop,dint r.seq,dint r.index,dint t.kind,dint t.df.shop,dint t.df.seq,dint t.df.index,.sl t.kids.length 5 (t.kids.flatMap Ty.enc),.sl l.length 15 (Ex.encs l),dstrs s]
def Ex.encs : List Ex->List D
 | []=>[]
 | t::ts=>t.enc++Ex.encs ts
end
theorem Ex.encs_eq : ∀ l : List Ex,Ex.encs l = l.flatMap Ex.enc
 | []=>by simp [Ex.encs]
 | t::ts=>by rw [Ex.encs,Ex.encs_eq ts,List.flatMap_cons]
theorem Ex.enc_eq (e : Ex) : e.enc = [dint e.id.shop,dint e.id.seq,dint e.id.index,dint e.kind,dint e.n,dint e.ref.shop,dint e.ref.seq,dint e.ref.index,dint e.ty.kind,dint e.ty.df.shop,dint e.ty.df.seq,dint e.ty.df.index,
  .sl e.ty.kids.length 5 (e.ty.kids.flatMap Ty.enc),.sl e.kids.length 15 (e.kids.flatMap Ex.enc),.sl e.names.length 1 (e.names.map dstr)]:=by
 cases e;rw [Ex.enc,Ex.encs_eq];rfl
mutual
def Ex.size : Ex->Nat
 | .mk _ _ _ _ _ l _=>1+Ex.sizes l
def Ex.sizes : List Ex->Nat
 | []=>0
 | t::ts=>t.size+Ex.sizes ts
end
def Ex.like (a b : Ex) : Prop:=a.kind = b.kind/\a.n = b.n/\a.ref = b.ref/\a.ty = b.ty
instance (a b : Ex) : Decidable (a.like b):=by unfold Ex.like;exact inferInstance
def around (n m : Int) : Int:=(if n < 0 then -(n+1) else n) % m
theorem around_eq (n m : Int) (_hm : 1<=m) : around n m = (if n < 0 then -(n+1) else n).tmod m:=by
 unfold around
 rw [Int.tmod_eq_emod_of_nonneg]
 split <;> omega
theorem around_lt (n m : Int) (hm : 1<=m) : 0<=around n m/\around n m < m:=by
 unfold around
 exact ⟨Int.emod_nonneg _ Q0,Int.emod_lt_of_pos _ Q0⟩
def atL (l : List Int) (i most : Int) : Int:=if i < 0\/(l.length : Int)<=i then 0 else around (l.getD i.toNat 0) most
structure MNode where
 e : Ex
 first : Nat
 deriving Inhabited
def MNode.enc (x : MNode) : List D:=x.e.enc++[dint x.first]
structure RNode where
 e : Ex
 first : Nat
 level : Nat
 deriving Inhabited
def RNode.enc (x : RNode) : List D:=x.e.enc++[dint x.first,dint x.level]
def MNode.encs (l : List MNode) : D:=.sl l.length 16 (l.flatMap MNode.enc)
def RNode.encs (l : List RNode) : D:=.sl l.length 17 (l.flatMap RNode.enc)

structure PairD where
 frm : IdT
 to : IdT
 deriving DecidableEq,Inhabited,Repr
def PairD.enc (p : PairD) : List D:=[dint p.frm.shop,dint p.frm.seq,dint p.frm.index,dint p.to.shop,dint p.to.seq,dint p.to.index]
def PairD.vals (p : PairD) : List Value:=[vint p.frm.shop,vint p.frm.seq,vint p.frm.index,vint p.to.shop,vint p.to.seq,vint p.to.index]
def PairD.encs (l : List PairD) : D:=.sl l.length 6 (l.flatMap PairD.enc)
def RNode.vals (us : List Value) (first level : Nat) : List Value:=us++[vint first,vint level]
theorem Rd.nilS {M : Mem} {sz : Nat} : Rd M (.sl 0 sz []) (.slice none 0 0):=by
 simp only [Rd]
 exact ⟨none,0,rfl,Nat.le_refl _,Nat.zero_le _,Nat.zero_le _,Q2,Q2,by simp [RdC]⟩
def evenT (a : List (List Int)) : Prop:=a ≠ []/\∀ r∈a,r.length = (a.headD []).length/\r.length ≠ 0
instance (a : List (List Int)) : Decidable (evenT a):=by unfold evenT;exact inferInstance
def id0 : IdT:=⟨0,0,0⟩
def ty0 : Ty:=.mk 0 id0 []
theorem Rd.i {M : Mem} (n : Int) : Rd M (dint n) (vint n):=by
 simp [Rd,Value.oneCell']
theorem atL_lt (l : List Int) (i m : Int) (hm : 1<=m) : 0<=atL l i m/\atL l i m < m:=by
 unfold atL
 split
 ·omega
 ·exact around_lt _ _ hm
abbrev rows (l : List (Nat×List Int)) : List (List Int):=l.map (·.2)

section
variable {P : Program} {n : Nat} {w0 : World} {X : Pst} {L : Lm} {M : Mem} {Γ : List As} {c : Code}
end
section
variable {P : Program} {n : Nat} {w0 : World} {ops : Array Oper} {Mc : Mem} {Γc : List As} {fuel : Nat} {listed : Array Bool} {L : Lm} {M : Mem} {Γ : List As} {K : Lm->Mem->List As->Prop}
end
theorem fill3 {sz : Nat} {v v' v'' : Value} {out out' out'' : List Value} (h : cellsL v = out) (hl : out.length = sz) (h' : cellsL v' = out') (hl' : out'.length = sz) (h'' : cellsL v'' = out'') (hl'' : out''.length = sz) : ∀ zs : List Value,zs.length = 3 * sz->fillL (fun i=>some (i * sz,sz)) zs ([(0,v),(1,v'),(2,v'')].map fun p=>(p.1,cellsL p.2)) = some (out++out'++out''):=fun zs hz=>by
 have h1 : (splice zs 0 out).length = 3 * sz:=by rw [splice_length Q0,hz]
 have h2 : (splice (splice zs 0 out) sz out').length = 3 * sz:=by rw [splice_length Q0,h1]
 simp only [List.map_cons,List.map_nil,h,h',h'',fillL,hl,hl',hl'',hz,Nat.zero_mul,Nat.zero_add,Nat.one_mul]
 rw [if_pos ⟨trivial,Q0⟩,h1,if_pos ⟨trivial,Q0⟩,h2,if_pos ⟨trivial,Q0⟩]
 congr 1
 have e0 : splice zs 0 out = out++zs.drop sz:=by simp [splice,hl]
 have e1 : splice (out++zs.drop sz) sz out' = out++out'++zs.drop (sz+sz):=by
  simp only [splice,hl']
  rw [List.take_append_of_le_length Q0,List.take_of_length_le Q0,List.drop_append,List.drop_of_length_le Q0,hl,List.drop_drop]
  simp only [List.nil_append]
  congr 2
  omega
 rw [e0,e1]
 simp only [splice,hl'']
 have el : (out++out').length = 2 * sz:=by simp [hl,hl'];omega
 rw [List.take_append_of_le_length Q0,List.take_of_length_le Q0,List.drop_of_length_le (by simp [hl,hl',hz];omega)]
 simp
open Go Go.ChangeShapes Go.WideShapes Go.RowKit
abbrev memOf (W : World) : Mem:=fun b=>W.heap[b]?
theorem st_start (W : World) : St W (memOf W) [] W:=⟨rfl,rfl,rfl,Nat.le_refl _,fun _ _ h=>h,fun _ h=>by simp at h,Q2⟩
theorem below_of {W w' : World} (h : St W (memOf W) [] w') : Below W.heap.size W w' :=
 ⟨h.os,h.tape,h.output,h.size,fun k hk=>by
  have e : memOf W k = some W.heap[k]:=Array.getElem?_eq_getElem hk
  rw [h.mem k _ e];exact e.symm⟩
theorem cellM_memOf (W : World) (p : Addr) : cellM (memOf W) p = W.cell? p:=by
 unfold cellM World.cell? memOf
 cases W.heap[p.block]? with
 | none=>rfl
 | some o=>cases o <;> rfl

section
variable {H : Type} {enc : TypeId×Value->H} {P : Program} {W : World}

theorem inI_of {n : Int} (h : (Lit.int .i64 n).wf = true) : InI n:=by
 simp only [Lit.wf,Bool.and_eq_true,decide_eq_true_eq] at h
 unfold InI
 have h1 : IntKind.i64.min = -9223372036854775808:=Q1
 have h2 : IntKind.i64.max = 9223372036854775807:=Q1
 omega

theorem post_below {f : Func} {s : ChangeSpec} {apart fresh handsOn again : Bool} {W' : World} {args : Array Value} {v : Value} {ds gs : List (DataW H)} {before pa pv : List MemPlace}
  (hW : DataW.Whole enc P f.params.toList s.vars apart W args.toList ds gs before)
  (hres : ∀ (b : Nat) (sp : Nat->Bool) (hd : Bool),DataW.TrodAll enc P W' b sp hd f.resultTypes.toList (v.resultList f.resultTypes.size) (s.fn H (ds++gs)).results [])
  (hargs : ∀ sp : Nat->Bool,(∀ p∈before,sp p.block = true)->DataW.TrodAll enc P W' 0 sp true f.params.toList args.toList (s.fn H (ds++gs)).args pa)
  (hvars : ∀ sp : Nat->Bool,(∀ p∈before,sp p.block = true)->DataW.TrodVars enc P W' sp s.vars (s.fn H (ds++gs)).vars pv)
  (hps : before = pa++pv) (hb : Below W.heap.size W W')
  (hok : ∀ (j : Nat) (t : TypeId) (r : Value),f.resultTypes[j]? = some t->(v.resultList f.resultTypes.size)[j]? = some r->Value.okWide P W' .any 0 t r) :
  s.post enc P f apart fresh handsOn again W args v W':=by
 have hlt : ∀ p∈before,p.block < W.heap.size:=fun p hp=>hW.lt p hp
 have hold : ∀ p∈before,(fun b=>decide (b < W.heap.size)) p.block = true:=fun p hp=>by simpa using hlt p hp
 refine ⟨ds,gs,before,[],pa,pv,hW,hres _ _ _,hargs _ hold,hvars _ hold,World.keptBut_mono (fun p hp=>⟨hp,?_⟩) (hb.frame (·∈before)),fun _=>?_⟩
 ·rw [hps,List.mem_append] at hp
  exact Or.inr hp
 ·obtain ⟨_,_,_,_,_,hz,hn⟩:=hW
  refine ⟨hok,_,_,([]++pa)++pv,⟨[]++pa,pv,trodAll_append (hargs _ (fun _ _=>rfl)) (hres _ _ _),hvars _ (fun _ _=>rfl),rfl,?_,?_⟩,?_⟩
  ·intro b off hp
   have hin : MemPlace.cell b off∈before:=by rw [hps];simpa using hp
   rw [hb.frozen (hlt _ hin)]
   exact hz b off hin
  ·intro ha
   have:=hn ha
   rw [hps] at this
   simpa using this
  ·intro p hp _
   rw [hps]
   simpa using hp
end

section
variable {w0 w : World} {M : Mem} {Γ : List As}
theorem St.accTake {a : Option Addr} {n c e sz k : Nat} {us : List Value} (hw : St w0 M (.acc (.slice a n c) e sz n us::Γ) w) (hk : k<=n) : St w0 M (.acc (.slice a k c) e sz k (us.take (k * sz))::Γ) w:=by
 have hx:=hw.all _ (List.mem_cons_self ..)
 have hob : (Value.slice a k c).ownBlock = (Value.slice a n c).ownBlock:=by cases a <;> rfl
 refine ⟨hw.os,hw.tape,hw.output,hw.size,hw.mem,fun y hy0=>?_,by have:=hw.nodup;simp only [List.filterMap_cons,As.blk] at this ⊢;rw [hob];exact this⟩
 rcases List.mem_cons.1 hy0 with rfl | hy
 ·obtain ⟨⟨hl,hh⟩,hM⟩:=hx
  refine ⟨⟨?_,?_⟩,fun b hb=>hM b (by rw [<-hob];exact hb)⟩
  ·rw [List.length_take,hl]
   exact Nat.min_eq_left (Nat.mul_le_mul_right _ hk)
  ·rcases hh with ⟨e1,e2⟩ | ⟨b,cap,cur,e1,g,hb,hnc,hcm,hcs,htk⟩
   ·simp only [Value.slice.injEq] at e1
    obtain ⟨rfl,rfl,rfl⟩:=e1
    obtain rfl : k = 0:=Q0
    exact .inl ⟨rfl,rfl⟩
   ·simp only [Value.slice.injEq] at e1
    obtain ⟨rfl,_,rfl⟩:=e1
    refine .inr ⟨b,c,cur,rfl,g,hb,Q0,hcm,hcs,?_⟩
    rw [<-htk,List.take_take,Nat.min_eq_left (Nat.mul_le_mul_right _ hk)]
 ·exact hw.all y (List.mem_cons_of_mem _ hy)
theorem cut0 (a : Option Addr) (h m sz : Nat) : cutV a 0 h m sz = .slice a h m:=by
 unfold cutV
 rw [Nat.zero_mul,Nat.sub_zero,Nat.sub_zero]
 cases a with
 | none=>split <;> rfl
 | some x=>split <;> simp [Addr.add]
theorem St.setAcc {a : Option Addr} {n c e sz q : Nat} {us : List Value} {v : Value} (hw : St w0 M (.acc (.slice a n c) e sz n us::Γ) w) (hq : q < us.length) :
  St w0 M (.acc (.slice a n c) e sz n (us.set q v)::Γ) (w.setCell (adr a q) v)/\(w.cell? (adr a q)).isSome = true/\w.frozen? (adr a q) = false:=by
 have hx:=hw.all _ (List.mem_cons_self ..)
 obtain ⟨⟨hl,hh⟩,hM⟩:=hx
 rcases hh with ⟨e1,e2⟩ | ⟨b,cap,cur,e1,g,hb,hnc,hcm,hcs,htk⟩
 ·simp only [Value.slice.injEq] at e1
  obtain ⟨rfl,rfl,rfl⟩:=e1
  simp at hl;subst hl;simp at hq
 ·simp only [Value.slice.injEq] at e1
  obtain ⟨rfl,_,rfl⟩:=e1
  have hlt : b < w.heap.size:=(Array.getElem?_eq_some_iff.1 hb).1
  have hbe : w.heap[b] = .cells cur e (0,0):=(Array.getElem?_eq_some_iff.1 hb).2
  have hqc : q < cur.size:=by
   have : n * sz<=c * sz:=Nat.mul_le_mul_right _ hnc
   omega
  have hset : w.setCell (adr (some ⟨b,0,none⟩) q) v = { w with heap:=w.heap.setIfInBounds b (.cells (cur.setIfInBounds q v) e (0,0)) }:=by
   rw [adr_some]
   simp only [World.setCell]
   congr 1
   apply Array.ext
   ·simp
   ·intro i h1 h2
    by_cases hi : b = i
    ·subst hi
     simp [Array.getElem_modify,hbe]
    ·rw [Array.getElem_modify,if_neg hi,Array.getElem_setIfInBounds_ne (by simpa using h1) hi]
  refine ⟨?_,by rw [adr_some];simp [World.cell?,hb,hqc],by rw [adr_some];simp [World.frozen?,hb]⟩
  rw [hset]
  have hne : ∀ k,k ≠ b->(w.heap.setIfInBounds b (.cells (cur.setIfInBounds q v) e (0,0)))[k]? = w.heap[k]?:=fun k hk=>Array.getElem?_setIfInBounds_ne Q0
  have hnd:=hw.nodup
  simp only [List.filterMap_cons,As.blk,Value.ownBlock] at hnd
  refine ⟨hw.os,hw.tape,hw.output,by simp;exact hw.size,fun k o hk=>?_,fun y hy0=>?_,by simpa [List.filterMap_cons,As.blk,Value.ownBlock] using hw.nodup⟩
  ·rw [hne k (fun e'=>by subst e';rw [hM _ rfl] at hk;cases hk)];exact hw.mem k o hk
  ·rcases List.mem_cons.1 hy0 with rfl | hy
   ·refine ⟨⟨by simpa using hl,.inr ⟨b,c,cur.setIfInBounds q v,rfl,g,by simp [hlt],hnc,hcm,by simpa using hcs,?_⟩⟩,hM⟩
    rw [Array.toList_setIfInBounds,List.take_set,htk]
   ·have hy':=hw.all y (List.mem_cons_of_mem _ hy)
    refine As.ok_keep hy' (Sub.refl M) fun k hk=>⟨hne k fun e'=>?_,(As.ok_blk_lt hy' hk).2⟩
    subst e'
    exact (List.nodup_cons.1 hnd).1 (mem_blk hy hk)
end

section
variable {P : Program} {n : Nat} {w0 : World} {ops : Array Oper} {rest : List Oper} {L : Lm} {M : Mem} {Γ : List As} {K : Lm->Mem->List As->Prop} {ty : TypeId} {pos : String} {af : Array Edge} {d : Nat}
theorem RL.accTake {a : Option Addr} {m c e sz k : Nat} {us : List Value} (hk : k<=m) (h : RL P n w0 ops rest L M (.acc (.slice a k c) e sz k (us.take (k * sz))::Γ) K) : RL P n w0 ops rest L M (.acc (.slice a m c) e sz m us::Γ) K :=
 h.pre (fun _ _ h=>h) fun _ hw=>hw.accTake hk
end

theorem Y.slice0 {P : Program} {w0 : World} {L : Lm} {M : Mem} {Γ : List As} {d : Option Nat} {ty : TypeId} {pos : String} {af : Array Edge} {g : Option (Nat×Bool)} {x : Operand} {hi mx : Option Operand} {t e sz : Nat} {a : Option Addr} {n c : Nat} (h m : Nat)
  (hx : evL L x = some (.slice a n c)) (hhi : OptIs L hi n h) (hmx : OptIs L mx c m) (hb : hi.isSome = true\/mx.isSome = false) (h2 : h<=m) (h3 : m<=c) (ht : sliceB P t e sz = true) :
  Yq P w0 L M Γ ⟨d,.slice t x none hi mx,ty,pos,af,g⟩ (.slice a h m):=by
 have:=Y.slice (P:=P) (w0:=w0) (M:=M) (Γ:=Γ) (d:=d) (ty:=ty) (pos:=pos) (af:=af) (g:=g) (lo:=none) 0 h m hx rfl hhi hmx hb (Nat.zero_le _) h2 h3 ht
 rwa [cut0] at this
abbrev PPost:=List PanicEntry->Mem->List As->Prop
def EndP (w0 : World) (R : Post) (G : PPost) (e : Ending) (w' : World) : Prop :=
 (∃ v M Γ,e = .returned v/\R v M Γ/\St w0 M Γ w')\/(∃ ch M Γ,e = .panicked ch/\G ch M Γ/\St w0 M Γ w')
def CallP (P : Program) (w0 : World) (M : Mem) (Γ : List As) (f : FuncId) (args : Array Value) (R : Post) (G : PPost) : Prop :=
 ∀ w,St w0 M Γ w->Calls P f args w (EndP w0 R G)
section
variable {P : Program} {n : Nat} {w0 : World} {ops : Array Oper} {rest : List Oper} {L : Lm} {M : Mem} {Γ : List As} {X : Pst}
variable {ty : TypeId} {pos : String} {af : Array Edge} {d : Nat}
end
abbrev DPst:=List Deferred->Pst
section
variable {P : Program} {n : Nat} {w0 : World} {X : DPst} {D : List Deferred} {L : Lm} {M : Mem} {Γ : List As} {ops : Array Oper} {rest : List Oper}
end
def WT (P : Program) : Nat->TypeId->List D->Prop
 | 0,_,_=>False
 | n+1,t,ds=>match P.underlying t with
  | some .bool=>∃ b,ds = [.v (.bool b)]
  | some (.int k)=>∃ z,ds = [.v (.int k z)]/\(Lit.int k z).wf = true
  | some .string=>∃ s : ByteArray,ds = [.v (.string s)]/\s.size<=lim
  | some (.slice e)=>∃ els : List (List D),ds = [.sl els.length (P.cellsOf e) els.flatten]/\els.length<=lim/\∀ x∈els,WT P n e x
  | some (.struct fs)=>ds.length = P.cellsOf t/\∀ f∈fs.toList,WT P n f.type ((ds.drop f.offset).take (P.cellsOf f.type))
  | some (.array m e)=>ds.length = P.cellsOf t/\∀ i,i < m->WT P n e ((ds.drop (i * P.cellsOf e)).take (P.cellsOf e))
  | _=>False

mutual
def bulkD : D->Nat
 | .v _=>1
 | .sl _ _ cs=>1+bulkDs cs
def bulkDs : List D->Nat
 | []=>0
 | d::ds=>bulkD d+bulkDs ds
end
theorem bulkDs_append : ∀ (a b : List D),bulkDs (a++b) = bulkDs a+bulkDs b
 | [],b=>by simp [bulkDs]
 | x::xs,b=>by have:=bulkDs_append xs b;simp only [List.cons_append,bulkDs];omega
structure BulkOk {H : Type} (bulk : DataW H->Nat) : Prop where
 lit : ∀ l,1<=bulk (.lit l)
 nil : 1<=bulk .nil
 slice : ∀ els sp,(els.map bulk).sum+1<=bulk (.slice els sp)
 agg : ∀ ps,(ps.map bulk).sum<=bulk (.agg ps)
def contigB (P : Program) : Nat->List Field->Nat->Bool
 | off,[],tot=>Nat.beq off tot
 | off,f::fs,tot=>Nat.beq f.offset off && contigB P (off+P.cellsOf f.type) fs tot
theorem contig_le {P : Program} : ∀ {fs : List Field} {off tot : Nat},contigB P off fs tot = true->off<=tot/\∀ f∈fs,off<=f.offset
 | [],off,tot,h=>⟨Nat.le_of_eq (Nat.eq_of_beq_eq_true h),fun f hf=>by simp at hf⟩
 | g::fs,off,tot,h=>by
  simp only [contigB,Bool.and_eq_true] at h
  obtain ⟨h1,h2⟩:=contig_le h.2
  have h0:=Nat.eq_of_beq_eq_true h.1
  refine ⟨Q0,fun f hf=>?_⟩
  rcases List.mem_cons.1 hf with rfl | hf
  ·omega
  ·have:=h2 f hf;omega

def closedB (P : Program) (ts : List TypeId) : Bool:=ts.all fun t=>match P.underlying t with
 | some .bool=>true
 | some (.int _)=>true
 | some .string=>true
 | some (.slice e)=>ts.contains e && Nat.blt 0 (P.bytesOf e)
 | some (.struct fs)=>contigB P 0 fs.toList (P.cellsOf t) && fs.toList.all fun f=>ts.contains f.type
 | some (.array m e)=>Nat.beq (P.cellsOf t) (m * P.cellsOf e) && ts.contains e
 | _=>false

theorem RdL.cut {M : Mem} {ds : List D} {us : List Value} (h : RdL M ds us) (q n : Nat) : RdL M ((ds.drop q).take n) ((us.drop q).take n):=by
 refine ⟨by simp [h.1],fun k d u h1 h2=>?_⟩
 have hk : k < n:=by
  rcases Nat.lt_or_ge k n with h | h
  ·exact h
  ·rw [List.getElem?_eq_none Qc] at h1;cases h1
 rw [List.getElem?_take_of_lt hk,List.getElem?_drop] at h1 h2
 exact h.2 _ _ _ h1 h2

theorem weightsAll_mem {H : Type} {P : Program} {e : TypeId} {d : DataW H} : ∀ {l : List (DataW H)},d∈l->∀ n∈d.weights P e,n∈DataW.weightsAll P e l
 | x::xs,hd,n,hn=>by
  rw [DataW.weightsAll,List.mem_append]
  rcases List.mem_cons.1 hd with rfl | hd
  ·exact .inl hn
  ·exact .inr (weightsAll_mem hd n hn)

theorem glueF {M : Mem} {P : Program} (F : Field->List D->Prop) : ∀ (fs : List Field) (bs : List Nat) (off : Nat) (cs : List Value),contigB P off fs (off+cs.length) = true->bs.length = fs.length ->
  (∀ (i : Nat) (f : Field) (b : Nat),fs[i]? = some f->bs[i]? = some b->∃ ds,RdL M ds ((cs.drop (f.offset - off)).take (P.cellsOf f.type))/\F f ds/\bulkDs ds<=b)->∃ ds,RdL M ds cs/\(∀ f∈fs,F f ((ds.drop (f.offset - off)).take (P.cellsOf f.type)))/\bulkDs ds<=bs.sum:=by
 intro fs
 induction fs with
 | nil =>
  intro bs off cs h _ _
  have:=Nat.eq_of_beq_eq_true h
  have : cs = []:=List.eq_nil_of_length_eq_zero Q0
  subst this
  exact ⟨[],RdL.nil M,fun f hf=>by simp at hf,by simp [bulkDs]⟩
 | cons g fs ih =>
  intro bs off cs h hbl hf
  simp only [contigB,Bool.and_eq_true] at h
  have h0:=Nat.eq_of_beq_eq_true h.1
  have h1:=contig_le h.2
  obtain ⟨b0,bs,rfl⟩ : ∃ b0 bs',bs = b0::bs':=by
   cases bs with
   | nil=>simp at hbl
   | cons b0 bs'=>exact ⟨b0,bs',rfl⟩
  obtain ⟨d0,r0,f0,q0⟩:=hf 0 g b0 rfl rfl
  rw [h0,Nat.sub_self,List.drop_zero] at r0
  have hd0 : d0.length = P.cellsOf g.type:=by rw [<-r0.1,List.length_take];omega
  obtain ⟨ds,r1,f1,q1⟩:=ih bs (off+P.cellsOf g.type) (cs.drop (P.cellsOf g.type)) (by rw [List.length_drop,show off+P.cellsOf g.type+(cs.length - P.cellsOf g.type) = off+cs.length from by omega];exact h.2) (by simpa using hbl) fun i f b hfi hbi=>by
   obtain ⟨ds,r,ff,q⟩:=hf (i+1) f b (by simpa using hfi) (by simpa using hbi)
   have:=h1.2 f (List.mem_of_getElem? hfi)
   refine ⟨ds,?_,ff,q⟩
   rw [List.drop_drop]
   rwa [show P.cellsOf g.type+(f.offset - (off+P.cellsOf g.type)) = f.offset - off from by omega]
  refine ⟨d0++ds,?_,fun f hfm=>?_,by rw [bulkDs_append,List.sum_cons];omega⟩
  ·have:=r0.append r1
   rwa [List.take_append_drop] at this
  ·rcases List.mem_cons.1 hfm with rfl | hfm
   ·rw [h0,Nat.sub_self,List.drop_zero,<-hd0,List.take_left]
    exact f0
   ·have:=h1.2 f hfm
    have e:=f1 f hfm
    rw [List.drop_append,List.drop_of_length_le Q0,List.nil_append,hd0,show f.offset - off - P.cellsOf g.type = f.offset - (off+P.cellsOf g.type) from by omega]
    exact e

theorem flat_takeF : ∀ (l : List (List D)) (sz i : Nat) (hi : i < l.length),(∀ x∈l,x.length = sz)->((l.flatten.drop (i * sz)).take sz) = l[i]
 | x::xs,sz,0,_,h=>by
  have:=h x (List.mem_cons_self ..)
  simp [<-this]
 | x::xs,sz,i+1,hi,h=>by
  have h0:=h x (List.mem_cons_self ..)
  have e : (x++xs.flatten).drop sz = xs.flatten:=by rw [<-h0];exact List.drop_left
  rw [List.flatten_cons,Nat.succ_mul,Nat.add_comm,<-List.drop_drop,e,List.getElem_cons_succ]
  exact flat_takeF xs sz i (by simpa using hi) fun y hy=>h y (List.mem_cons_of_mem _ hy)

section
variable {H : Type} {enc : TypeId×Value->H} {P : Program} {W : World}

theorem glue {M : Mem} (sz : Nat) (F : List D->Prop) : ∀ (bs : List Nat) (cs : List Value),cs.length = bs.length * sz->(∀ (i : Nat) (b : Nat),bs[i]? = some b->∃ ds,RdL M ds ((cs.drop (i * sz)).take sz)/\F ds/\bulkDs ds<=b) ->
  ∃ els : List (List D),els.length = bs.length/\RdL M els.flatten cs/\(∀ x∈els,F x)/\(∀ x∈els,x.length = sz)/\bulkDs els.flatten<=bs.sum:=by
 intro bs
 induction bs with
 | nil =>
  intro cs hl _
  have : cs = []:=List.eq_nil_of_length_eq_zero (by simpa using hl)
  subst this
  exact ⟨[],rfl,RdL.nil M,fun x hx=>by simp at hx,fun x hx=>by simp at hx,by simp [bulkDs]⟩
 | cons b0 bs ih =>
  intro cs hl h
  have hls : sz<=cs.length:=by rw [hl,List.length_cons,Nat.succ_mul];omega
  obtain ⟨d0,r0,f0,q0⟩:=h 0 b0 rfl
  simp only [Nat.zero_mul,List.drop_zero] at r0
  obtain ⟨els,h1,h2,h3,h4,h5⟩:=ih (cs.drop sz) (by rw [List.length_drop,hl,List.length_cons,Nat.succ_mul];omega) fun i b hi=>by
   obtain ⟨ds,r,f,q⟩:=h (i+1) b (by simpa using hi)
   refine ⟨ds,?_,f,q⟩
   rw [List.drop_drop]
   rwa [show sz+i * sz = (i+1) * sz from by rw [Nat.succ_mul];omega]
  refine ⟨d0::els,by simp [h1],?_,fun x hx=>?_,fun x hx=>?_,by rw [List.flatten_cons,bulkDs_append,List.sum_cons];omega⟩
  ·have:=r0.append h2
   rwa [List.take_append_drop] at this
  ·rcases List.mem_cons.1 hx with rfl | hx
   ·exact f0
   ·exact h3 x hx
  ·rcases List.mem_cons.1 hx with rfl | hx
   ·rw [<-r0.1,List.length_take];omega
   ·exact h4 x hx

theorem flatten_len {sz : Nat} : ∀ {els : List (List D)},(∀ x∈els,x.length = sz)->els.flatten.length = els.length * sz
 | [],_=>by simp
 | x::xs,h=>by
  rw [List.flatten_cons,List.length_append,h x (List.mem_cons_self ..),flatten_len fun y hy=>h y (List.mem_cons_of_mem _ hy),List.length_cons,Nat.succ_mul,Nat.add_comm]

theorem open_cellsB {ts : List TypeId} {bulk : DataW H->Nat} (hbk : BulkOk bulk) (hcl : closedB P ts = true) : ∀ (n : Nat) (t : TypeId) (cs : List Value) (x : DataW H×List MemPlace),t∈ts ->
  DataW.trod enc P W 0 (fun _=>true) true n t cs = some x->(∀ k∈x.1.weights P t,k<=reachBytes)->∃ ds,RdL (memOf W) ds cs/\WT P n t ds/\bulkDs ds<=bulk x.1:=by
 intro n
 induction n with
 | zero=>intro t cs x _ h;simp [DataW.trod] at h
 | succ n ih =>
  intro t cs x ht h hw
  have hc:=List.all_eq_true.1 hcl t ht
  cases hu : P.underlying t with
  | none=>simp [hu] at hc
  | some u =>
   rw [hu] at hc
   cases u with
   | bool =>
    obtain ⟨b,rfl,rfl⟩:=DataW.trod_bool hu h
    exact ⟨[.v (.bool b)],RdL.cons (by simp [Rd,Value.oneCell']) (RdL.nil _),by simp [WT,hu],hbk.lit _⟩
   | int k =>
    obtain ⟨z,rfl,rfl,hz⟩:=DataW.trod_int hu h
    exact ⟨[.v (.int k z)],RdL.cons (by simp [Rd,Value.oneCell']) (RdL.nil _),by simp [WT,hu,hz],hbk.lit _⟩
   | string =>
    obtain ⟨s,rfl,rfl,hs⟩:=DataW.trod_string hu h
    refine ⟨[.v (.string s)],RdL.cons (by simp [Rd,Value.oneCell']) (RdL.nil _),?_,hbk.lit _⟩
    have:=hw s.data.toList.length (by rw [DataW.weights];exact List.mem_singleton.2 rfl)
    have h5:=reachBytes_lt
    have hsz : s.data.toList.length = s.size:=by rw [Array.length_toList];rfl
    simp only [WT,hu]
    exact ⟨s,rfl,by unfold lim;omega⟩
   | slice e =>
    simp only [Bool.and_eq_true,List.contains_iff_mem] at hc
    obtain ⟨he,hb⟩:=hc
    have hb : 0 < P.bytesOf e:=by simpa [Nat.blt_eq] using hb
    rcases DataW.trod_slice hu h with ⟨rfl,rfl⟩ | ⟨a,len,cap,elems,rest,n',hn,rfl,rfl,_,hl,hm,hlen,hel,_,_⟩
    ·refine ⟨[.sl 0 (P.cellsOf e) []],RdL.cons Rd.nilS (RdL.nil _),?_,hbk.nil⟩
     simp only [WT,hu]
     exact ⟨[],rfl,Nat.zero_le _,fun x hx=>by simp at hx⟩
    ·obtain rfl : n' = n:=Q0
     have hwl : len<=lim:=by
      have:=hw ((elems.map (·.1)).length+(rest.map (·.1)).length |> (· * P.bytesOf e)) (by simp [DataW.weights,hu])
      have h5:=reachBytes_lt
      have h6 : len<=((elems.map (·.1)).length+(rest.map (·.1)).length) * P.bytesOf e:=Nat.le_trans (by simp [hlen]) (Nat.le_mul_of_pos_right _ hb)
      simp only at this
      unfold lim;omega
     have each : ∀ i,(hi : i < len)->∃ cs' ds,W.cells? 0 (a.add (i * P.cellsOf e)) (P.cellsOf e) = some cs'/\RdL (memOf W) ds cs'/\WT P n' e ds/\bulkDs ds<=bulk (elems[i]'Q0).1:=fun i hi=>by
      have h1:=hel i hi
      have h2 : i < elems.length:=Q0
      rw [List.getElem?_eq_getElem h2,Option.bind_eq_some_iff] at h1
      obtain ⟨cs',h3,h4⟩:=h1
      obtain ⟨ds,h5,h6,h7⟩:=ih e cs' _ he h4 fun k hk=>hw k (by
       simp only [DataW.weights,hu,List.mem_cons,List.mem_append]
       exact .inr (.inl (weightsAll_mem (List.mem_map.2 ⟨_,List.getElem_mem h2,rfl⟩) k hk)))
      exact ⟨cs',ds,h3,h5,h6,h7⟩
     have hcell : ∀ q,q < len * P.cellsOf e->∃ u,W.cell? (a.add q) = some u:=fun q hq=>by
      have hp : 0 < P.cellsOf e:=by
       rcases Nat.eq_zero_or_pos (P.cellsOf e) with h | h
       ·rw [h] at hq;omega
       ·exact h
      have hi : q / P.cellsOf e < len:=Nat.div_lt_of_lt_mul (by rw [Nat.mul_comm];exact hq)
      obtain ⟨cs',ds,h1,_,_,_⟩:=each _ hi
      obtain ⟨_,h2,h3⟩:=World.cells?_some h1
      have hr : q % P.cellsOf e < P.cellsOf e:=Nat.mod_lt _ hp
      have h4:=h3 _ hr
      rw [show (a.add (q / P.cellsOf e * P.cellsOf e)).add (q % P.cellsOf e) = a.add q from by
       have e1 : q / P.cellsOf e * P.cellsOf e+q % P.cellsOf e = q:=by rw [Nat.mul_comm];exact Nat.div_add_mod q _
       have:=adr_add (some a) (q / P.cellsOf e * P.cellsOf e) (q % P.cellsOf e)
       rw [e1] at this
       exact this,List.getElem?_eq_getElem Q0] at h4
      exact ⟨_,h4⟩
     -- the cells as one list
     obtain ⟨row,hrl,hrow⟩ : ∃ row : List Value,row.length = len * P.cellsOf e/\∀ q,q < len * P.cellsOf e->W.cell? (a.add q) = row[q]?:=by
      refine ⟨(List.range (len * P.cellsOf e)).map fun q=>(W.cell? (a.add q)).getD default,Q2,fun q hq=>?_⟩
      obtain ⟨u,hu'⟩:=hcell q hq
      simp [hq,hu']
     obtain ⟨els,k1,k2,k3,k4,k5⟩:=glue (M:=memOf W) (P.cellsOf e) (WT P n' e) ((elems.map (·.1)).map bulk) row (by rw [hrl,List.length_map,List.length_map,hlen]) fun i b hbi=>by
      obtain ⟨hi0,hb0⟩:=List.getElem?_eq_some_iff.1 hbi
      have hi : i < len:=by simp at hi0;omega
      obtain ⟨cs',ds,h1,h2,h3,h7⟩:=each i hi
      have hb1 : bulk (elems[i]'Q0).1 = b:=by rw [<-hb0];simp
      rw [hb1] at h7
      obtain ⟨_,h4,h5⟩:=World.cells?_some h1
      refine ⟨ds,?_,h3,h7⟩
      have : (row.drop (i * P.cellsOf e)).take (P.cellsOf e) = cs':=by
       apply List.ext_getElem?
       intro j
       by_cases hj : j < P.cellsOf e
       ·rw [List.getElem?_take_of_lt hj,List.getElem?_drop,<-h5 j hj]
        have hlt : i * P.cellsOf e+j < len * P.cellsOf e:=by
         have : (i+1) * P.cellsOf e<=len * P.cellsOf e:=Nat.mul_le_mul_right _ hi
         rw [Nat.succ_mul] at this;omega
        rw [<-hrow _ hlt]
        have:=adr_add (some a) (i * P.cellsOf e) j
        show W.cell? (adr (some a) _) = _
        rw [<-this];rfl
       ·rw [List.getElem?_eq_none Qc,List.getElem?_eq_none Q0]
      rw [this];exact h2
     rw [List.length_map,List.length_map,hlen] at k1
     refine ⟨[.sl els.length (P.cellsOf e) els.flatten],RdL.cons ?_ (RdL.nil _),?_,?_⟩
     ·simp only [Rd]
      refine ⟨some a,cap,by rw [k1],Q0,hm,Q0,flatten_len k4,fun _=>rfl,RdC.mk _ 0 fun k d hk=>?_⟩
      have hlt : k < row.length:=by
       rw [k2.1]
       rcases Nat.lt_or_ge k els.flatten.length with h | h
       ·exact h
       ·rw [List.getElem?_eq_none h] at hk;cases hk
      refine ⟨row[k],?_,k2.2 k d _ hk (List.getElem?_eq_getElem hlt)⟩
      rw [cellM_memOf,Nat.zero_add]
      exact (hrow k Q0).trans (List.getElem?_eq_getElem hlt)
     ·simp only [WT,hu]
      exact ⟨els,rfl,Q0,k3⟩
     ·have:=hbk.slice (elems.map (·.1)) (rest.map (·.1))
      simp only [bulkDs,bulkD] at k5 ⊢
      omega
   | struct fs =>
    obtain ⟨xs,n',hn,rfl,hl,hxl,hf⟩:=DataW.trod_struct hu h
    obtain rfl : n' = n:=Q0
    rw [Bool.and_eq_true] at hc
    have hca : ∀ f∈fs.toList,f.type∈ts:=fun f hf=>by
     have:=List.all_eq_true.1 hc.2 f hf
     simpa using this
    have hwe : ∀ (l : List Field) (ys : List (DataW H)) (i : Nat) (f : Field) (d : DataW H),l[i]? = some f->ys[i]? = some d->∀ k∈d.weights P f.type,k∈DataW.weightsEach P (l.map (·.type)) ys:=by
     intro l
     induction l with
     | nil=>intro ys i f d h1;simp at h1
     | cons g l ihl =>
      intro ys i f d h1 h2 k hk
      cases ys with
      | nil=>simp at h2
      | cons y ys =>
       rw [List.map_cons,DataW.weightsEach,List.mem_append]
       cases i with
       | zero =>
        simp only [List.getElem?_cons_zero,Option.some.injEq] at h1 h2
        subst h1 h2;exact .inl hk
       | succ i=>exact .inr (ihl ys i f d (by simpa using h1) (by simpa using h2) k hk)
    have each : ∀ (i : Nat) (f : Field) (b : Nat),fs.toList[i]? = some f->((xs.map (·.1)).map bulk)[i]? = some b->∃ ds,RdL (memOf W) ds ((cs.drop f.offset).take (P.cellsOf f.type))/\WT P n' f.type ds/\bulkDs ds<=b:=fun i f b hi hbi=>by
     have hfm:=List.mem_of_getElem? hi
     have h1:=hf i f (by simpa using hi)
     have hix : i < xs.length:=by
      have:=(List.getElem?_eq_some_iff.1 hi).1
      simp at this;omega
     rw [List.getElem?_eq_getElem hix] at h1
     have hb1 : bulk (xs[i]).1 = b:=by
      have : ((xs.map (·.1)).map bulk)[i]? = some (bulk (xs[i]).1):=by simp [hix]
      rw [this] at hbi
      exact Option.some.inj hbi
     rw [<-hb1]
     exact ih f.type _ _ (hca f hfm) h1 fun k hk=>hw k (by
      simp only [DataW.weights,hu]
      exact hwe _ _ i f _ hi (by simp [hix]) k hk)
    obtain ⟨ds,k1,k2,k3⟩:=glueF (M:=memOf W) (P:=P) (fun f ds=>WT P n' f.type ds) fs.toList ((xs.map (·.1)).map bulk) 0 cs (by rw [Nat.zero_add,hl];exact hc.1) (by simp [hxl]) fun i f b hi hbi=>by simpa using each i f b hi hbi
    refine ⟨ds,k1,?_,Nat.le_trans k3 (hbk.agg _)⟩
    simp only [WT,hu]
    exact ⟨by rw [<-k1.1];exact hl,fun f hf=>by simpa using k2 f hf⟩
   | array m e =>
    simp only [Bool.and_eq_true,List.contains_iff_mem] at hc
    obtain ⟨hc0,hc⟩:=hc
    have hc0:=Nat.eq_of_beq_eq_true hc0
    obtain ⟨xs,n',hn,rfl,hl,hxl,hf⟩:=DataW.trod_array hu h
    obtain rfl : n' = n:=Q0
    have each : ∀ (i b : Nat),((xs.map (·.1)).map bulk)[i]? = some b->∃ ds,RdL (memOf W) ds ((cs.drop (i * P.cellsOf e)).take (P.cellsOf e))/\WT P n' e ds/\bulkDs ds<=b:=fun i b hbi=>by
     obtain ⟨hi0,hb0⟩:=List.getElem?_eq_some_iff.1 hbi
     have hix : i < xs.length:=by simpa using hi0
     have h1:=hf i Q0
     have hb1 : bulk (xs[i]).1 = b:=by rw [<-hb0];simp
     rw [<-hb1]
     rw [List.getElem?_eq_getElem hix] at h1
     exact ih e _ _ hc h1 fun k hk=>hw k (by
      simp only [DataW.weights,hu]
      exact weightsAll_mem (List.mem_map.2 ⟨_,List.getElem_mem hix,rfl⟩) k hk)
    obtain ⟨els,k1,k2,k3,k4,k5⟩:=glue (M:=memOf W) (P.cellsOf e) (WT P n' e) ((xs.map (·.1)).map bulk) cs (by rw [hl,hc0,List.length_map,List.length_map,hxl]) each
    rw [List.length_map,List.length_map,hxl] at k1
    refine ⟨els.flatten,k2,?_,Nat.le_trans k5 (hbk.agg _)⟩
    simp only [WT,hu]
    refine ⟨by rw [<-k2.1];exact hl,fun i hi=>?_⟩
    have hi' : i < els.length:=Q0
    have e2 : ∀ (l : List (List D)) (sz i : Nat) (hi : i < l.length),(∀ x∈l,x.length = sz)->((l.flatten.drop (i * sz)).take sz) = l[i]:=fun l sz i hi hall=>by
     have:=flat_takeF l sz i hi hall
     exact this
    rw [e2 els _ i hi' k4]
    exact k3 _ (List.getElem_mem hi')
   | _=>simp at hc
end

def SlotOf (P : Program) (t : TypeId) (us : List Value) (v : Value) : Prop:=match P.underlying t with
 | some (.struct _)=>v = .agg us.toArray
 | some (.array ..)=>v = .agg us.toArray
 | _=>us = [v]

inductive ArgsB (P : Program) (M : Mem) (b : Nat) : List TypeId->List Value->Prop
 | nil : ArgsB P M b [] []
 | cons {t : TypeId} {ts : List TypeId} {v : Value} {vs : List Value} (n : Nat) (ds : List D) (us : List Value) : RdL M ds us->WT P n t ds->SlotOf P t us v->bulkDs ds<=b->ArgsB P M b ts vs->ArgsB P M b (t::ts) (v::vs)
inductive ArgsW (P : Program) (M : Mem) : List TypeId->List Value->Prop
 | nil : ArgsW P M [] []
 | cons {t : TypeId} {ts : List TypeId} {v : Value} {vs : List Value} (n : Nat) (ds : List D) (us : List Value) : RdL M ds us->WT P n t ds->SlotOf P t us v->ArgsW P M ts vs->ArgsW P M (t::ts) (v::vs)

theorem ArgsW.inv {P : Program} {M : Mem} {t : TypeId} {ts : List TypeId} {vs : List Value} (h : ArgsW P M (t::ts) vs) :
  ∃ n ds us v vs',vs = v::vs'/\RdL M ds us/\WT P n t ds/\SlotOf P t us v/\ArgsW P M ts vs':=by
 cases h with
 | cons n ds us h1 h2 h3 h4=>exact ⟨n,ds,us,_,_,rfl,h1,h2,h3,h4⟩
theorem ArgsB.toW {P : Program} {M : Mem} {b : Nat} {ts : List TypeId} {vs : List Value} (h : ArgsB P M b ts vs) : ArgsW P M ts vs:=by
 induction h with
 | nil=>exact .nil
 | cons n ds us h1 h2 h3 _ _ ih=>exact .cons n ds us h1 h2 h3 ih
theorem ArgsW.nil_inv {P : Program} {M : Mem} {vs : List Value} (h : ArgsW P M [] vs) : vs = []:=by cases h;rfl

section
variable {H : Type} {enc : TypeId×Value->H} {P : Program} {W : World}
theorem argsB_of {ts0 : List TypeId} {bulk : DataW H->Nat} (hbk : BulkOk bulk) (bd : Nat) (hcl : closedB P ts0 = true) (hl : laidOutB P = true) :
  ∀ (ts : List TypeId) (vs : List Value) (ds : List (DataW H)) (p : List MemPlace),DataW.TrodAll enc P W 0 (fun _=>true) true ts vs ds p->(∀ t∈ts,t∈ts0/\P.readableRec t = true/\t < P.types.size) ->
  (∀ (j : Nat) t v,ts[j]? = some t->vs[j]? = some v->∃ b,Value.okWide P W .any b t v)->(∀ k∈DataW.weightsEach P ts ds,k<=reachBytes)->(∀ d∈ds,bulk d<=bd) ->
  ArgsB P (memOf W) bd ts vs/\∀ (W' : World) (sp : Nat->Bool),Below W.heap.size W W'->(∀ q∈p,q.block < W.heap.size)->(∀ q∈p,sp q.block = true)->DataW.TrodAll enc P W' 0 sp true ts vs ds p
 | [],vs,ds,p,h,_,_,_,_=>by
  obtain ⟨rfl,rfl,rfl⟩:=trodAll_nil h
  exact ⟨.nil,fun _ _ _ _ _=>rfl⟩
 | t::ts,vs,ds,p,h,hts,hval,hsz,hbd=>by
  obtain ⟨v,vs1,d,ds1,pa,pb,rfl,rfl,rfl,h1,h2⟩:=trodAll_cons h
  rw [DataW.weightsEach] at hsz
  obtain ⟨h3,h4⟩:=argsB_of hbk bd hcl hl ts vs1 ds1 pb h2 (fun x hx=>hts x (List.mem_cons_of_mem _ hx)) (fun j x y hx hy=>hval (j+1) x y (by simpa using hx) (by simpa using hy)) (fun k hk=>hsz k (List.mem_append_right _ hk)) (fun x hx=>hbd x (List.mem_cons_of_mem _ hx))
  obtain ⟨b,hv⟩:=hval 0 t v rfl rfl
  obtain ⟨ht0,hr,hrow⟩:=hts t (List.mem_cons_self ..)
  obtain ⟨n,hn⟩:=h1
  obtain ⟨es,k1,k2,k3⟩:=open_cellsB hbk hcl n t _ _ ht0 hn fun k hk=>hsz k (List.mem_append_left _ hk)
  refine ⟨.cons n es v.cells.toList k1 k2 ?_ (Nat.le_trans k3 (hbd _ (List.mem_cons_self ..))) h3,fun W' sp hB hlt hq=>⟨pa,pb,WideElems.Trod_stays hl hr hrow ⟨n,hn⟩ (fun x hx=>hB.same (hlt x (List.mem_append_left _ hx))) (fun x hx=>hq x (List.mem_append_left _ hx)),
   h4 W' sp hB (fun x hx=>hlt x (List.mem_append_right _ hx)) (fun x hx=>hq x (List.mem_append_right _ hx)),rfl⟩⟩
  have hc:=List.all_eq_true.1 hcl t ht0
  unfold SlotOf
  cases hu : P.underlying t with
  | none=>simp [hu] at hc
  | some u =>
   rw [hu] at hc
   cases u with
   | bool=>obtain ⟨b,rfl⟩:=okWide_bool hu hv;rfl
   | int k=>obtain ⟨z,rfl⟩:=okWide_int hu hv;rfl
   | string=>obtain ⟨s,rfl⟩:=okWide_string hu hv;rfl
   | slice e=>obtain ⟨a,n,c,rfl⟩:=okWide_slice hu hv;rfl
   | struct fs=>obtain ⟨cs,rfl,_⟩:=okWide_struct hu hv;simp [Value.cells]
   | array m e =>
    simp only [Value.okWide,hu] at hv
    obtain ⟨cs,rfl,_⟩:=hv
    simp [Value.cells]
   | _=>simp at hc
end

theorem law_core {H : Type} {enc : TypeId×Value->H} {C : Checked} {f : FuncId} {fn : Func} {s : ChangeSpec} {tb : TypeId} {fresh handsOn again : Bool} {bulk : DataW H->Nat} (hbk : BulkOk bulk) (bd : Nat) (ts0 : List TypeId)
  (hcl : closedB C.prog ts0 = true) (hl : laidOutB C.prog = true) (htb : C.prog.underlying tb = some .bool)
  (hts : (fn.params.toList.all fun t=>ts0.contains t && C.prog.readableRec t && Nat.blt t C.prog.types.size) = true) (hres : fn.resultTypes = #[tb]) (hvars : s.vars = []) (hspec : ∀ ds : List (DataW H),ds.length = fn.params.toList.length->s.fn H ds = { results:=[.lit (.bool true)],args:=ds,vars:=[] })
  {W : World} {base : Nat} {args : Array Value} {ds gs : List (DataW H)} {before : List MemPlace} (hval : ∀ (j : Nat) t v,fn.params[j]? = some t->args[j]? = some v->Value.okWide C.prog W .any base t v)
  (hW : DataW.Whole enc C.prog fn.params.toList s.vars false W args.toList ds gs before) (hsz : (DataW.weightsEach C.prog (fn.params.toList++s.plain.varTypes C.prog) (ds++gs)).all (·<=reachBytes) = true) (hbd : ∀ d∈ds,bulk d<=bd)
  (contract : ∀ vs : List Value,ArgsB C.prog (memOf W) bd fn.params.toList vs->CallOk C.prog W (memOf W) [] f vs.toArray (Is (memOf W) [] (.bool true))) :
  Calls C.prog f args W fun e W'=>∃ v,e = .returned v/\s.post enc C.prog fn false fresh handsOn again W args v W':=by
 have hW':=hW
 obtain ⟨p,q,hA,hV,hb,hfz,hnd⟩:=hW
 rw [hvars] at hV
 obtain ⟨rfl,rfl⟩:=trodVars_none hV
 have hvt : s.plain.varTypes C.prog = []:=by
  have : s.plain.vars = []:=hvars
  unfold DataSpec.varTypes
  rw [this];rfl
 rw [hvt,List.append_nil,List.append_nil] at hsz
 have hts' : ∀ t∈fn.params.toList,t∈ts0/\C.prog.readableRec t = true/\t < C.prog.types.size:=fun t ht=>by
  have:=List.all_eq_true.1 hts t ht
  simp only [Bool.and_eq_true,List.contains_iff_mem] at this
  exact ⟨this.1.1,this.1.2,by simpa [Nat.blt_eq] using this.2⟩
 obtain ⟨h1,h2⟩:=argsB_of (enc:=enc) hbk bd hcl hl fn.params.toList args.toList ds p hA hts' (fun j t v ht hv=>⟨base,hval j t v (by simpa using ht) (by simpa using hv)⟩) (fun k hk=>by
  have:=List.all_eq_true.1 hsz k hk
  simpa using this) hbd
 have hlen : ds.length = fn.params.toList.length:=by
  have : ∀ (ts : List TypeId) (vs : List Value) (ds : List (DataW H)) (p : List MemPlace),DataW.TrodAll enc C.prog W 0 (fun _=>true) true ts vs ds p->ds.length = ts.length:=by
   intro ts
   induction ts with
   | nil=>intro vs ds p h;obtain ⟨_,rfl,_⟩:=trodAll_nil h;rfl
   | cons t ts ih =>
    intro vs ds p h
    obtain ⟨v,vs1,d,ds1,a,b,rfl,rfl,rfl,_,h2⟩:=trodAll_cons h
    simp [ih _ _ _ h2]
  exact this _ _ _ _ hA
 refine (contract args.toList h1 W (st_start W)).mono ?_
 rintro e' W' ⟨v,M',Γ',rfl,⟨rfl,rfl,rfl⟩,hw'⟩
 refine ⟨_,rfl,?_⟩
 have hB:=below_of hw'
 have hfn':=hspec ds hlen
 have hlt : ∀ x∈p,x.block < W.heap.size:=fun x hx=>hW'.lt x (by rw [hb];exact List.mem_append_left _ hx)
 refine post_below (pa:=p) (pv:=[]) hW' (fun b sp hd=>?_) (fun sp hsp=>?_) (fun sp _=>?_) (by rw [hb]) hB (fun j t r hj hr=>?_)
 ·rw [List.append_nil,hfn',hres]
  exact trodAll_mk1 (shut_bool htb true)
 ·rw [List.append_nil,hfn']
  exact h2 W' sp hB hlt fun q hq=>hsp q (by rw [hb,List.append_nil];exact hq)
 ·rw [List.append_nil,hfn',hvars]
  rfl
 ·rw [hres] at hj hr
  have hj0 : j = 0:=by
   rcases Nat.eq_zero_or_pos j with h | h
   ·exact h
   ·rw [Array.getElem?_eq_none Qc] at hj;cases hj
  subst hj0
  simp [Value.resultList] at hj hr
  subst hj hr
  exact okWide_bool_mk htb true
theorem sizeOf_sum {H : Type} : ∀ l : List (DataW H),(l.map SizeOf.sizeOf).sum+1<=SizeOf.sizeOf l
 | []=>by simp
 | x::xs=>by have:=sizeOf_sum xs;simp only [List.map_cons,List.sum_cons,List.cons.sizeOf_spec];omega
theorem bulk_sizeOf {H : Type} : BulkOk (H:=H) SizeOf.sizeOf:=⟨fun l=>by simp,Q2,fun els sp=>by have:=sizeOf_sum els;simp only [DataW.slice.sizeOf_spec];omega,fun ps=>by have:=sizeOf_sum ps;simp only [DataW.agg.sizeOf_spec];omega⟩
theorem le_sum {α : Type} (g : α->Nat) : ∀ {l : List α} {x : α},x∈l->g x<=(l.map g).sum
 | y::ys,x,h=>by
  rw [List.map_cons,List.sum_cons]
  rcases List.mem_cons.1 h with rfl | h
  ·omega
  ·have:=le_sum g h;omega
def Kn (w0 : World) (M : Mem) (Γ : List As) (F : Prop) : Prop:=∀ w,St w0 M Γ w->F
section
variable {P : Program} {w0 : World} {M : Mem} {Γ : List As} {F : Prop}
theorem Kn.rds {ds : List D} {us : List Value} (h : As.rds ds us∈Γ) : Kn w0 M Γ (RdL M ds us):=fun _ hw=>hw.all _ h
theorem Kn.rd {d : D} {u : Value} (h : As.rd d u∈Γ) : Kn w0 M Γ (Rd M d u):=fun _ hw=>hw.all _ h
theorem Kn.of (h : F) : Kn w0 M Γ F:=fun _ _=>h
theorem CallOk.kn {f : FuncId} {args : Array Value} {R : Post} (h : Kn w0 M Γ F) (k : F->CallOk P w0 M Γ f args R) : CallOk P w0 M Γ f args R:=fun w hw=>k (h w hw) w hw
theorem RL.kn {n : Nat} {ops : Array Oper} {rest : List Oper} {L : Lm} {K : Lm->Mem->List As->Prop} (h : Kn w0 M Γ F) (k : F->RL P n w0 ops rest L M Γ K) : RL P n w0 ops rest L M Γ K:=RL.know h k
theorem RL.addRds {n : Nat} {ops : Array Oper} {rest : List Oper} {L : Lm} {K : Lm->Mem->List As->Prop} {es : List D} {us : List Value} (hr : RdL M es us) (h : RL P n w0 ops rest L M (.rds es us::Γ) K) : RL P n w0 ops rest L M Γ K :=
 h.pre (fun _ _ h=>h) fun _ hw=>hw.add (x:=.rds es us) hr rfl
theorem Turn.addRds {G : Mem->List As->Prop} {es : List D} {us : List Value} (hr : RdL M es us) (h : Turn w0 M (.rds es us::Γ) G) : Turn w0 M Γ G:=fun w hw=>h w (hw.add (x:=.rds es us) hr rfl)
theorem Turn.kn {G : Mem->List As->Prop} (h : Kn w0 M Γ F) (k : F->Turn w0 M Γ G) : Turn w0 M Γ G:=fun w hw=>k (h w hw) w hw
theorem RL.storeRds {n : Nat} {ops : Array Oper} {rest : List Oper} {L : Lm} {K : Lm->Mem->List As->Prop} {ty : TypeId} {pos : String} {af : Array Edge} {t : TypeId} {x y : Operand} {b e : Nat} {cs vs : List Value} {ds : List D} {Γ' : List As} (sz : Nat) (hx : evL L x = some (.pointer (some (adr (some ⟨b,0,none⟩) 0)))) (hy : evL L y = some (.agg vs.toArray))
  (hr : Repl (.own b e cs) (.own b e vs) Γ Γ') (hm : As.rds ds vs∈Γ) (hd : ds.length = sz) (hc : Kn w0 M Γ (cs.length = sz)) (ht : sizeB P t sz = true)
  (h : RL P n w0 ops rest L M Γ' K) : RL P n w0 ops (⟨none,.store t x y,ty,pos,af,none⟩::rest) L M Γ K:=by
 refine RL.kn (Kn.rds hm) fun hv=>RL.kn hc fun hcs=>?_
 have hl : vs.length = sz:=by rw [hv.1,hd]
 exact RL.storeAgg vs hx hy hr (by simp [hl,hcs]) Q0 (fun _ _=>hv.one) (by rw [hl];exact ht) h
theorem Kn.lenLit {us : List Value} {sz : Nat} (h : us.length = sz) : Kn w0 M Γ (us.length = sz):=fun _ _=>h
end

def CellsK (w0 : World) (M : Mem) (Γ : List As) (p : Addr) (vs : List Value) : Prop:=∀ w,St w0 M Γ w->∀ j v,vs[j]? = some v->w.cell? (p.add j) = some v
theorem CellsK.own {w0 : World} {M : Mem} {Γ : List As} {b e : Nat} {vs : List Value} (h : As.own b e vs∈Γ) : CellsK w0 M Γ (adr (some ⟨b,0,none⟩) 0) vs:=fun w hw j v hj=>by
 rw [adr_add]
 have:=hw.own_cell h hj
 simpa using this
theorem CellsK.mono {w0 : World} {M : Mem} {Γ Γ' : List As} {p : Addr} {vs : List Value} (h : CellsK w0 M Γ p vs) (hs : ∀ w,St w0 M Γ' w->St w0 M Γ w) : CellsK w0 M Γ' p vs:=fun w hw=>h w (hs w hw)
theorem enterCell3 {P : Program} {f : FuncId} {fn : Func} {c : Code} {args : List Value} {w0 : World} {M : Mem} {Γ : List As} {R : Post} {r s1 s2 n : Nat} {t : TypeId}
  (hf : P.funcs[f]? = some fn) (hb : fn.body = some c) (hn : fn.ntmps = n) (hr : fn.results = #[.cell r t,.tmp s1,.tmp s2]) (ha : Nat.ble args.length n = true)
  (h : ∀ w1,St w0 M Γ w1->CW P n w0 c (fun e L M Γ=>match e with
   | .ret | .normal=>∃ v1 v2,getL L s1 = some v1/\getL L s2 = some v2/\CellAt P w0 r t L M Γ (fun u=>R (.tuple #[u,v1,v2]))
   | _=>False) (slotsOf 0 args) M Γ) : CallOk P w0 M Γ f args.toArray R:=by
 intro w hw
 refine calls_of_wp hf hb ?_
 rw [hn]
 refine wp_mono (h w hw _ w (sat_start n args ha) hw) ?_
 rintro e a w' ⟨L,M1,Γ1,hX,h1,h2⟩
 cases e with
 | normal | ret =>
  obtain ⟨v1,v2,hs1,hs2,b,e,cs,hv,hm,hag,hi⟩:=hX
  obtain ⟨M',Γ',hR,hw'⟩:=hi w' h2
  refine ⟨h1.defers,.tuple #[.agg cs.toArray,v1,v2],?_,_,M',Γ',rfl,hR,hw'⟩
  have e1:=h1.get r _ hv
  have f1:=h1.get s1 _ hs1
  have f2:=h1.get s2 _ hs2
  simp [results,hr,e1,f1,f2,asAddr,run_loadOwn h2 hm hag]
 | _=>exact hX.elim
def w64 (z : Int) : Int:=IntKind.i64.wrap z
theorem w64_eq (z : Int) : w64 z = (z+9223372036854775808) % 18446744073709551616 - 9223372036854775808:=by
 unfold w64 IntKind.wrap
 simp only [IntKind.signed,IntKind.bits]
 simp
 split <;> omega
section
variable {P : Program} {w0 : World} {L : Lm} {M : Mem} {Γ : List As} {d : Option Nat} {ty : TypeId} {pos : String} {af : Array Edge} {g : Option (Nat×Bool)}
namespace Y
theorem loadAllR {x : Operand} {t : TypeId} {b e : Nat} {us : List Value} {ds : List D} {sz : Nat} (hx : evL L x = some (.pointer (some (adr (some ⟨b,0,none⟩) 0)))) (hm : As.own b e us∈Γ) (hr : As.rds ds us∈Γ) (hl : ds.length = sz) (hf : aggB P t sz = true) :
  Yq P w0 L M Γ ⟨d,.load t x,ty,pos,af,g⟩ (.agg us.toArray):=fun n a w ha hw=>by
 have h1 : RdL M ds us:=hw.all _ hr
 exact Y.loadAll (sz:=sz) hx hm (by rw [h1.1,hl]) hf n a w ha hw
end Y
end
theorem MM {α : Type} {x : α} {l : List α} (h : x∈l:=by first | ((repeat (first | exact List.Mem.head _ | apply List.Mem.tail | apply List.mem_append_right));done) | fail) : x∈l:=h
theorem RP {x x' : As} {l l' : List As} (h : Repl x x' l l':=by first | ((repeat (first | exact Repl.here _ | apply Repl.there));done) | fail) : Repl x x' l l':=h
theorem PK {x : As} {l l' : List As} (h : Pick x l l':=by first | ((repeat (first | exact Pick.here _ | apply Pick.there));done) | fail) : Pick x l l':=h
theorem SB {l l' : List As} (h : List.Sublist l l':=by first | ((repeat (first | exact List.Sublist.refl _ | apply List.Sublist.cons_cons | apply List.Sublist.cons));done) | fail) : List.Sublist l l':=h
theorem KR {p : Prop} (h : p:=by kernel_rfl) : p:=h
theorem WG {ops : Array Oper} {L : Lm} {o : Oper} {b : Bool} (h : Want ops L o b:=by exact ⟨_,_,rfl,rfl,rfl⟩) : Want ops L o b:=h
theorem AO {p : Prop} (h : p:=by first | assumption | omega) : p:=h
theorem OM {p : Prop} (h : p:=by omega) : p:=h
theorem SM {w0 : World} {M : Mem} {Γ : List As} {a : Option Addr} (h : ∀ w,St w0 M Γ w->a.isSome = true:=by first | exact fun _ hw=>hw.rd_some MM Q0 | exact fun _ hw=>(hw.acc_cell MM (by assumption)).1 | exact fun _ _=>rfl) : ∀ w,St w0 M Γ w->a.isSome = true:=h
def selL (L : Lm) : List Nat->Option Lm
 | []=>some []
 | k::ks=>match getL L k with
  | some v=>match selL L ks with
   | some r=>some ((k,v)::r)
   | none=>none
  | none=>none
theorem Keep.sel {L : Lm} : ∀ {ks : List Nat} {L' : Lm},selL L ks = some L'->Keep L L'
 | [],L',h=>by simp only [selL,Option.some.injEq] at h;subst h;exact Keep.nil L
 | k::ks,L',h=>by
  simp only [selL] at h
  cases hv : getL L k with
  | none=>rw [hv] at h;cases h
  | some v =>
   rw [hv] at h
   cases hr : selL L ks with
   | none=>rw [hr] at h;cases h
   | some r =>
    rw [hr] at h
    obtain rfl:=Option.some.inj h
    exact Keep.cons k hv (Keep.sel hr)
theorem CW.kp {P : Program} {n : Nat} {w0 : World} {c : Code} {X : Pst} {L L' : Lm} {M : Mem} {Γ : List As} (ks : List Nat) (hs : selL L ks = some L') (h : CW P n w0 c X L' M Γ) : CW P n w0 c X L M Γ:=CW.keep (Keep.sel hs) h
theorem KP {L L' : Lm} (ks : List Nat) (hs : selL L ks = some L':=by rfl) : Keep L L':=Keep.sel hs
end Xe

namespace Xe
open Go

def noGotoX (X : Pst) : Pst
 | .goto _,_,_,_=>False
 | e,L,M,Γ=>X e L M Γ
theorem CW.scope {P : Program} {n : Nat} {w0 : World} {X : Pst} {L : Lm} {M : Mem} {Γ : List As} {c : Code} (h : CW P n w0 c (noGotoX X) L M Γ) : CW P n w0 (.scope c) X L M Γ:=by
 intro a w ha hw
 refine wp_scope_straight (wp_mono (h a w ha hw) ?_)
 rintro e a w ⟨L,M,Γ,hX,h1,h2⟩
 cases e <;> first | exact hX.elim | exact ⟨L,M,Γ,hX,h1,h2⟩

theorem CW.regionHP2 {P : Program} {n : Nat} {w0 : World} {L : Lm} {M : Mem} {Γ : List As} {id : Nat} {X : Pst} {l : List Oper} {x y : As} {R R2 : List As} (hm : P.follows .mixedOrders = true) (hp : Pick x Γ R) (hp2 : Pick y R R2)
  (h : HL P n w0 l.toArray M R2 l.length (Array.replicate l.length false) L M Γ (X .normal)) : CW P n w0 (.region id l.toArray true) X L M Γ :=
 CW.regionH hm M R2 (fun _ hw=>(((hw.perm hp.perm).sub (List.sublist_cons_self _ _)).perm hp2.perm).sub (List.sublist_cons_self _ _)) h

section
variable {P : Program} {w0 : World} {L : Lm} {M : Mem} {Γ : List As} {d : Option Nat} {ty : TypeId} {pos : String} {af : Array Edge} {g : Option (Nat×Bool)}
namespace Y
theorem lssK {ik : IntKind} {x y : Operand} {m k : Int} {t : TypeId} (hx : evL L x = some (.int ik m)) (hy : evL L y = some (.int ik k)) :
  Yq P w0 L M Γ ⟨d,.binOp .lss t x y t,ty,pos,af,g⟩ (.bool (decide (m < k))):=fun n a w ha _=>by
 simp [execOp,ha.ev hx,ha.ev hy,eqGuard,Go.binOp,Op.intCmp]
theorem gtrK {ik : IntKind} {x y : Operand} {m k : Int} {t : TypeId} (hx : evL L x = some (.int ik m)) (hy : evL L y = some (.int ik k)) :
  Yq P w0 L M Γ ⟨d,.binOp .gtr t x y t,ty,pos,af,g⟩ (.bool (decide (k < m))):=fun n a w ha _=>by
 simp [execOp,ha.ev hx,ha.ev hy,eqGuard,Go.binOp,Op.intCmp]
theorem eqlK {ik : IntKind} {x y : Operand} {m k : Int} {t : TypeId} (hx : evL L x = some (.int ik m)) (hy : evL L y = some (.int ik k)) :
  Yq P w0 L M Γ ⟨d,.binOp .eql t x y t,ty,pos,af,g⟩ (.bool (decide (m = k))):=fun n a w ha _=>by
 simp [execOp,ha.ev hx,ha.ev hy,eqGuard,Go.binOp,Op.intCmp]
 by_cases h : m = k <;> simp [h]
theorem neqK {ik : IntKind} {x y : Operand} {m k : Int} {t : TypeId} (hx : evL L x = some (.int ik m)) (hy : evL L y = some (.int ik k)) :
  Yq P w0 L M Γ ⟨d,.binOp .neq t x y t,ty,pos,af,g⟩ (.bool (decide (m ≠ k))):=fun n a w ha _=>by
 simp [execOp,ha.ev hx,ha.ev hy,eqGuard,Go.binOp,Op.intCmp]
 by_cases h : m = k <;> simp [h]
def intB (P : Program) (t : TypeId) (k : IntKind) : Bool:=match P.underlying t with
 | some (.int k')=>decide (k' = k)
 | _=>false
theorem intB_spec {t : TypeId} {k : IntKind} (h : intB P t k = true) : P.underlying t = some (.int k):=by
 unfold intB at h
 cases hu : P.underlying t with
 | none=>simp [hu] at h
 | some dd =>
  rw [hu] at h
  cases dd <;> simp at h
  rw [h]
theorem convK {ik ik' : IntKind} {x : Operand} {m : Int} {s t : TypeId} (hs : intB P s ik = true) (ht : intB P t ik' = true) (hx : evL L x = some (.int ik m)) :
  Yq P w0 L M Γ ⟨d,.convert s t x,ty,pos,af,g⟩ (.int ik' (ik'.wrap m)):=fun n a w ha _=>by
 simp [execOp,ha.ev hx,Go.convert,run_underlying (intB_spec hs),run_underlying (intB_spec ht),Conv.intToInt]
theorem convTo {ik ik' : IntKind} {x : Operand} {m r : Int} {s t : TypeId} (hs : intB P s ik = true) (ht : intB P t ik' = true) (hx : evL L x = some (.int ik m)) (h : ik'.wrap m = r) :
  Yq P w0 L M Γ ⟨d,.convert s t x,ty,pos,af,g⟩ (.int ik' r):=h ▸ convK hs ht hx
end Y
end
theorem wrap_u8 (n : Int) : IntKind.u8.wrap n = n % 256:=by simp [IntKind.wrap,IntKind.bits,IntKind.signed]
theorem wrap_u64' (n : Int) : IntKind.u64.wrap n = n % 18446744073709551616:=IntKind.wrap_u64 n

abbrev vbyte (n : Nat) : Value:=.int .u8 (n : Int)
abbrev dbyte (n : Nat) : D:=.v (.int .u8 (n : Int))
abbrev vword (n : Nat) : Value:=.int .u64 (n : Int)
abbrev byteV (l : List Nat) : List Value:=l.map vbyte
def dbytes (l : List Nat) : D:=.sl l.length 1 (l.map dbyte)
theorem dbyte_get {l : List Nat} {k : Nat} {n : Nat} (h : l[k]? = some n) : (l.map dbyte)[k * 1]? = some (dbyte n):=by simp [h]
theorem bytes_rd {M : Mem} (l : List Nat) : RdL M (l.map dbyte) (byteV l):=by
 have:=RdL.vals (M:=M) (vs:=byteV l) (by
  intro v hv
  obtain ⟨z,_,rfl⟩:=List.mem_map.1 hv
  rfl)
 rw [byteV,List.map_map] at this
 exact this
theorem bytes_of_rd {M : Mem} : ∀ {l : List Nat} {us : List Value},RdL M (l.map dbyte) us->us = byteV l
 | [],us,h=>by have:=h.1;exact List.eq_nil_of_length_eq_zero (by simpa using this)
 | n::l,us,h=>by
  cases us with
  | nil=>have:=h.1;simp at this
  | cons u us =>
   have h0:=h.2 0 (dbyte n) u rfl rfl
   simp only [Rd] at h0
   have h1 : RdL M (l.map dbyte) us:=⟨by have:=h.1;simpa using this,fun k e x h1 h2=>h.2 (k+1) e x (by simpa using h1) (by simpa using h2)⟩
   rw [bytes_of_rd h1,h0.1];rfl
theorem bytes_one (l : List Nat) : ∀ u∈byteV l,u.oneCell' = true:=fun u hu=>by
 obtain ⟨z,_,rfl⟩:=List.mem_map.1 hu
 rfl
def flip8 (f a : Nat) : Nat:=if f = 0 then a else 255 - a
theorem xor8_0 : ∀ n : Fin 256,bits .xor .u8 (n.val : Int) 0 = (n.val : Int):=by decide +kernel
theorem xor8_255 : ∀ n : Fin 256,bits .xor .u8 (n.val : Int) 255 = ((255 - n.val : Nat) : Int):=by decide +kernel
theorem flip8_lt {f a : Nat} (h : a < 256) : flip8 f a < 256:=by unfold flip8;split <;> omega
section
variable {P : Program} {w0 : World} {L : Lm} {M : Mem} {Γ : List As} {d : Option Nat} {ty : TypeId} {pos : String} {af : Array Edge} {g : Option (Nat×Bool)}
namespace Y
theorem xor8 {x y : Operand} {m f : Nat} {t : TypeId} (hx : evL L x = some (vbyte m)) (hy : evL L y = some (vbyte f)) (hm : m < 256) (hf : f = 0\/f = 255) :
  Yq P w0 L M Γ ⟨d,.binOp .xor t x y t,ty,pos,af,g⟩ (vbyte (flip8 f m)):=fun n a w ha _=>by
 have e : bits .xor .u8 (m : Int) (f : Int) = ((flip8 f m : Nat) : Int):=by
  rcases hf with rfl | rfl
  ·exact xor8_0 ⟨m,hm⟩
  ·exact xor8_255 ⟨m,hm⟩
 simp only [execOp,ha.ev hx,ha.ev hy]
 simp [eqGuard,Go.binOp]
 rw [intBits_xor,e]
 simp
theorem not64 {x : Operand} {m : Nat} {t : TypeId} (hx : evL L x = some (vword m)) (hm : m < 18446744073709551616) :
  Yq P w0 L M Γ ⟨d,.unOp .xor t x,ty,pos,af,g⟩ (vword (18446744073709551615 - m)):=fun n a w ha _=>by
 have e : bits .xor .u64 (18446744073709551615 : Int) (m : Int) = ((18446744073709551615 - m : Nat) : Int):=by
  have h:=bits_xor_u64_nat 18446744073709551615 m Q0 hm
  have h2 : 18446744073709551615 ^^^ m = 18446744073709551615 - m:=by
   have h3 : (BitVec.allOnes 64 ^^^ BitVec.ofNat 64 m).toNat = (~~~ BitVec.ofNat 64 m).toNat:=by rw [BitVec.allOnes_xor]
   rw [BitVec.toNat_xor,BitVec.toNat_not,BitVec.toNat_allOnes,BitVec.toNat_ofNat,Nat.mod_eq_of_lt (by simpa using hm)] at h3
   simpa using h3
  rw [h2] at h
  exact h
 have hu : Op.unary .xor (.int .u64 (m : Int)) = Op.intBits .xor .u64 18446744073709551615 (m : Int):=rfl
 simp only [execOp,ha.ev hx,hu,intBits_xor,e]
 simp
theorem shl8 {x y : Operand} {m : Nat} {t t' : TypeId} (hx : evL L x = some (vword m)) (hy : evL L y = some (.int .u64 8)) :
  Yq P w0 L M Γ ⟨d,.binOp .shl t x y t',ty,pos,af,g⟩ (vword (m * 256 % 18446744073709551616)):=fun n a w ha _=>by
 have e : IntKind.u64.wrap ((m : Int) * 2 ^ (8 : Int).toNat) = ((m * 256 % 18446744073709551616 : Nat) : Int):=by
  rw [wrap_u64'];show ((m : Int) * 256) % _ = _;omega
 simp only [execOp,ha.ev hx,ha.ev hy]
 simp [eqGuard,Go.binOp]
 rw [shift_shl .u64 .u64 (m : Int) 8 Q1 Q1,e]
 simp
theorem shrN {ik : IntKind} {x y : Operand} {m : Nat} {s : Int} {t t' : TypeId} (j : Nat) (hx : evL L x = some (vword m)) (hy : evL L y = some (.int ik s)) (hs : s = (j : Int)) (hj : j<=64) :
  Yq P w0 L M Γ ⟨d,.binOp .shr t x y t',ty,pos,af,g⟩ (vword (m / 2 ^ j)):=fun n a w ha _=>by
 subst hs
 have e : ((m : Int) / 2 ^ ((j : Int)).toNat) = ((m / 2 ^ j : Nat) : Int):=by
  rw [Int.toNat_natCast,Int.natCast_ediv];congr 1 <;> simp
 simp only [execOp,ha.ev hx,ha.ev hy]
 simp [eqGuard,Go.binOp] <;> rw [shift_shr .u64 ik (m : Int) (j : Int) Q0 (by simpa [IntKind.bits] using hj),e] <;> simp
theorem or8 {x y : Operand} {m c : Nat} {t : TypeId} (hx : evL L x = some (vword m)) (hy : evL L y = some (vword c)) (hm : m < 18446744073709551616) (h0 : m % 256 = 0) (hc : c < 256) :
  Yq P w0 L M Γ ⟨d,.binOp .or t x y t,ty,pos,af,g⟩ (vword (m+c)):=fun n a w ha _=>by
 have e : bits .or .u64 (m : Int) (c : Int) = ((m+c : Nat) : Int):=by
  rw [bits_or_u64_nat m c hm Q0]
  congr 1
  have h1 : m = (m / 256) <<< 8:=by rw [Nat.shiftLeft_eq];omega
  rw [h1,<-Nat.shiftLeft_add_eq_or_of_lt (by simpa using hc)]
 simp only [execOp,ha.ev hx,ha.ev hy]
 simp [eqGuard,Go.binOp]
 rw [intBits_or,e]
 simp
end Y
end

theorem append_zeros {P : Program} {w0 w : World} {M : Mem} {Γ : List As} {t tn ty e sz bytes n : Nat} {kn : IntKind} (hE : ElemOk P t e sz bytes) (htn : P.underlying tn = some (.int kn)) (hw : St w0 M Γ w) (h0 : 0 < n) (hb : n * bytes<=140737488355328) (hm : n<=lim) :
  ∃ b c us w',(Builtin.append_ #[t,tn] ty #[.slice none 0 0,.int .i64 n]).run P w = .ok (.slice (some ⟨b,0,none⟩) n c) w'/\us.length = n * sz/\n<=c/\St w0 M (.acc (.slice (some ⟨b,0,none⟩) n c) e sz n us::Γ) w':=by
 obtain ⟨ht,⟨i,z,hi,hz,hsize,hby,hzs⟩,hpos⟩:=hE
 subst hsize hby
 have hlm : lim = 140737488355328:=rfl
 have hr:=Lib.run_append_nil_zeros (P:=P) w t tn ty e i z .i64 kn ht htn hi hz n h0 hpos Q0 Q0
 have hc1:=grownCap_ge w n 0 e
 have hc2:=grownCap_le_maxLen w n 0 e (by unfold maxLen;omega)
 refine ⟨w.heap.size,grownCap w n 0 e,(Builtin.zeroCells z.cells n).toList,_,hr,by rw [Array.length_toList,size_zeroCells,hzs],hc1,?_⟩
 have h5:=(hw.draw (w.drawn+1)).alloc e (Builtin.zeroCells z.cells n++Builtin.zeroCells z.cells (grownCap w n 0 e - n)).toList
 have h6 : St w0 M (.own w.heap.size e (Builtin.zeroCells z.cells n++Builtin.zeroCells z.cells (grownCap w n 0 e - n)).toList::Γ) (w.drew.alloc (.cells (Builtin.zeroCells z.cells n++Builtin.zeroCells z.cells (grownCap w n 0 e - n)) e (0,0))):=by
  have : (Builtin.zeroCells z.cells n++Builtin.zeroCells z.cells (grownCap w n 0 e - n)).toList.toArray = (Builtin.zeroCells z.cells n++Builtin.zeroCells z.cells (grownCap w n 0 e - n)):=Q2
  rw [this] at h5
  exact h5
 refine St.own_acc2 h6 (by rw [Array.length_toList,size_zeroCells,hzs]) ?_ ?_ hc1 hc2
 ·rw [Array.toList_append,List.length_append,Array.length_toList,Array.length_toList,size_zeroCells,size_zeroCells,hzs,<-Nat.add_mul]
  congr 1
  omega
 ·rw [Array.toList_append,List.take_append_of_le_length (by rw [Array.length_toList,size_zeroCells,hzs];exact Nat.le_refl _),List.take_of_length_le (by rw [Array.length_toList,size_zeroCells,hzs];exact Nat.le_refl _)]
theorem RL.appendZeros {P : Program} {n : Nat} {w0 : World} {ops : Array Oper} {rest : List Oper} {L : Lm} {M : Mem} {Γ : List As} {K : Lm->Mem->List As->Prop} {ty : TypeId} {pos : String} {af : Array Edge} {d : Nat} {t tn e sz bytes : Nat} {kn : IntKind} {x y : Operand} {z : Int} (k : Nat)
  (hE : ElemOk P t e sz bytes) (htn : P.underlying tn = some (.int kn)) (hx : evL L x = some (.slice none 0 0)) (hy : evL L y = some (.int .i64 z)) (hz : z = (k : Int)) (h0 : 0 < k) (hb : k * bytes<=140737488355328) (hm : k<=lim) (hd : Nat.blt d n = true)
  (h : ∀ b c us,us.length = k * sz->k<=c->RL P n w0 ops rest ((d,.slice (some ⟨b,0,none⟩) k c)::L) M (.acc (.slice (some ⟨b,0,none⟩) k c) e sz k us::Γ) K) : RL P n w0 ops (⟨some d,.call ⟨.builtin .append,#[x,y],#[t,tn]⟩,ty,pos,af,none⟩::rest) L M Γ K:=by
 subst hz
 refine RL.e (fun v M' Γ'=>∃ b c us,v = .slice (some ⟨b,0,none⟩) k c/\us.length = k * sz/\k<=c/\M' = M/\Γ' = .acc v e sz k us::Γ) (fun n a w ha hw=>?_) hd ?_
 ·obtain ⟨b,c,us,w',h1,h2,h3,h4⟩:=append_zeros (P:=P) (ty:=ty) hE htn hw h0 hb hm
  refine ⟨_,w',M,_,?_,⟨b,c,us,rfl,h2,h3,rfl,rfl⟩,h4⟩
  simp [execOp,resolve,invoke,Go.builtin,ha.ev hx,ha.ev hy,h1]
 ·rintro v M' Γ' ⟨b,c,us,rfl,h2,h3,rfl,rfl⟩
  exact h b c us h2 h3
section
variable {P : Program} {w0 : World} {L : Lm} {M : Mem} {Γ : List As} {d : Option Nat} {ty : TypeId} {pos : String} {af : Array Edge} {g : Option (Nat×Bool)}
theorem Y.cap {x : Operand} {t : TypeId} {a : Option Addr} {k c : Nat} {e : Nat} (hx : evL L x = some (.slice a k c)) (ht : P.underlying t = some (.slice e)) :
  Yq P w0 L M Γ ⟨d,.call ⟨.builtin .cap,#[x],#[t]⟩,ty,pos,af,g⟩ (.int .i64 (c : Int)):=fun n a w ha _=>by
 simp [execOp,resolve,invoke,Go.builtin,Builtin.cap_,ha.ev hx,run_underlying ht,goInt]
end
end Xe

namespace Xe
open Go

section
variable {P : Program} {n : Nat} {w0 : World} {ops : Array Oper} {rest : List Oper} {L : Lm} {M : Mem} {Γ : List As}
end
def byteB (P : Program) (src dst : TypeId) : Bool:=match P.underlying src,P.underlying dst with
 | some (.slice e),some .string=>match P.underlying e with
  | some (.int .u8)=>true
  | _=>false
 | _,_=>false
section
variable {P : Program} {w0 : World} {L : Lm} {M : Mem} {Γ : List As} {d : Option Nat} {ty : TypeId} {pos : String} {af : Array Edge} {g : Option (Nat×Bool)}
theorem toList_ne {s t : ByteArray} (h : ¬ s = t) : ¬ s.toList = t.toList:=fun e=>h (by
 rw [ByteArray.toList_eq,ByteArray.toList_eq] at e
 exact ByteArray.ext (Array.toList_inj.mp e))
namespace Y
theorem eqlS {x y : Operand} {s t : ByteArray} {u : TypeId} (hx : evL L x = some (.string s)) (hy : evL L y = some (.string t)) :
  Yq P w0 L M Γ ⟨d,.binOp .eql u x y u,ty,pos,af,g⟩ (.bool (decide (s = t))):=fun n a w ha _=>by
 simp [execOp,ha.ev hx,ha.ev hy,eqGuard,Go.binOp,Op.stringOp]
 by_cases h : s = t
 ·simp [h]
 ·simp [h,toList_ne h]
theorem neqS {x y : Operand} {s t : ByteArray} {u : TypeId} (hx : evL L x = some (.string s)) (hy : evL L y = some (.string t)) :
  Yq P w0 L M Γ ⟨d,.binOp .neq u x y u,ty,pos,af,g⟩ (.bool (decide (s ≠ t))):=fun n a w ha _=>by
 simp [execOp,ha.ev hx,ha.ev hy,eqGuard,Go.binOp,Op.stringOp]
 by_cases h : s = t
 ·simp [h]
 ·simp [h,toList_ne h]
end Y
end
end Xe

namespace Xe
open Go

section
variable {P : Program} {ops : Array Oper} {Q : Exit->Act->World->Prop} {md : Region.Mode} {S : World->Prop} {fin : Nat}
end
section
variable {fin : Nat} {P : Program} {n : Nat} {w0 : World} {ops : Array Oper} {Mc : Mem} {Γc : List As} {fuel : Nat} {listed : Array Bool} {L : Lm} {M : Mem} {Γ : List As} {K : Lm->Mem->List As->Prop}
end
def strB (P : Program) (t : TypeId) (tys : List TypeId) : Bool:=match P.underlying t with
 | some (.struct fs)=>contigB P 0 fs.toList (P.cellsOf t) && decide (fs.toList.map (·.type) = tys)
 | _=>false
def slcB (P : Program) (t e sz : Nat) : Bool:=match P.underlying t with
 | some (.slice e')=>Nat.beq e' e && Nat.beq (P.cellsOf e) sz
 | _=>false
section
variable {P : Program} {n : Nat} {t : TypeId} {ds : List D}
theorem WT.elems {e sz : Nat} (h : WT P n t ds) (hs : slcB P t e sz = true) : ∃ m,n = m+1/\∃ els : List (List D),ds = [.sl els.length sz els.flatten]/\els.length<=lim/\∀ x∈els,WT P m e x:=by
 cases n with
 | zero=>exact h.elim
 | succ m =>
  unfold slcB at hs
  split at hs
  ·rename_i e' hu
   rw [Bool.and_eq_true] at hs
   obtain rfl:=Nat.eq_of_beq_eq_true hs.1
   obtain rfl:=Nat.eq_of_beq_eq_true hs.2
   simp only [WT,hu] at h
   exact ⟨m,rfl,h⟩
  ·cases hs
theorem WT.int (h : WT P n t ds) (hs : Y.intB P t .i64 = true) : ∃ z,ds = [dint z]/\InI z:=by
 have hu:=Y.intB_spec hs
 cases n with
 | zero=>exact h.elim
 | succ m =>
  simp only [WT,hu] at h
  obtain ⟨z,rfl,hz⟩:=h
  exact ⟨z,rfl,inI_of hz⟩
end
theorem elems_of {α : Type} {enc : α->List D} {Q : α->Prop} : ∀ {els : List (List D)},(∀ x∈els,∃ a,x = enc a/\Q a)->∃ l : List α,els.length = l.length/\els.flatten = l.flatMap enc/\∀ a∈l,Q a
 | [],_=>⟨[],rfl,rfl,fun a h=>by cases h⟩
 | x::xs,h=>by
  obtain ⟨a,rfl,hq⟩:=h x (List.mem_cons_self ..)
  obtain ⟨l,h1,h2,h3⟩:=elems_of fun y hy=>h y (List.mem_cons_of_mem _ hy)
  refine ⟨a::l,by simp [h1],by simp [h2],fun b hb=>?_⟩
  rcases List.mem_cons.1 hb with rfl | hb
  ·exact hq
  ·exact h3 b hb
theorem run_storeCells_acc {P : Program} {w0 : World} {M : Mem} {Γ : List As} {a : Option Addr} {n c e sz q : Nat} : ∀ (vs : List Value) (i : Nat) (w : World) (us : List Value),St w0 M (.acc (.slice a n c) e sz n us::Γ) w->q+i+vs.length<=us.length->(∀ v∈vs,v.oneCell' = true) ->
  ∃ w',(storeCells (adr a q) vs i).run P w = .ok () w'/\St w0 M (.acc (.slice a n c) e sz n (us.take (q+i)++vs++us.drop (q+i+vs.length))::Γ) w'
 | [],i,w,us,hw,_,_=>⟨w,by simp [storeCells],by simpa using hw⟩
 | v::vs,i,w,us,hw,hl,h1=>by
  simp only [List.length_cons] at hl
  obtain ⟨k1,k2,k3⟩:=hw.setAcc (q:=q+i) (v:=v) Q0
  obtain ⟨w',r1,r2⟩:=run_storeCells_acc (q:=q) vs (i+1) _ _ k1 Qc (fun x hx=>h1 x (List.mem_cons_of_mem _ hx))
  have h3 : (Go.store ((adr a q).add i) v).run P w = .ok () (w.setCell (adr a (q+i)) v):=by
   rw [adr_add,run_store P w _ v _ (h1 v (List.mem_cons_self ..))]
   cases hc : w.cell? (adr a (q+i)) with
   | none=>rw [hc] at k2;cases k2
   | some z=>simp [k3]
  refine ⟨w',by simp [storeCells,h3];exact r1,?_⟩
  have he : (us.set (q+i) v).take (q+(i+1))++vs++(us.set (q+i) v).drop (q+(i+1)+vs.length) = us.take (q+i)++v::vs++us.drop (q+i+(v::vs).length):=by
   have hk : q+i < us.length:=Q0
   have e1 : (us.set (q+i) v).take (q+(i+1)) = us.take (q+i)++[v]:=by
    rw [<-Nat.add_assoc,List.take_succ_eq_append_getElem (by simpa using hk),List.take_set,List.set_eq_of_length_le (by rw [List.length_take];omega),List.getElem_set_self]
   have e2 : (us.set (q+i) v).drop (q+(i+1)+vs.length) = us.drop (q+i+(v::vs).length):=by
    rw [List.drop_set,if_pos Q0]
    congr 1
    simp only [List.length_cons];omega
   rw [e1,e2]
   simp
  rw [he] at r2
  exact r2
def Mem.rem (M : Mem) (b : Nat) : Mem:=fun k=>if k = b then none else M k
section
variable {P : Program} {n : Nat} {w0 : World} {c : Code} {X : Pst} {L : Lm} {M : Mem} {Γ : List As}
end
open Go Go.ChangeShapes Go.WideShapes Go.RowKit
theorem law_liftedT {H : Type} {enc : TypeId×Value->H} {C : Checked} {os : Os} {f : FuncId} {fn : Func} {s : ChangeSpec} {tb : TypeId} {fresh handsOn again : Bool} {laid : List (String×DataW Unit)} {F : Stop.Interp} (ts0 : List TypeId) (own : ownKnob C.prog.godebug = none) (started : os.Started) (noInit : C.prog.inits.idxOf? f = none) (hfn : C.prog.funcs[f]? = some fn)
  (hcl : closedB C.prog ts0 = true) (hl : laidOutB C.prog = true) (htb : C.prog.underlying tb = some .bool)
  (hts : (fn.params.toList.all fun t=>ts0.contains t && C.prog.readableRec t && Nat.blt t C.prog.types.size) = true) (hres : fn.resultTypes = #[tb]) (hvars : s.vars = []) (hspec : ∀ ds : List (DataW H),ds.length = fn.params.toList.length->s.fn H ds = { results:=[.lit (.bool true)],args:=ds,vars:=[] })
  (witness : ∃ (w : World) (tape : Tape) (i : Input),w.os = os/\(w.forCall tape i).Shaped C.prog/\i.vars = []/\Input.okWide C.prog (w.forCall tape i) .any w.heap.size f i /\
   (OpenSpec.ofChange s).preRow enc C.prog fn [] false laid (w.forCall tape i).memory i.args/\Assume.holds {} C.prog (lone (Frame.enter C.prog f i.args .normal) [] (w.forCall tape i)))
  (contract : ∀ (W : World) (vs : List Value),laidMetH C.prog laid W->ArgsW C.prog (memOf W) fn.params.toList vs->CallOk C.prog W (memOf W) [] f vs.toArray (Is (memOf W) [] (.bool true))) :
  ReturnsInHanded {} C os f .any ((OpenSpec.ofChange s).preRow enc C.prog fn [] false laid) (((OpenSpec.ofChange s).at F).post enc C.prog fn false fresh handsOn again):=by
 refine returnsInHanded_of_row (C:=C) (s:=OpenSpec.ofChange s) own started noInit hfn witness ?_
 intro W base args ds gs before hval hW _ _ hsz hL _ _
 exact law_core bulk_sizeOf (ds.map SizeOf.sizeOf).sum ts0 hcl hl htb hts hres hvars hspec hval hW hsz (fun d hd=>le_sum SizeOf.sizeOf hd) fun vs h=>contract W vs hL h.toW
inductive Val where
 | mk (kind n : Int) (kids : List Val)
 deriving Inhabited
def Val.kind : Val->Int | .mk k _ _=>k
def Val.n : Val->Int | .mk _ n _=>n
def Val.kids : Val->List Val | .mk _ _ l=>l
mutual
def Val.enc : Val->List D
 | .mk k n l=>[dint k,dint n,.sl l.length 3 (Val.encs l)]
def Val.encs : List Val->List D
 | []=>[]
 | t::ts=>t.enc++Val.encs ts
end
theorem Val.encs_eq : ∀ l : List Val,Val.encs l = l.flatMap Val.enc
 | []=>by simp [Val.encs]
 | t::ts=>by rw [Val.encs,Val.encs_eq ts,List.flatMap_cons]
theorem Val.enc_eq (t : Val) : t.enc = [dint t.kind,dint t.n,.sl t.kids.length 3 (t.kids.flatMap Val.enc)]:=by
 cases t;rw [Val.enc,Val.encs_eq];rfl
theorem Val.enc_len (t : Val) : t.enc.length = 3:=by rw [Val.enc_eq];rfl
mutual
def Val.size : Val->Nat
 | .mk _ _ l=>1+Val.sizes l
def Val.sizes : List Val->Nat
 | []=>0
 | t::ts=>t.size+Val.sizes ts
end
theorem Val.size_eq (e : Val) : e.size = 1+Val.sizes e.kids:=by cases e;rw [Val.size];rfl
theorem Val.size_pos (e : Val) : 0 < e.size:=by rw [Val.size_eq];omega
theorem Val.size_mem : ∀ {l : List Val} {t : Val},t∈l->t.size<=Val.sizes l
 | x::xs,t,h=>by
  rw [Val.sizes]
  rcases List.mem_cons.1 h with rfl | h
  ·omega
  ·have:=Val.size_mem h;omega
theorem Val.size_kid {t k : Val} (h : k∈t.kids) : k.size < t.size:=by
 have:=Val.size_mem h;rw [Val.size_eq t];omega
theorem Val.sizes_append : ∀ (l m : List Val),Val.sizes (l++m) = Val.sizes l+Val.sizes m
 | [],m=>by simp [Val.sizes]
 | x::xs,m=>by have:=Val.sizes_append xs m;simp only [List.cons_append,Val.sizes];omega
theorem Val.sizes_take : ∀ (l : List Val) (k : Nat),Val.sizes (l.take k)<=Val.sizes l
 | [],k=>by simp
 | x::xs,0=>by simp [Val.sizes]
 | x::xs,k+1=>by have:=Val.sizes_take xs k;simp only [List.take_succ_cons,Val.sizes];omega
theorem Val.sizes_succ (l : List Val) (k : Nat) (h : k < l.length) : Val.sizes (l.take (k+1)) = Val.sizes (l.take k)+l[k].size:=by
 rw [List.take_succ_eq_append_getElem h,Val.sizes_append];simp [Val.sizes]
theorem Val.rec' {p : Val->Prop} (h : ∀ v,(∀ k∈v.kids,p k)->p v) (v : Val) : p v:=by
 have : ∀ (n : Nat) (v : Val),v.size = n->p v:=by
  intro n
  induction n using Nat.strongRecOn with
  | _ n ih=>exact fun v hv=>h v fun k hk=>ih k.size (by rw [<-hv];exact Val.size_kid hk) k rfl
 exact this _ v rfl
inductive Val.Ok : Val->Prop
 | mk {v : Val} : InI v.kind->InI v.n->(∀ k∈v.kids,Val.Ok k)->Val.Ok v
theorem Val.Ok.kind {v : Val} (h : v.Ok) : InI v.kind:=by cases h with | mk a b c=>exact a
theorem Val.Ok.n {v : Val} (h : v.Ok) : InI v.n:=by cases h with | mk a b c=>exact b
theorem Val.Ok.kid {v k : Val} (h : v.Ok) (hk : k∈v.kids) : k.Ok:=by cases h with | mk a b c=>exact c k hk

structure SlotT where
 id : IdT
 name : ByteArray
 ty : Ty
 most : Int
 place : Int
 deriving Inhabited
def SlotT.enc (s : SlotT) : List D:=[dint s.id.shop,dint s.id.seq,dint s.id.index,dstr s.name,dint s.ty.kind,dint s.ty.df.shop,dint s.ty.df.seq,dint s.ty.df.index,.sl s.ty.kids.length 5 (s.ty.kids.flatMap Ty.enc),dint s.most,dint s.place]
theorem SlotT.enc_len (s : SlotT) : s.enc.length = 11:=rfl
structure DefT where
 id : IdT
 kind : Int
 mod : IdT
 name : ByteArray
 slots : List SlotT
 result : Ty
 body : Ex
 place : Int
 layout : List ByteArray
 deriving Inhabited
def DefT.enc (s : DefT) : List D:=[dint s.id.shop,dint s.id.seq,dint s.id.index,dint s.kind,dint s.mod.shop,dint s.mod.seq,dint s.mod.index,dstr s.name,.sl s.slots.length 11 (s.slots.flatMap SlotT.enc),
 dint s.result.kind,dint s.result.df.shop,dint s.result.df.seq,dint s.result.df.index,.sl s.result.kids.length 5 (s.result.kids.flatMap Ty.enc),
 dint s.body.id.shop,dint s.body.id.seq,dint s.body.id.index,dint s.body.kind,dint s.body.n,dint s.body.ref.shop,dint s.body.ref.seq,dint s.body.ref.index,dint s.body.ty.kind,dint s.body.ty.df.shop,dint s.body.ty.df.seq,dint s.body.ty.df.index,
  .sl s.body.ty.kids.length 5 (s.body.ty.kids.flatMap Ty.enc),.sl s.body.kids.length 15 (s.body.kids.flatMap Ex.enc),.sl s.body.names.length 1 (s.body.names.map dstr),
 dint s.place,.sl s.layout.length 1 (s.layout.map dstr)]
theorem DefT.enc_len (s : DefT) : s.enc.length = 31:=rfl
structure ModT where
 id : IdT
 name : ByteArray
 uses : List IdT
 defs : List IdT
 deriving Inhabited
def ModT.enc (m : ModT) : List D:=[dint m.id.shop,dint m.id.seq,dint m.id.index,dstr m.name,.sl m.uses.length 3 (m.uses.flatMap IdT.enc),.sl m.defs.length 3 (m.defs.flatMap IdT.enc)]
structure ProgT where
 mods : List ModT
 defs : List DefT
 deriving Inhabited
def ProgT.enc (p : ProgT) : List D:=[.sl p.mods.length 6 (p.mods.flatMap ModT.enc),.sl p.defs.length 31 (p.defs.flatMap DefT.enc)]
theorem IdT.ext' {a b : IdT} (h1 : a.shop = b.shop) (h2 : a.seq = b.seq) (h3 : a.index = b.index) : a = b:=by cases a;cases b;simp only at h1 h2 h3;rw [h1,h2,h3]

section
variable {w0 : World} {M : Mem} {Γ : List As}
theorem Kn.val {t : Val} {us : List Value} (h : As.rds [dint t.kind,dint t.n,.sl t.kids.length 3 (t.kids.flatMap Val.enc)] us∈Γ) : Kn w0 M Γ (RdL M t.enc us):=by rw [Val.enc_eq];exact Kn.rds h
end
theorem EL {ds : List D} {n : Nat} (h : ds.length = n:=by first | rfl | exact Ty.enc_len _ | exact Val.enc_len _ | exact SlotT.enc_len _ | exact DefT.enc_len _ | exact ModT.enc_len _ | exact ProgT.enc_len _ | exact IdT.enc_len _ | exact Ex.enc_len _) : ds.length = n:=h
theorem KK {w0 : World} {M : Mem} {Γ : List As} {F : Prop} (h : Kn w0 M Γ F:=by first | exact Kn.rds MM | exact Kn.ty MM | exact Kn.val MM | exact Kn.ex MM | exact Kn.rd MM) : Kn w0 M Γ F:=h
def ex0 : Ex:=.mk id0 0 0 id0 ty0 [] []
def def0 : DefT:=⟨id0,0,id0,ByteArray.empty,[],ty0,ex0,0,[]⟩
def hasDef (p : ProgT) (id : IdT) : Prop:=∃ d∈p.defs,d.id = id
instance (p : ProgT) (id : IdT) : Decidable (hasDef p id):=by unfold hasDef;exact inferInstance
def theDef (p : ProgT) (id : IdT) : DefT:=(p.defs.find? fun d=>decide (d.id = id)).getD def0
theorem theDef_hit {p : ProgT} {id : IdT} {k : Nat} (h : k < p.defs.length) (h1 : ∀ j (hj : j < p.defs.length),j < k->p.defs[j].id ≠ id) (h2 : p.defs[k].id = id) : hasDef p id/\theDef p id = p.defs[k]:=by
 refine ⟨⟨_,List.getElem_mem h,h2⟩,?_⟩
 have : p.defs.find? (fun d=>decide (d.id = id)) = some p.defs[k]:=by
  rw [List.find?_eq_some_iff_getElem]
  exact ⟨by simpa using h2,k,h,rfl,fun j hj=>by simpa using h1 j Q0 hj⟩
 rw [theDef,this];rfl
theorem theDef_miss {p : ProgT} {id : IdT} (h1 : ∀ j (hj : j < p.defs.length),p.defs[j].id ≠ id) : ¬ hasDef p id/\theDef p id = def0:=by
 have hn : ¬ hasDef p id:=by
  rintro ⟨d,hd,he⟩
  obtain ⟨j,hj,rfl⟩:=List.mem_iff_getElem.1 hd
  exact h1 j hj he
 refine ⟨hn,?_⟩
 have : p.defs.find? (fun d=>decide (d.id = id)) = none:=by
  rw [List.find?_eq_none]
  intro d hd
  simpa using fun e=>hn ⟨d,hd,e⟩
 rw [theDef,this];rfl
def isTyDef (p : ProgT) (id : IdT) : Prop:=hasDef p id/\((theDef p id).kind = 0\/(theDef p id).kind = 1)
instance (p : ProgT) (id : IdT) : Decidable (isTyDef p id):=by unfold isTyDef;exact inferInstance
def validTF (p : ProgT) : Nat->Ty->Bool
 | 0,_=>false
 | n+1,t=>if t.kind = 2 then decide (t.df = id0) && (match t.kids with | [x]=>validTF p n x | _=>false)
  else t.kids.isEmpty && (if t.kind = 3 then decide (isTyDef p t.df) else decide (t.df = id0) && decide (t.kind = 0\/t.kind = 1))
def validT (p : ProgT) (t : Ty) : Prop:=validTF p 24 t = true
instance (p : ProgT) (t : Ty) : Decidable (validT p t):=by unfold validT;exact inferInstance
theorem validTF_list {p : ProgT} {n : Nat} {t : Ty} (hk : t.kind = 2) : validTF p (n+1) t = true↔t.df = id0/\∃ y,t.kids = [y]/\validTF p n y = true:=by
 rw [validTF,if_pos hk,Bool.and_eq_true,decide_eq_true_eq]
 refine and_congr_right fun _=>?_
 split
 ·rename_i x hx;rw [hx];simp
 ·rename_i x hx;simp;exact fun y e=>absurd e (hx y)
theorem validTF_kid {p : ProgT} {n : Nat} {t : Ty} (hk : t.kind = 2) (h1 : t.df = id0) (h2 : t.kids.length = 1) : validTF p (n+1) t = true↔validTF p n (t.kids[0]'Q0) = true:=by
 rw [validTF_list hk]
 have e : t.kids = [t.kids[0]'Q0]:=by
  apply List.ext_getElem
  ·simp [h2]
  ·intro i h3 h4;have : i = 0:=by simp at h4;omega
   subst this;rfl
 constructor
 ·rintro ⟨_,y,h,hv⟩;simp only [h];exact hv
 ·exact fun hv=>⟨h1,_,e,hv⟩
theorem validTF_kids {p : ProgT} {n : Nat} {t : Ty} (hk : t.kind = 2) (h : validTF p (n+1) t = true) : t.df = id0/\t.kids.length = 1:=by
 obtain ⟨h1,y,h2,_⟩:=(validTF_list hk).1 h
 exact ⟨h1,by simp [h2]⟩
theorem validTF_def {p : ProgT} {n : Nat} {t : Ty} (hk : t.kind = 3) : validTF p (n+1) t = true↔isTyDef p t.df/\t.kids.length = 0:=by
 rw [validTF,if_neg Q0,if_pos hk,Bool.and_eq_true,decide_eq_true_eq,List.isEmpty_iff,and_comm,List.length_eq_zero_iff]
theorem validTF_one {p : ProgT} {n : Nat} {t : Ty} (hk : t.kind ≠ 2) (hk3 : t.kind ≠ 3) : validTF p (n+1) t = true↔t.kids.length = 0/\t.df = id0/\(t.kind = 0\/t.kind = 1):=by
 rw [validTF,if_neg hk,if_neg hk3,Bool.and_eq_true,Bool.and_eq_true,decide_eq_true_eq,decide_eq_true_eq,List.isEmpty_iff,List.length_eq_zero_iff]

mutual
def Val.wt : Val->Int
 | .mk k n l=>if k = 0 then (if n < 0 then -n else n) else if k = 1 then n else if k = 2 then Val.wts l else if k = 3 then n+Val.wts l else if k = 4 then l.length+Val.wts l else 0
def Val.wts : List Val->Int
 | []=>0
 | v::vs=>v.wt+Val.wts vs
end
def Val.own (v : Val) : Int:=if v.kind = 0 then (if v.n < 0 then -v.n else v.n) else if v.kind = 1 then v.n else if v.kind = 2 then 0 else if v.kind = 3 then v.n else v.kids.length
mutual
def Val.depth : Val->Nat
 | .mk _ _ l=>Val.depths l+1
def Val.depths : List Val->Nat
 | []=>0
 | v::vs=>max v.depth (Val.depths vs)
end
theorem Val.depth_eq (v : Val) : v.depth = Val.depths v.kids+1:=by cases v;rw [Val.depth];rfl
theorem Val.depths_append : ∀ (l m : List Val),Val.depths (l++m) = max (Val.depths l) (Val.depths m)
 | [],m=>by simp [Val.depths]
 | x::xs,m=>by have:=Val.depths_append xs m;simp only [List.cons_append,Val.depths];omega
theorem Val.depths_succ (l : List Val) (k : Nat) (h : k < l.length) : Val.depths (l.take (k+1)) = max (Val.depths (l.take k)) l[k].depth:=by
 rw [List.take_succ_eq_append_getElem h,Val.depths_append];simp [Val.depths]
theorem Val.depth_mem : ∀ {l : List Val} {t : Val},t∈l->t.depth<=Val.depths l
 | x::xs,t,h=>by
  rw [Val.depths]
  rcases List.mem_cons.1 h with rfl | h
  ·omega
  ·have:=Val.depth_mem h;omega
theorem Val.depth_kid {t k : Val} (h : k∈t.kids) : k.depth < t.depth:=by
 have:=Val.depth_mem h;rw [Val.depth_eq t];omega
def cmpI (a b : Int) : Int:=if a < b then -1 else if b < a then 1 else 0
mutual
def cmpV : Val->Val->Int
 | .mk k n l,.mk k' n' l'=>if cmpI k k' ≠ 0 then cmpI k k' else if cmpI n n' ≠ 0 then cmpI n n' else if cmpI l.length l'.length ≠ 0 then cmpI l.length l'.length else cmpVs l l'
def cmpVs : List Val->List Val->Int
 | [],[]=>0
 | [],_::_=>-1
 | _::_,[]=>1
 | x::xs,y::ys=>if cmpV x y ≠ 0 then cmpV x y else cmpVs xs ys
end
theorem cmpV_eq (a b : Val) : cmpV a b = if cmpI a.kind b.kind ≠ 0 then cmpI a.kind b.kind else if cmpI a.n b.n ≠ 0 then cmpI a.n b.n else if cmpI a.kids.length b.kids.length ≠ 0 then cmpI a.kids.length b.kids.length else cmpVs a.kids b.kids:=by
 cases a;cases b;rw [cmpV];rfl
theorem cmpVs_hit : ∀ {l m : List Val} {k : Nat} (h : k < l.length) (h' : k < m.length),(∀ j (hj : j < l.length) (hj' : j < m.length),j < k->cmpV l[j] m[j] = 0)->cmpV l[k] m[k] ≠ 0->cmpVs l m = cmpV l[k] m[k]
 | x::xs,y::ys,0,_,_,_,hn=>by rw [cmpVs];simp only [List.getElem_cons_zero] at hn ⊢;rw [if_pos hn]
 | x::xs,y::ys,k+1,h,h',hz,hn=>by
  have h0:=hz 0 Q2 Q2 Q0
  simp only [List.getElem_cons_zero] at h0
  rw [cmpVs,if_neg (by simp [h0])]
  exact cmpVs_hit (by simpa using h) (by simpa using h') (fun j hj hj' hlt=>hz (j+1) (Nat.succ_lt_succ hj) (Nat.succ_lt_succ hj') Q0) hn
theorem cmpVs_zero : ∀ {l m : List Val},l.length = m.length->(∀ j (hj : j < l.length) (hj' : j < m.length),cmpV l[j] m[j] = 0)->cmpVs l m = 0
 | [],[],_,_=>by rw [cmpVs]
 | x::xs,y::ys,hl,hz=>by
  have h0:=hz 0 Q2 Q2
  simp only [List.getElem_cons_zero] at h0
  rw [cmpVs,if_neg (by simp [h0])]
  exact cmpVs_zero (by simpa using hl) (fun j hj hj'=>hz (j+1) (Nat.succ_lt_succ hj) (Nat.succ_lt_succ hj'))
theorem cmpI_self (a : Int) : cmpI a a = 0:=by unfold cmpI;rw [if_neg Q0,if_neg Q0]
mutual
def visitV : Val->Int->Int->Bool×Int
 | .mk _ _ l,d,s=>if 0<=s - 1/\d<=24 then visitVs l (d+1) (s - 1) else (false,s - 1)
def visitVs : List Val->Int->Int->Bool×Int
 | [],_,s=>(true,s)
 | v::vs,d,s=>if (visitV v d s).1 then visitVs vs d (visitV v d s).2 else (false,(visitV v d s).2)
end
def smallV (v : Val) : Prop:=(visitV v 1 256).1 = true
instance (v : Val) : Decidable (smallV v):=by unfold smallV;exact inferInstance

mutual
def fitsB (p : ProgT) : Val->Ty->Bool
 | .mk k n l,t=>decide (validT p t) && (if t.kind = 0 then decide (k = 0) && l.isEmpty && decide (-1099511627776<=n/\n<=1099511627776)
  else if t.kind = 1 then decide (k = 1) && l.isEmpty && decide (n = 0\/n = 1)
  else if t.kind = 2 then decide (k = 4) && decide (n = 0) && fitsL p l (t.kids.headD ty0)
  else if (theDef p t.df).kind = 1 then decide (k = 3) && decide (0<=n/\n < (theDef p t.df).slots.length) && decide (l.length = 1) && fitsL p l (((theDef p t.df).slots.map SlotT.ty).getD n.toNat ty0)
  else decide (k = 2) && decide (n = 0) && decide (l.length = (theDef p t.df).slots.length) && fitsZ p l ((theDef p t.df).slots.map SlotT.ty))
def fitsL (p : ProgT) : List Val->Ty->Bool
 | [],_=>true
 | v::vs,t=>fitsB p v t && fitsL p vs t
def fitsZ (p : ProgT) : List Val->List Ty->Bool
 | [],_=>true
 | _::_,[]=>false
 | v::vs,t::ts=>fitsB p v t && fitsZ p vs ts
end
theorem fitsB_eq (p : ProgT) (v : Val) (t : Ty) : fitsB p v t = (decide (validT p t) && (if t.kind = 0 then decide (v.kind = 0) && v.kids.isEmpty && decide (-1099511627776<=v.n/\v.n<=1099511627776)
  else if t.kind = 1 then decide (v.kind = 1) && v.kids.isEmpty && decide (v.n = 0\/v.n = 1)
  else if t.kind = 2 then decide (v.kind = 4) && decide (v.n = 0) && fitsL p v.kids (t.kids.headD ty0)
  else if (theDef p t.df).kind = 1 then decide (v.kind = 3) && decide (0<=v.n/\v.n < (theDef p t.df).slots.length) && decide (v.kids.length = 1) && fitsL p v.kids (((theDef p t.df).slots.map SlotT.ty).getD v.n.toNat ty0)
  else decide (v.kind = 2) && decide (v.n = 0) && decide (v.kids.length = (theDef p t.df).slots.length) && fitsZ p v.kids ((theDef p t.df).slots.map SlotT.ty))):=by
 cases v;rw [fitsB];rfl
theorem fitsL_all : ∀ {p : ProgT} {l : List Val} {t : Ty},fitsL p l t = true↔∀ j (hj : j < l.length),fitsB p l[j] t = true
 | p,[],t=>by simp [fitsL]
 | p,v::vs,t=>by
  rw [fitsL,Bool.and_eq_true,fitsL_all]
  constructor
  ·rintro ⟨h1,h2⟩ j hj
   cases j with
   | zero=>exact h1
   | succ j=>exact h2 j (by simpa using hj)
  ·exact fun h=>⟨h 0 Q2,fun j hj=>h (j+1) (Nat.succ_lt_succ hj)⟩
theorem fits0 {p : ProgT} {v : Val} {t : Ty} (h : validT p t) (hk : t.kind = 0) : fitsB p v t = true↔v.kind = 0/\v.kids.length = 0/\-1099511627776<=v.n/\v.n<=1099511627776:=by
 rw [fitsB_eq,if_pos hk];simp [h,and_assoc]
theorem fits1 {p : ProgT} {v : Val} {t : Ty} (h : validT p t) (hk : t.kind = 1) : fitsB p v t = true↔v.kind = 1/\v.kids.length = 0/\(v.n = 0\/v.n = 1):=by
 rw [fitsB_eq,if_neg Q0,if_pos hk];simp [h,and_assoc]
theorem fits2 {p : ProgT} {v : Val} {t : Ty} (h : validT p t) (hk : t.kind = 2) : fitsB p v t = true↔v.kind = 4/\v.n = 0/\∀ j (hj : j < v.kids.length),fitsB p v.kids[j] (t.kids.headD ty0) = true:=by
 rw [fitsB_eq,if_neg Q0,if_neg Q0,if_pos hk,<-fitsL_all];simp [h,and_assoc]
theorem fitsL_one {p : ProgT} {l : List Val} {t : Ty} (h : l.length = 1) : fitsL p l t = fitsB p (l[0]'Q0) t:=by
 match l,h with
 | [x],_=>simp [fitsL]
theorem getD_map {l : List SlotT} {n : Nat} (h : n < l.length) : (l.map SlotT.ty).getD n ty0 = l[n].ty:=by simp [h]
theorem fits3c {p : ProgT} {v : Val} {t : Ty} (h : validT p t) (hk0 : t.kind ≠ 0) (hk1 : t.kind ≠ 1) (hk2 : t.kind ≠ 2) (hd : (theDef p t.df).kind = 1) :
  fitsB p v t = true↔v.kind = 3/\(0<=v.n/\v.n < (theDef p t.df).slots.length)/\v.kids.length = 1/\fitsL p v.kids (((theDef p t.df).slots.map SlotT.ty).getD v.n.toNat ty0) = true:=by
 rw [fitsB_eq,if_neg hk0,if_neg hk1,if_neg hk2,if_pos hd];simp [h,and_assoc]
theorem fits3k {p : ProgT} {v : Val} {t : Ty} (h : validT p t) (hk0 : t.kind ≠ 0) (hk1 : t.kind ≠ 1) (hk2 : t.kind ≠ 2) (hd : (theDef p t.df).kind = 1) (h1 : v.kind = 3) (h2 : 0<=v.n) (h3 : v.n.toNat < (theDef p t.df).slots.length) (h4 : v.kids.length = 1) :
  fitsB p v t = true↔fitsB p (v.kids[0]'Q0) ((theDef p t.df).slots[v.n.toNat]).ty = true:=by
 rw [fits3c h hk0 hk1 hk2 hd,fitsL_one h4,getD_map h3]
 exact ⟨fun hh=>hh.2.2.2,fun hh=>⟨h1,⟨h2,Q0⟩,h4,hh⟩⟩
def validV (p : ProgT) (t : Ty) (v : Val) : Prop:=smallV v/\fitsB p v t = true
instance (p : ProgT) (t : Ty) (v : Val) : Decidable (validV p t v):=by unfold validV;exact inferInstance

def v0 : Val:=.mk 0 0 []
abbrev ZR:=Val×Int×Int
def zeroL (g : Ty->Int->ZR) : List Ty->Int->List Val×Int×Int
 | [],l=>([],0,l)
 | t::ts,l=>if (g t l).2.1 ≠ 0 then ([],(g t l).2.1,(g t l).2.2)
  else if (zeroL g ts (g t l).2.2).2.1 ≠ 0 then ([],(zeroL g ts (g t l).2.2).2.1,(zeroL g ts (g t l).2.2).2.2)
  else ((g t l).1::(zeroL g ts (g t l).2.2).1,0,(zeroL g ts (g t l).2.2).2.2)
def zNode (k : Int) (r : List Val×Int×Int) : ZR:=if r.2.1 ≠ 0 then (v0,r.2.1,r.2.2) else (.mk k 0 r.1,0,r.2.2)
def zeroF (p : ProgT) : Nat->Ty->Int->ZR
 | 0,t,l=>if ¬ validT p t then (v0,1,l) else (v0,4,l - 1)
 | n+1,t,l=>if ¬ validT p t then (v0,1,l) else if l - 1 < 0 then (v0,4,l - 1)
  else if t.kind = 0 then (.mk 0 0 [],0,l - 1) else if t.kind = 1 then (.mk 1 0 [],0,l - 1) else if t.kind = 2 then (.mk 4 0 [],0,l - 1)
  else if (theDef p t.df).kind = 1 then (if (theDef p t.df).slots.length = 0 then (v0,1,l - 1) else zNode 3 (zeroL (zeroF p n) (((theDef p t.df).slots.take 1).map SlotT.ty) (l - 1)))
  else zNode 2 (zeroL (zeroF p n) ((theDef p t.df).slots.map SlotT.ty) (l - 1))
def zJoin (dn : List Val) (r : List Val×Int×Int) : List Val×Int×Int:=if r.2.1 ≠ 0 then ([],r.2.1,r.2.2) else (dn++r.1,0,r.2.2)
theorem zeroL_err (g : Ty->Int->ZR) : ∀ (ts : List Ty) (l : Int),(zeroL g ts l).2.1 ≠ 0->(zeroL g ts l).1 = []
 | [],l,h=>by simp [zeroL] at h
 | t::ts,l,h=>by
  rw [zeroL] at h ⊢
  split at h
  ·rename_i h1;rw [if_pos h1]
  ·rename_i h1
   rw [if_neg h1]
   split at h
   ·rename_i h2;rw [if_pos h2]
   ·simp at h
theorem zJoin_nil (g : Ty->Int->ZR) (ts : List Ty) (l : Int) : zeroL g ts l = zJoin [] (zeroL g ts l):=by
 unfold zJoin
 split
 ·rename_i h
  rw [<-zeroL_err g ts l h]
 ·rename_i h
  have : (zeroL g ts l).2.1 = 0:=Decidable.not_not.1 h
  rw [<-this];simp
theorem zJoin_err {g : Ty->Int->ZR} {ts : List Ty} {l : Int} {k : Nat} {dn : List Val} {lk : Int} (hk : k < ts.length) (h : zeroL g ts l = zJoin dn (zeroL g (ts.drop k) lk)) (he : (g ts[k] lk).2.1 ≠ 0) : zeroL g ts l = ([],(g ts[k] lk).2.1,(g ts[k] lk).2.2):=by
 rw [h,List.drop_eq_getElem_cons hk,zeroL,if_pos he,zJoin,if_pos he]
theorem zJoin_step {g : Ty->Int->ZR} {ts : List Ty} {l : Int} {k : Nat} {dn : List Val} {lk : Int} (hk : k < ts.length) (h : zeroL g ts l = zJoin dn (zeroL g (ts.drop k) lk)) (he : ¬ (g ts[k] lk).2.1 ≠ 0) : zeroL g ts l = zJoin (dn++[(g ts[k] lk).1]) (zeroL g (ts.drop (k+1)) (g ts[k] lk).2.2):=by
 rw [h,List.drop_eq_getElem_cons hk,zeroL,if_neg he]
 generalize zeroL g (List.drop (k+1) ts) (g ts[k] lk).2.2 = r
 unfold zJoin
 by_cases h3 : r.2.1 = 0 <;> simp [h3]
theorem zJoin_end {g : Ty->Int->ZR} {ts : List Ty} {l : Int} {k : Nat} {dn : List Val} {lk : Int} (hk : ts.length<=k) (h : zeroL g ts l = zJoin dn (zeroL g (ts.drop k) lk)) : zeroL g ts l = (dn,0,lk):=by
 rw [h,List.drop_of_length_le hk,zeroL,zJoin];simp
theorem zeroF_arg {p : ProgT} {n : Nat} {t : Ty} {l : Int} (h : ¬ validT p t) : zeroF p n t l = (v0,1,l):=by
 cases n with
 | zero=>rw [zeroF,if_pos h]
 | succ n=>rw [zeroF,if_pos h]
theorem zeroF_lim {p : ProgT} {n : Nat} {t : Ty} {l : Int} (h : validT p t) (hl : l - 1 < 0\/n = 0) : zeroF p n t l = (v0,4,l - 1):=by
 cases n with
 | zero=>rw [zeroF,if_neg (by simp [h])]
 | succ n=>rw [zeroF,if_neg (by simp [h]),if_pos Q0]
theorem zeroF_left (p : ProgT) : ∀ (n : Nat) (t : Ty) (l : Int),(zeroF p n t l).2.1 = 0->0<=(zeroF p n t l).2.2/\(zeroF p n t l).2.2<=l - 1
 | 0,t,l,h=>by
  rw [zeroF] at h
  split at h <;> simp at h
 | n+1,t,l,h=>by
  have key : ∀ (ts : List Ty) (l0 : Int),0<=l0->(zeroL (zeroF p n) ts l0).2.1 = 0->0<=(zeroL (zeroF p n) ts l0).2.2/\(zeroL (zeroF p n) ts l0).2.2<=l0:=by
   intro ts
   induction ts with
   | nil=>intro l0 h0 _;simp [zeroL];exact h0
   | cons t ts ih =>
    intro l0 h0 he
    rw [zeroL] at he ⊢
    split at he
    ·rename_i h1;exact absurd he h1
    ·rename_i h1
     rw [if_neg h1]
     have h2:=zeroF_left p n t l0 (Decidable.not_not.1 h1)
     split at he
     ·rename_i h3;exact absurd he h3
     ·rename_i h3
      rw [if_neg h3]
      have:=ih _ h2.1 (Decidable.not_not.1 h3)
      exact ⟨this.1,by have:=this.2;simp only;omega⟩
  have hz : ∀ (k : Int) (ts : List Ty),0<=l - 1->(zNode k (zeroL (zeroF p n) ts (l - 1))).2.1 = 0->0<=(zNode k (zeroL (zeroF p n) ts (l - 1))).2.2/\(zNode k (zeroL (zeroF p n) ts (l - 1))).2.2<=l - 1:=by
   intro k ts h0 he
   unfold zNode at he ⊢
   split at he
   ·rename_i h1;exact absurd he h1
   ·rename_i h1
    rw [if_neg h1]
    exact key ts (l - 1) h0 (Decidable.not_not.1 h1)
  rw [zeroF] at h ⊢
  split at h
  ·simp at h
  ·rename_i h1
   rw [if_neg h1]
   split at h
   ·simp at h
   ·rename_i h2
    rw [if_neg h2]
    split at h
    ·rename_i h3;rw [if_pos h3];simp;omega
    ·rename_i h3
     rw [if_neg h3]
     split at h
     ·rename_i h4;rw [if_pos h4];simp;omega
     ·rename_i h4
      rw [if_neg h4]
      split at h
      ·rename_i h5;rw [if_pos h5];simp;omega
      ·rename_i h5
       rw [if_neg h5]
       split at h
       ·rename_i h6
        rw [if_pos h6]
        split at h
        ·simp at h
        ·rename_i h7;rw [if_neg h7];exact hz _ _ Q0 h
       ·rename_i h6;rw [if_neg h6];exact hz _ _ Q0 h
def zeroV (p : ProgT) (t : Ty) : ZR:=zeroF p 24 t 256
theorem snoc_flat (l : List Val) (v : Val) : (l++[v]).flatMap Val.enc = l.flatMap Val.enc++v.enc:=Q2
def nd (m : Nat) : Nat:=if m = 0 then 0 else nd (m / 256)+1
 termination_by m
 decreasing_by exact Nat.div_lt_self Q0 Q0
theorem nd_zero : nd 0 = 0:=by rw [nd];simp
theorem nd_pos {m : Nat} (h : m ≠ 0) : nd m = nd (m / 256)+1:=by rw [nd,if_neg h]
theorem nd_eq : ∀ {j m : Nat},m < 256 ^ j->(j = 0\/0 < m / 2 ^ (8 * (j - 1)))->nd m = j
 | 0,m,h,_=>by
  have : m = 0:=by simpa using h
  rw [this,nd_zero]
 | j+1,m,h,h2=>by
  have h2 : 0 < m / 2 ^ (8 * j):=by rcases h2 with h2 | h2;omega;simpa using h2
  have hm : m ≠ 0:=by rintro rfl;simp at h2
  rw [nd_pos hm,nd_eq (j:=j)]
  ·rw [Nat.pow_succ] at h;omega
  ·rcases Nat.eq_zero_or_pos j with rfl | hj
   ·exact .inl rfl
   ·refine .inr ?_
    have e : m / 2 ^ (8 * j) = m / 256 / 2 ^ (8 * (j - 1)):=by
     rw [Nat.div_div_eq_div_mul]
     congr 1
     rw [show 8 * j = 8+8 * (j - 1) from by omega,Nat.pow_add]
    rw [<-e];exact h2
theorem lt_pow_pred {m j : Nat} (_hj : 0 < j) (h : ¬ 0 < m / 2 ^ (8 * (j - 1))) : m < 256 ^ (j - 1):=by
 have h0 : m / 2 ^ (8 * (j - 1)) = 0:=Nat.eq_zero_of_not_pos h
 have h1 : (256 : Nat) ^ (j - 1) = 2 ^ (8 * (j - 1)):=by rw [Nat.pow_mul]
 rw [h1]
 rcases Nat.div_eq_zero_iff.1 h0 with h | h
 ·exact absurd h Q2
 ·exact h
def mag (n : Int) : Nat:=(if n < 0 then -1 - n else n).toNat
def sgn (n : Int) : Nat:=if n < 0 then 255 else 0
theorem sgn_or (n : Int) : sgn n = 0\/sgn n = 255:=by unfold sgn;split <;> simp
theorem mag_lt {n : Int} (h : InI n) : mag n < 9223372036854775808:=by unfold InI at h;unfold mag;split <;> omega
theorem mag_nn {n : Int} (h : InI n) (hn : ¬ n < 0) : (n % 18446744073709551616).toNat = mag n:=by unfold InI at h;unfold mag;rw [if_neg hn];omega
theorem mag_ng {n : Int} (h : InI n) (hn : n < 0) : 18446744073709551615 - (n % 18446744073709551616).toNat = mag n:=by unfold InI at h;unfold mag;rw [if_pos hn];omega
def digitJ (n : Int) (j r : Nat) : Nat:=flip8 (sgn n) (mag n / 2 ^ (8 * (j - 1 - r)) % 256)
def encP (n : Int) (j r : Nat) : List Nat:=flip8 (sgn n) (128+j)::(List.range r).map (digitJ n j)
def encI (n : Int) : List Nat:=encP n (nd (mag n)) (nd (mag n))
theorem encP_len (n : Int) (j r : Nat) : (encP n j r).length = 1+r:=by simp [encP];omega
theorem encP_succ (n : Int) (j r : Nat) : encP n j (r+1) = encP n j r++[digitJ n j r]:=by simp [encP,List.range_succ]
theorem nd_le {m : Nat} (h : m < 18446744073709551616) : nd m<=8:=by
 have key : ∀ (j m : Nat),m < 256 ^ j->nd m<=j:=by
  intro j
  induction j with
  | zero =>
   intro m h
   have : m = 0:=by simpa using h
   rw [this,nd_zero];exact Nat.le_refl _
  | succ j ih =>
   intro m h
   by_cases hm : m = 0
   ·rw [hm,nd_zero];omega
   ·rw [nd_pos hm]
    have:=ih (m / 256) (by rw [Nat.pow_succ] at h;omega)
    omega
 exact key 8 m (by simpa using h)
theorem encI_len {n : Int} (h : InI n) : (encI n).length<=9:=by
 have:=nd_le (m:=mag n) (by have:=mag_lt h;omega)
 rw [encI,encP_len];omega
mutual
def encV : Val->List Nat
 | .mk k n l=>encI k++encI n++encI l.length++encVs l
def encVs : List Val->List Nat
 | []=>[]
 | v::vs=>encV v++encVs vs
end
theorem encV_eq (v : Val) : encV v = encI v.kind++encI v.n++encI v.kids.length++encVs v.kids:=by cases v;rw [encV];rfl
theorem encVs_append : ∀ (l m : List Val),encVs (l++m) = encVs l++encVs m
 | [],m=>by simp [encVs]
 | x::xs,m=>by simp only [List.cons_append,encVs,encVs_append xs m,List.append_assoc]
theorem encVs_succ (l : List Val) (k : Nat) (h : k < l.length) : encVs (l.take (k+1)) = encVs (l.take k)++encV l[k]:=by
 rw [List.take_succ_eq_append_getElem h,encVs_append];simp [encVs]
theorem take_flat_succ {α : Type} (ls : List (List α)) (k : Nat) (h : k < ls.length) : (ls.take (k+1)).flatten = (ls.take k).flatten++ls[k]:=by
 rw [List.take_succ_eq_append_getElem h,List.flatten_append];simp
theorem flat_le {α : Type} (b : Nat) : ∀ (ls : List (List α)),(∀ l∈ls,l.length<=b)->ls.flatten.length<=ls.length * b
 | [],_=>by simp
 | l::ls,h=>by
  have h1:=h l (List.mem_cons_self ..)
  have h2:=flat_le b ls fun x hx=>h x (List.mem_cons_of_mem _ hx)
  rw [List.flatten_cons,List.length_append,List.length_cons,Nat.succ_mul];omega
theorem kids_le_size (v : Val) : v.kids.length < v.size:=by
 have : ∀ l : List Val,l.length<=Val.sizes l:=by
  intro l
  induction l with
  | nil=>simp
  | cons x xs ih=>have:=Val.size_pos x;rw [Val.sizes,List.length_cons];omega
 have:=this v.kids
 rw [Val.size_eq];omega
theorem encV_len : ∀ (v : Val),v.Ok->v.size<=1099511627776->(encV v).length<=27 * v.size:=by
 intro v
 refine Val.rec' (p:=fun v=>v.Ok->v.size<=1099511627776->(encV v).length<=27 * v.size) (fun v ih hok hs=>?_) v
 have hk:=kids_le_size v
 have h1:=encI_len hok.kind
 have h2:=encI_len hok.n
 have h3:=encI_len (n:=(v.kids.length : Int)) (by unfold InI;omega)
 have key : ∀ l : List Val,(∀ k∈l,k∈v.kids)->(encVs l).length<=27 * Val.sizes l:=by
  intro l
  induction l with
  | nil=>intro _;simp [encVs]
  | cons x xs ihl =>
   intro hl
   have hx:=hl x (List.mem_cons_self ..)
   have hxs:=Val.size_kid hx
   have h4:=ih x hx (hok.kid hx) Q0
   have h5:=ihl fun k hk=>hl k (List.mem_cons_of_mem _ hk)
   rw [encVs,Val.sizes,List.length_append];omega
 have h6:=key v.kids fun k hk=>hk
 rw [encV_eq,Val.size_eq]
 simp only [List.length_append]
 omega
def headB (v : Val) : List Nat:=encI v.kind++encI v.n++encI v.kids.length
theorem encVs_take_le (l : List Val) (k : Nat) : (encVs (l.take k)).length<=(encVs l).length:=by
 have h : encVs l = encVs (l.take k)++encVs (l.drop k):=by rw [<-encVs_append,List.take_append_drop]
 rw [h,List.length_append];omega
theorem encV_head (v : Val) : encV v = headB v++encVs v.kids:=by rw [encV_eq];rfl
theorem encB_le {v : Val} (hok : v.Ok) (hs : v.size<=1099511627776) (k : Nat) : (headB v++encVs (v.kids.take k)).length<=29686813949952:=by
 have h1:=encV_len v hok hs
 have h2:=encVs_take_le v.kids k
 rw [encV_head,List.length_append] at h1
 rw [List.length_append]
 omega
theorem flip8_digit (n : Int) (j r : Nat) : digitJ n j r < 256:=flip8_lt (Nat.mod_lt _ Q0)
theorem encI_byte {n : Int} (h : InI n) : ∀ x∈encI n,x < 256:=by
 have:=nd_le (m:=mag n) (by have:=mag_lt h;omega)
 intro x hx
 rw [encI,encP] at hx
 rcases List.mem_cons.1 hx with rfl | hx
 ·exact flip8_lt Q0
 ·obtain ⟨r,_,rfl⟩:=List.mem_map.1 hx
  exact flip8_digit _ _ _

def flipOf (h : Nat) : Nat:=if h < 128 then 255 else 0
theorem flipOf_or (h : Nat) : flipOf h = 0\/flipOf h = 255:=by unfold flipOf;split <;> simp
theorem flipOf_pos {h : Nat} : (0 : Int) < (flipOf h : Int)↔h < 128:=by unfold flipOf;split <;> omega
def kOf (h : Nat) : Nat:=flip8 (flipOf h) h - 128
theorem kOf_ge {h : Nat} (hh : h < 256) : 128<=flip8 (flipOf h) h:=by
 unfold flip8 flipOf
 by_cases h1 : h < 128
 ·rw [if_pos h1,if_neg Q0];omega
 ·rw [if_neg h1,if_pos rfl];omega
def wordOf (f : Nat) (l : List Nat) : Nat:=l.foldl (fun m c=>m * 256+flip8 f c) 0
theorem wordOf_snoc (f : Nat) (l : List Nat) (c : Nat) : wordOf f (l++[c]) = wordOf f l * 256+flip8 f c:=by simp [wordOf]
theorem word_lt (f : Nat) : ∀ (l : List Nat) (acc n : Nat),(∀ c∈l,c < 256)->acc < 256 ^ n->l.foldl (fun m c=>m * 256+flip8 f c) acc < 256 ^ (n+l.length)
 | [],acc,n,_,h=>by simpa using h
 | c::l,acc,n,hc,h=>by
  have h1:=flip8_lt (f:=f) (hc c (List.mem_cons_self ..))
  have h2:=word_lt f l (acc * 256+flip8 f c) (n+1) (fun x hx=>hc x (List.mem_cons_of_mem _ hx)) (by rw [Nat.pow_succ];omega)
  rw [List.foldl_cons,List.length_cons,show n+(l.length+1) = n+1+l.length from by omega]
  exact h2
theorem wordOf_lt (f : Nat) (l : List Nat) (h : ∀ c∈l,c < 256) : wordOf f l < 256 ^ l.length:=by
 have:=word_lt f l 0 0 h Q2
 simpa [wordOf] using this
def getI (b : List Nat) : Int×Int×Int:=match b with
 | []=>(0,0,3)
 | h::t=>if 8 < kOf h then (0,0,2) else if t.length < kOf h then (0,0,3)
  else if 0 < kOf h/\flip8 (flipOf h) (t.headD 0) = 0 then (0,0,2)
  else if 9223372036854775808<=wordOf (flipOf h) (t.take (kOf h)) then (0,0,2)
  else (if h < 128 then -1 - (wordOf (flipOf h) (t.take (kOf h)) : Int) else (wordOf (flipOf h) (t.take (kOf h)) : Int),(kOf h : Int)+1,0)

def nums (b : List Nat) : Nat->Nat->List Int->List Int×Int×Nat
 | 0,at_,acc=>(acc,0,at_)
 | j+1,at_,acc=>if (getI (b.drop at_)).2.2 ≠ 0 then (acc,(getI (b.drop at_)).2.2,at_) else nums b j (at_+(getI (b.drop at_)).2.1.toNat) (acc++[(getI (b.drop at_)).1])
abbrev DR:=Val×Int×Int×Nat
def decL (g : Int->Nat->DR) : Nat->Int->Nat->List Val×Int×Int×Nat
 | 0,l,a=>([],0,l,a)
 | m+1,l,a=>if (g l a).2.1 ≠ 0 then ([],(g l a).2)
  else if (decL g m (g l a).2.2.1 (g l a).2.2.2).2.1 ≠ 0 then ([],(decL g m (g l a).2.2.1 (g l a).2.2.2).2)
  else ((g l a).1::(decL g m (g l a).2.2.1 (g l a).2.2.2).1,(decL g m (g l a).2.2.1 (g l a).2.2.2).2)
def dNode (k n : Int) (q : List Val×Int×Int×Nat) : DR:=if q.2.1 ≠ 0 then (v0,q.2) else (.mk k n q.1,q.2)
def decN (g : Int->Nat->DR) (l : Int) (r : List Int×Int×Nat) : DR :=
 if r.2.1 ≠ 0 then (v0,r.2.1,l,r.2.2) else if r.1.getD 2 0 < 0 then (v0,2,l,r.2.2) else dNode (r.1.getD 0 0) (r.1.getD 1 0) (decL g (r.1.getD 2 0).toNat l r.2.2)
def decF (b : List Nat) : Nat->Int->Nat->DR
 | 0,l,a=>(v0,4,l - 1,a)
 | n+1,l,a=>if l - 1 < 0 then (v0,4,l - 1,a) else decN (decF b n) (l - 1) (nums b 3 a [])
def dJoin (dn : List Val) (q : List Val×Int×Int×Nat) : List Val×Int×Int×Nat:=if q.2.1 ≠ 0 then ([],q.2) else (dn++q.1,q.2)
theorem decL_err (g : Int->Nat->DR) : ∀ (m : Nat) (l : Int) (a : Nat),(decL g m l a).2.1 ≠ 0->(decL g m l a).1 = []
 | 0,l,a,h=>by simp [decL] at h
 | m+1,l,a,h=>by
  rw [decL] at h ⊢
  split at h
  ·rename_i h1;rw [if_pos h1]
  ·rename_i h1
   rw [if_neg h1]
   split at h
   ·rename_i h2;rw [if_pos h2]
   ·rename_i h2;exact absurd h h2
theorem dJoin_nil (g : Int->Nat->DR) (m : Nat) (l : Int) (a : Nat) : decL g m l a = dJoin [] (decL g m l a):=by
 unfold dJoin
 split
 ·rename_i h;rw [<-decL_err g m l a h]
 ·simp
theorem dJoin_err {g : Int->Nat->DR} {N k : Nat} {l lk : Int} {a ak : Nat} {dn : List Val} (hk : k < N) (h : decL g N l a = dJoin dn (decL g (N - k) lk ak)) (he : (g lk ak).2.1 ≠ 0) : decL g N l a = ([],(g lk ak).2):=by
 obtain ⟨m,hm⟩ : ∃ m,N - k = m+1:=⟨N - k - 1,Q0⟩
 rw [h,hm,decL,if_pos he,dJoin,if_pos he]
theorem dJoin_step {g : Int->Nat->DR} {N k : Nat} {l lk : Int} {a ak : Nat} {dn : List Val} (hk : k < N) (h : decL g N l a = dJoin dn (decL g (N - k) lk ak)) (he : ¬ (g lk ak).2.1 ≠ 0) :
  decL g N l a = dJoin (dn++[(g lk ak).1]) (decL g (N - (k+1)) (g lk ak).2.2.1 (g lk ak).2.2.2):=by
 obtain ⟨m,hm⟩ : ∃ m,N - k = m+1:=⟨N - k - 1,Q0⟩
 have hm2 : N - (k+1) = m:=Q0
 rw [h,hm,hm2,decL,if_neg he]
 generalize decL g m (g lk ak).2.2.1 (g lk ak).2.2.2 = r
 unfold dJoin
 by_cases h3 : r.2.1 = 0 <;> simp [h3]
theorem dJoin_end {g : Int->Nat->DR} {N k : Nat} {l lk : Int} {a ak : Nat} {dn : List Val} (hk : N<=k) (h : decL g N l a = dJoin dn (decL g (N - k) lk ak)) : decL g N l a = (dn,0,lk,ak):=by
 rw [h,show N - k = 0 from by omega,decL,dJoin];simp
theorem getI_size {b : List Nat} (h : (getI b).2.2 = 0) : 1<=(getI b).2.1/\(getI b).2.1<=b.length:=by
 cases b with
 | nil=>simp [getI] at h
 | cons x t =>
  rw [getI] at h ⊢
  split at h
  ·simp at h
  ·rename_i h1
   rw [if_neg h1]
   split at h
   ·simp at h
   ·rename_i h2
    rw [if_neg h2]
    split at h
    ·simp at h
    ·rename_i h3
     rw [if_neg h3]
     split at h
     ·simp at h
     ·rename_i h4
      rw [if_neg h4]
      simp only [List.length_cons]
      omega
theorem nums_at (b : List Nat) : ∀ (j a : Nat) (acc : List Int),a<=b.length->(nums b j a acc).2.2<=b.length
 | 0,a,acc,h=>h
 | j+1,a,acc,h=>by
  rw [nums]
  split
  ·exact h
  ·rename_i h1
   have:=getI_size (Decidable.not_not.1 h1)
   rw [List.length_drop] at this
   exact nums_at b j _ _ Q0
theorem decF_left (b : List Nat) : ∀ (n : Nat) (l : Int) (a : Nat),a<=b.length->(decF b n l a).2.2.2<=b.length/\((decF b n l a).2.1 = 0->0<=(decF b n l a).2.2.1/\(decF b n l a).2.2.1<=l - 1)
 | 0,l,a,h=>⟨h,fun h=>by simp [decF] at h⟩
 | n+1,l,a,h=>by
  have key : ∀ (m : Nat) (l0 : Int) (a0 : Nat),0<=l0->a0<=b.length->(decL (decF b n) m l0 a0).2.2.2<=b.length/\((decL (decF b n) m l0 a0).2.1 = 0->0<=(decL (decF b n) m l0 a0).2.2.1/\(decL (decF b n) m l0 a0).2.2.1<=l0):=by
   intro m
   induction m with
   | zero=>intro l0 a0 h0 ha;exact ⟨ha,fun _=>⟨h0,Int.le_refl _⟩⟩
   | succ m ih =>
    intro l0 a0 h0 ha
    have h2:=decF_left b n l0 a0 ha
    rw [decL]
    split
    ·rename_i h1;exact ⟨h2.1,fun h=>absurd h h1⟩
    ·rename_i h1
     have h3:=h2.2 (Decidable.not_not.1 h1)
     have h4:=ih _ _ h3.1 h2.1
     split
     ·rename_i h5;exact ⟨h4.1,fun h=>absurd h h5⟩
     ·exact ⟨h4.1,fun h=>by have:=h4.2 h;simp only at this ⊢;omega⟩
  rw [decF]
  split
  ·exact ⟨h,fun h=>by simp at h⟩
  ·rename_i h1
   have ha:=nums_at b 3 a [] h
   unfold decN
   split
   ·rename_i h2;exact ⟨ha,fun h=>absurd h h2⟩
   ·split
    ·exact ⟨ha,fun h=>by simp at h⟩
    ·have h3:=key ((nums b 3 a []).1.getD 2 0).toNat (l - 1) _ Q0 ha
     unfold dNode
     split
     ·rename_i h4;exact ⟨h3.1,fun h=>absurd h h4⟩
     ·exact h3
def decV (b : List Nat) : Val×Int×Int:=if (decF b 24 256 0).2.1 ≠ 0 then (v0,0,(decF b 24 256 0).2.1) else ((decF b 24 256 0).1,((decF b 24 256 0).2.2.2 : Int),0)
theorem nums_err {b : List Nat} {a i ai : Nat} {acc : List Int} (hi : i < 3) (h : nums b 3 a [] = nums b (3 - i) ai acc) (he : (getI (b.drop ai)).2.2 ≠ 0) : nums b 3 a [] = (acc,(getI (b.drop ai)).2.2,ai):=by
 obtain ⟨j,hj⟩ : ∃ j,3 - i = j+1:=⟨2 - i,Q0⟩
 rw [h,hj,nums,if_pos he]
theorem nums_step {b : List Nat} {a i ai : Nat} {acc : List Int} (hi : i < 3) (h : nums b 3 a [] = nums b (3 - i) ai acc) (he : ¬ (getI (b.drop ai)).2.2 ≠ 0) : nums b 3 a [] = nums b (3 - (i+1)) (ai+(getI (b.drop ai)).2.1.toNat) (acc++[(getI (b.drop ai)).1]):=by
 obtain ⟨j,hj⟩ : ∃ j,3 - i = j+1:=⟨2 - i,Q0⟩
 rw [h,hj,show 3 - (i+1) = j from by omega,nums,if_neg he]
theorem nums_end {b : List Nat} {a i ai : Nat} {acc : List Int} (hi : 3<=i) (h : nums b 3 a [] = nums b (3 - i) ai acc) : nums b 3 a [] = (acc,0,ai):=by
 rw [h,show 3 - i = 0 from by omega,nums]
def pad3 (acc : List Int) : List Int:=acc++List.replicate (3 - acc.length) 0
theorem pad3_len {acc : List Int} (h : acc.length<=3) : (pad3 acc).length = 3:=by simp [pad3];omega
theorem pad3_set {acc : List Int} {z : Int} (h : acc.length < 3) : (pad3 acc).set acc.length z = pad3 (acc++[z]):=by
 rw [pad3,pad3,List.set_append_right _ _ (Nat.le_refl _),Nat.sub_self,List.append_assoc]
 congr 1
 have : 3 - acc.length = (3 - (acc++[z]).length)+1:=by simp;omega
 rw [this,List.replicate_succ];rfl
theorem pad3_full {acc : List Int} (h : acc.length = 3) : pad3 acc = acc:=by simp [pad3,h]
theorem getD3 {acc : List Int} (h : acc.length = 3) (j : Nat) (hj : j < 3) : acc[j]? = some (acc.getD j 0):=by
 rw [List.getElem?_eq_getElem Q0,List.getD_eq_getElem?_getD,List.getElem?_eq_getElem Q0];rfl
theorem pad3_store {acc : List Int} {i : Nat} {z : Int} (h : acc.length = i) (hi : i < 3) : (ints (pad3 acc)).set (0+i * 1) (vint z) = ints (pad3 (acc++[z])):=by
 rw [show 0+i * 1 = acc.length from by omega,<-pad3_set Q0]
 simp [ints,List.map_set]
theorem pad3_idx {acc : List Int} {i : Nat} (h : acc.length = i) (hi : i < 3) : 0+i * 1 < (ints (pad3 acc)).length:=by
 have:=pad3_len (acc:=acc) Q0
 simp only [ints,List.length_map];omega
theorem Rd.dropB {M : Mem} {b : List Nat} {a : Option Addr} {c : Nat} (h : Rd M (dbytes b) (.slice a b.length c)) (k : Nat) (hk : k<=b.length) : Rd M (dbytes (b.drop k)) (cutV a k b.length c 1):=by
 have hc : b.length<=c:=by obtain ⟨a',c',h1,h2,_⟩:=h.slice;simp only [Value.slice.injEq] at h1;omega
 have:=Rd.cut h k b.length c hk hc (Nat.le_refl _) (Nat.le_refl _)
 rw [dbytes,List.length_drop,List.map_drop]
 rw [Nat.mul_one,Nat.mul_one,List.take_of_length_le Q2] at this
 exact this
def vnum (n : Int) : Val:=.mk 0 n []
def idK (n : Int) : IdT:=⟨0,1+n.tdiv 32,n.tmod 32⟩
def ofT (i : IdT) : Ty:=.mk 3 i []
def listT (t : Ty) : Ty:=.mk 2 id0 [t]
def pickTy (n : Int) (defs : Int) : Ty :=
 if around n (4+2 * defs) = 1 then .mk 1 id0 []
 else if around n (4+2 * defs) = 2 then listT ty0
 else if 4<=around n (4+2 * defs) then
  (if around (n.tdiv 64) 5 = 1 then listT (ofT (idK (1+(around n (4+2 * defs) - 4).tdiv 2))) else ofT (idK (1+(around n (4+2 * defs) - 4).tdiv 2)))
 else ty0
theorem tdiv_InI {z : Int} (h : InI z) (m : Int) (hm : 1<=m) : InI (z.tdiv m):=by
 unfold InI at h ⊢
 by_cases h0 : 0<=z
 ·rw [Int.tdiv_eq_ediv_of_nonneg h0]
  have h1:=Int.ediv_nonneg h0 (show 0<=m by omega)
  have h2:=Int.ediv_le_self m h0
  omega
 ·have e : z.tdiv m = -((-z) / m):=by
   rw [<-Int.tdiv_eq_ediv_of_nonneg Q0,Int.neg_tdiv];omega
  have h1:=Int.ediv_nonneg (show 0<=-z by omega) (show 0<=m by omega)
  have h2:=Int.ediv_le_self m (show 0<=-z by omega)
  rw [e];omega
abbrev sX : ByteArray:=⟨#[120]⟩
abbrev sY : ByteArray:=⟨#[121]⟩
abbrev sZ : ByteArray:=⟨#[122]⟩
abbrev sPoint : ByteArray:=⟨#[80,111,105,110,116]⟩
abbrev sShape : ByteArray:=⟨#[83,104,97,112,101]⟩
abbrev sState : ByteArray:=⟨#[83,116,97,116,101]⟩
abbrev sEvent : ByteArray:=⟨#[69,118,101,110,116]⟩
def SlotT.vs (s : SlotT) : List Value:=[vint s.id.shop,vint s.id.seq,vint s.id.index,.string s.name,vint s.ty.kind,vint s.ty.df.shop,vint s.ty.df.seq,vint s.ty.df.index,.slice none 0 0,vint s.most,vint s.place]
def DefT.vs (d : DefT) (u8 u13 u26 u27 u28 u30 : Value) : List Value:=[vint d.id.shop,vint d.id.seq,vint d.id.index,vint d.kind,vint d.mod.shop,vint d.mod.seq,vint d.mod.index,.string d.name,u8,vint d.result.kind,vint d.result.df.shop,vint d.result.df.seq,vint d.result.df.index,u13,vint d.body.id.shop,vint d.body.id.seq,vint d.body.id.index,vint d.body.kind,vint d.body.n,vint d.body.ref.shop,vint d.body.ref.seq,vint d.body.ref.index,vint d.body.ty.kind,vint d.body.ty.df.shop,vint d.body.ty.df.seq,vint d.body.ty.df.index,u26,u27,u28,vint d.place,u30]
abbrev sCore : ByteArray:=⟨#[99,111,114,101]⟩
def tMany (l : List Int) : Nat:=(1+atL l 0 4).toNat
def tBits (l : List Int) (i : Nat) : Int:=atL l (1+(i : Int)) 65536
def tArity (l : List Int) (i : Nat) : Nat:=(1+((tBits l i).tdiv 2).tmod 3).toNat
def tNext (l : List Int) : Nat->Int
 | 0=>1+(tMany l : Int)
 | i+1=>tNext l i+tArity l i
def nm3 : Nat->ByteArray
 | 0=>sX
 | 1=>sY
 | _=>sZ
def nm4 : Nat->ByteArray
 | 0=>sPoint
 | 1=>sShape
 | 2=>sState
 | _=>sEvent
def tSlot (l : List Int) (i j : Nat) : SlotT:=⟨idK (tNext l i+j),nm3 j,pickTy (atL l (5+3 * (i : Int)+(j : Int)) 65536) i,0,0⟩
def tSlots (l : List Int) (i k : Nat) : List SlotT:=(List.range k).map (tSlot l i)
def tDef (l : List Int) (i : Nat) : DefT:=⟨idK (1+(i : Int)),(tBits l i).tmod 2,idK 0,nm4 i,tSlots l i (tArity l i),ty0,ex0,0,[]⟩
def tDefs (l : List Int) (k : Nat) : List DefT:=(List.range k).map (tDef l)
def tIds (k : Nat) : List IdT:=(List.range k).map fun i : Nat=>idK (1+(i : Int))
def typesP (l : List Int) : ProgT:=⟨[⟨idK 0,sCore,[],tIds (tMany l)⟩],tDefs l (tMany l)⟩
theorem atL_rng (l : List Int) (i m : Int) (hm : 1<=m) : 0<=atL l i m/\atL l i m < m:=by
 unfold atL
 split
 ·omega
 ·exact around_lt _ _ hm
theorem tMany_cast (l : List Int) : (tMany l : Int) = 1+atL l 0 4:=by have:=atL_rng l 0 4 Q0;unfold tMany;omega
theorem tMany_rng (l : List Int) : 1<=tMany l/\tMany l<=4:=by have:=atL_rng l 0 4 Q0;unfold tMany;omega
theorem tBits_rng (l : List Int) (i : Nat) : 0<=tBits l i/\tBits l i < 65536:=atL_rng l _ _ Q0
theorem tBits_div (l : List Int) (i : Nat) : (tBits l i).tdiv 2 = tBits l i / 2:=Int.tdiv_eq_ediv_of_nonneg (tBits_rng l i).1
theorem tBits_mod (l : List Int) (i : Nat) : ((tBits l i).tdiv 2).tmod 3 = tBits l i / 2 % 3:=by rw [tBits_div,Int.tmod_eq_emod_of_nonneg (by have:=tBits_rng l i;omega)]
theorem tKind_mod (l : List Int) (i : Nat) : (tBits l i).tmod 2 = tBits l i % 2:=Int.tmod_eq_emod_of_nonneg (tBits_rng l i).1
theorem tArity_cast (l : List Int) (i : Nat) : (tArity l i : Int) = 1+((tBits l i).tdiv 2).tmod 3:=by have:=tBits_mod l i;unfold tArity;omega
theorem tArity_rng (l : List Int) (i : Nat) : 1<=tArity l i/\tArity l i<=3:=by have:=tBits_mod l i;unfold tArity;omega
theorem tNext_rng (l : List Int) : ∀ i : Nat,2<=tNext l i/\tNext l i<=5+3 * (i : Int)
 | 0=>by have:=tMany_rng l;rw [tNext];omega
 | i+1=>by have:=tNext_rng l i;have:=tArity_rng l i;rw [tNext];omega
theorem tSlots_succ (l : List Int) (i j : Nat) : (tSlots l i (j+1)).flatMap SlotT.enc = (tSlots l i j).flatMap SlotT.enc++(tSlot l i j).enc:=by
 simp [tSlots,List.range_succ]
theorem tDefs_succ (l : List Int) (j : Nat) : (tDefs l (j+1)).flatMap DefT.enc = (tDefs l j).flatMap DefT.enc++(tDef l j).enc:=by
 simp [tDefs,List.range_succ]
theorem tIds_succ (j : Nat) : (tIds (j+1)).flatMap IdT.enc = (tIds j).flatMap IdT.enc++(idK (1+(j : Int))).enc:=by
 simp [tIds,List.range_succ]
theorem tSlots_len (l : List Int) (i k : Nat) : (tSlots l i k).length = k:=by simp [tSlots]
theorem tDefs_len (l : List Int) (k : Nat) : (tDefs l k).length = k:=by simp [tDefs]
theorem tIds_len (k : Nat) : (tIds k).length = k:=by simp [tIds]
def valP : Val:=.mk 2 0 [vnum 1,vnum (-2)]
def valG : Val:=.mk 4 0 [vnum 5]
abbrev codeG : List Nat:=[129,4,128,129,1,128,129,5,128]
theorem dG1 : (decV codeG).1 = valG:=by kernel_rfl
theorem dG2 : (decV codeG).2.1 = 9:=by kernel_rfl
theorem dG3 : (decV codeG).2.2 = 0:=by kernel_rfl
theorem encI_0 : encI 0 = [128]:=by rw [encI,show nd (mag 0) = 0 from nd_eq Q1 Q1];rfl
theorem encI_1 : encI 1 = [129,1]:=by rw [encI,show nd (mag 1) = 1 from nd_eq Q1 Q1];rfl
theorem encI_4 : encI 4 = [129,4]:=by rw [encI,show nd (mag 4) = 1 from nd_eq Q1 Q1];rfl
theorem encI_5 : encI 5 = [129,5]:=by rw [encI,show nd (mag 5) = 1 from nd_eq Q1 Q1];rfl
theorem encG : encV valG = codeG:=by
 simp only [valG,vnum,encV,encVs,List.length_cons,List.length_nil]
 simp [encI_0,encI_1,encI_4,encI_5]

theorem InI_small {n : Int} (h : -1000<=n/\n<=1000) : InI n:=by unfold InI;omega
theorem okN (n : Int) (h : -1000<=n/\n<=1000) : (vnum n).Ok:=.mk (InI_small (show -1000<=(0 : Int)/\(0 : Int)<=1000 by decide)) (InI_small h) (by simp [vnum,Val.kids])
theorem okP : valP.Ok:=.mk (InI_small Q1) (InI_small Q1) (by
 intro k hk
 simp only [valP,Val.kids,List.mem_cons,List.not_mem_nil,or_false] at hk
 rcases hk with rfl | rfl <;> exact okN _ Q1)
theorem okG : valG.Ok:=.mk (InI_small Q1) (InI_small Q1) (by
 intro k hk
 simp only [valG,Val.kids,List.mem_cons,List.not_mem_nil,or_false] at hk
 rcases hk with rfl
 exact okN _ Q1)
end Xe
