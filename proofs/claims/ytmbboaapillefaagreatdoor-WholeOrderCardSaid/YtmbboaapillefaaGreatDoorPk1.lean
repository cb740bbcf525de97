/- Xe1, Xe2, Api, Pure, Xe3, Xe4, XeLd, PureA, PureB, Ev0, Ev2, Gr, Arg, Laid, PmA, PmB, PmC, PmD, PmE, put together. -/
import Derived.WalkKit
import Derived.Deep.Quiet
import Derived.OrdersHeld
import Derived.ProofKit
import Derived.SizedLaws
import Derived.Below
import Derived.Recover
import Derived.Carry
import Derived.OpenShut
import Derived.Deep.CondSized
import Derived.Scope
import Derived.Lib.AppendZeros
import Derived.Laws.Bits64b
import Derived.Deep.DeepHandedRow
import Derived.LaidMore
import Derived.KernelRfl
import Derived.Test.YtmbboaapillefaaGreatDoorProg
import Derived.Test.YtmbboaapillefaaGreatDoorCards
import Derived.Test.YtmbboaapillefaaGreatDoorTie
import Derived.LaidHandle
import Derived.WideKeyMaps
import Derived.Lib.LaidU8
import Derived.Stop.Joined
namespace Xe
theorem Q0 {p : Prop} (h : p:=by omega) : p:=h
theorem Q1 {p : Prop} (h : p:=by decide) : p:=h
theorem Q2 {p : Prop} (h : p:=by simp) : p:=h
theorem Q3 {p : Prop} (h : p:=by rfl) : p:=h
theorem Q4 {p : Prop} (h : p:=by unfold okI;omega) : p:=h
theorem Q5 {p : Prop} (h : p:=by first | (simp;done) | simp [IdT.vals]) : p:=h
theorem Q6 {p : Prop} (h : p:=by first | (simp [Value.oneCell'];done) | simp [Value.oneCell',IdT.vals]) : p:=h
theorem Q7 {p : Prop} (h : p:=by first | exact Kn.lenRds MM EL | exact Kn.lenLit rfl) : p:=h
theorem Q8 {p : Prop} (h : p:=by first | exact decide_eq_true_iff | (simp only [decide_eq_true_eq];omega) | (simp only [true_iff];omega) | (simp only [Bool.false_eq_true,false_iff];omega)) : p:=h
theorem Q9 {p : Prop} (h : p:=by first | omega | (simp;done) | (simp;omega)) : p:=h
theorem Qa {p : Prop} (h : p:=by unfold room;omega) : p:=h
theorem Qb {p : Prop} (h : p:=by simp <;> omega) : p:=h
theorem Qc {p : Prop} (h : p:=by simp;omega) : p:=h
end Xe
namespace Xe
open Go


abbrev Lm:=List (Nat×Value)

def tY : Lm->Nat->Option Value
 | [],_=>none
 | (t,v)::r,s=>match Nat.beq s t with
  | true=>some v
  | false=>tY r s

def evL (L : Lm) : Operand->Option Value
 | .tmp t=>tY L t
 | .const v=>some v
 | .global g=>some (.pointer (some ⟨g,0,none⟩))
 | .func f=>some (.func (.func f) #[] #[])

structure Sat (n : Nat) (L : Lm) (a : Act) : Prop where
 size : a.tmps.size = n
 defers : a.defers = []
 get : ∀ t v,tY L t = some v->a.tmps[t]? = some v

theorem Sat.ev {n : Nat} {L : Lm} {a : Act} (h : Sat n L a) {x : Operand} {v : Value} (hx : evL L x = some v) : a.eval x = v:=by
 cases x with
 | tmp t =>
  have:=h.get t v hx
  simp only [Act.eval,Array.getD_eq_getD_getElem?,this,Option.getD_some]
 | const c=>simpa [evL,Act.eval] using hx
 | global g=>simpa [evL,Act.eval] using hx
 | func f=>simpa [evL,Act.eval] using hx

abbrev Mem:=Nat->Option Obj
def Sub (M M' : Mem) : Prop:=∀ b o,M b = some o->M' b = some o
theorem Sub.refl (M : Mem) : Sub M M:=fun _ _ h=>h
theorem Sub.trans {M M' M'' : Mem} (h : Sub M M') (k : Sub M' M'') : Sub M M'':=fun b o hb=>k b o (h b o hb)

def adr (a : Option Addr) (i : Nat) : Addr:=(a.getD default).add i
theorem cK (a : Option Addr) (i j : Nat) : (adr a i).add j = adr a (i+j):=by
 unfold adr Addr.add
 by_cases hi : i = 0
 ·subst hi
  by_cases hj : j = 0
  ·simp [hj]
  ·simp
 ·by_cases hj : j = 0
  ·simp [hj]
  ·have : i+j ≠ 0:=Q0
   simp [hi,hj,Nat.add_assoc]
theorem bC (b o i : Nat) : adr (some ⟨b,o,none⟩) i = ⟨b,o+i,none⟩:=by
 unfold adr Addr.add
 by_cases hi : i = 0
 ·simp [hi]
 ·simp [hi]
def cz (M : Mem) (p : Addr) : Option Value :=
 match M p.block with
 | some (.cells c _ _)=>if p.spot.isSome then none else c[p.off]?
 | _=>none

theorem iG {M M' : Mem} (h : Sub M M') {p : Addr} {v : Value} (hv : cz M p = some v) : cz M' p = some v:=by
 unfold cz at *
 cases hM : M p.block with
 | none=>simp [hM] at hv
 | some o=>rw [h _ _ hM];rw [hM] at hv;exact hv

inductive D where
 | v (x : Value)
 | sl (n sz : Nat) (cs : List D)

def lim : Nat:=140737488355328

mutual
def Rd (M : Mem) : D->Value->Prop
 | .v x,u=>u = x/\x.oneCell' = true
 | .sl n sz cs,u=>∃ a cap,u = .slice a n cap/\n<=cap/\cap<=maxLen/\n<=lim/\cs.length = n * sz/\(0 < n->a.isSome = true)/\RdC M a 0 cs
def RdC (M : Mem) (a : Option Addr) : Nat->List D->Prop
 | _,[]=>True
 | i,d::ds=>(∃ u,cz M (adr a i) = some u/\Rd M d u)/\RdC M a (i+1) ds
end

mutual
theorem Rd.mono {M M' : Mem} (h : Sub M M') : ∀ (d : D) (u : Value),Rd M d u->Rd M' d u
 | .v x,u,hr=>by simpa [Rd] using hr
 | .sl n sz cs,u,hr=>by
  simp only [Rd] at hr ⊢
  obtain ⟨a,cap,h1,h2,h3,h4,h5,h6,h7⟩:=hr
  exact ⟨a,cap,h1,h2,h3,h4,h5,h6,RdC.mono h a cs 0 h7⟩
theorem RdC.mono {M M' : Mem} (h : Sub M M') (a : Option Addr) : ∀ (cs : List D) (i : Nat),RdC M a i cs->RdC M' a i cs
 | [],i,_=>by simp [RdC]
 | d::ds,i,hr=>by
  simp only [RdC] at hr ⊢
  obtain ⟨⟨u,h1,h2⟩,h3⟩:=hr
  exact ⟨⟨u,iG h h1,Rd.mono h d u h2⟩,RdC.mono h a ds (i+1) h3⟩
end

theorem RdC.get {M : Mem} {a : Option Addr} : ∀ (cs : List D) (i : Nat),RdC M a i cs->∀ (k : Nat) (d : D),cs[k]? = some d->∃ u,cz M (adr a (i+k)) = some u/\Rd M d u
 | [],_,_,k,d,hk=>by simp at hk
 | e::es,i,h,k,d,hk=>by
  simp only [RdC] at h
  cases k with
  | zero=>simp only [List.getElem?_cons_zero,Option.some.injEq] at hk;subst hk;exact h.1
  | succ k =>
   obtain ⟨u,h1,h2⟩:=RdC.get es (i+1) h.2 k d (by simpa using hk)
   exact ⟨u,by rw [show i+(k+1) = i+1+k from by omega];exact h1,h2⟩

theorem RdC.mk {M : Mem} {a : Option Addr} : ∀ (cs : List D) (i : Nat),(∀ (k : Nat) (d : D),cs[k]? = some d->∃ u,cz M (adr a (i+k)) = some u/\Rd M d u)->RdC M a i cs
 | [],_,_=>by simp [RdC]
 | e::es,i,h=>by
  simp only [RdC]
  refine ⟨?_,RdC.mk es (i+1) fun k d hk=>?_⟩
  ·have:=h 0 e rfl;simpa using this
  ·have:=h (k+1) d (by simpa using hk)
   rwa [show i+(k+1) = i+1+k from by omega] at this

def RdL (M : Mem) (ds : List D) (us : List Value) : Prop:=us.length = ds.length/\∀ (k : Nat) (d : D) (u : Value),ds[k]? = some d->us[k]? = some u->Rd M d u
theorem RdL.mono {M M' : Mem} (h : Sub M M') {ds : List D} {us : List Value} (hr : RdL M ds us) : RdL M' ds us :=
 ⟨hr.1,fun k d u h1 h2=>Rd.mono h d u (hr.2 k d u h1 h2)⟩
theorem RdL.nil (M : Mem) : RdL M [] []:=⟨rfl,fun k d u h _=>by simp at h⟩
theorem RdL.cons {M : Mem} {d : D} {u : Value} {ds : List D} {us : List Value} (h : Rd M d u) (k : RdL M ds us) : RdL M (d::ds) (u::us) :=
 ⟨by simp [k.1],fun i e x h1 h2=>by
  cases i with
  | zero=>simp only [List.getElem?_cons_zero,Option.some.injEq] at h1 h2;subst h1 h2;exact h
  | succ i=>exact k.2 i e x (by simpa using h1) (by simpa using h2)⟩
theorem RdL.append {M : Mem} {ds es : List D} {us xs : List Value} (h : RdL M ds us) (k : RdL M es xs) : RdL M (ds++es) (us++xs):=by
 refine ⟨by simp [h.1,k.1],fun i d u h1 h2=>?_⟩
 by_cases hi : i < ds.length
 ·rw [List.getElem?_append_left hi] at h1
  rw [List.getElem?_append_left (by rw [h.1];exact hi)] at h2
  exact h.2 i d u h1 h2
 ·rw [List.getElem?_append_right Q0] at h1
  rw [List.getElem?_append_right (by rw [h.1];omega)] at h2
  rw [h.1] at h2
  exact k.2 _ d u h1 h2


inductive As where
 | rd (d : D) (u : Value)
 | rds (ds : List D) (us : List Value)
 | own (b : Nat) (e : TypeId) (cs : List Value)
 | acc (u : Value) (e : TypeId) (sz n : Nat) (us : List Value)
 | mp (b : Nat) (l : List (Value×Value))
 | raw (b : Nat) (o : Obj)
def kj (es : Array MapEntry) (clock : Nat) : Prop:=(es.toList.map (·.born)).Nodup/\∀ x∈es.toList,x.born < clock

theorem kj.push {es : Array MapEntry} {clock : Nat} (h : kj es clock) (e : MapEntry) (he : e.born = clock:=by rfl) : kj (es.push e) (clock+1):=by
 refine ⟨?_,fun x hx=>?_⟩
 ·rw [Array.toList_push,List.map_append,List.nodup_append]
  refine ⟨h.1,Q2,fun a ha b hb=>?_⟩
  obtain ⟨x,hx,rfl⟩:=List.mem_map.1 ha
  simp only [List.map_cons,List.map_nil,List.mem_singleton] at hb
  have:=h.2 x hx
  omega
 ·rw [Array.toList_push] at hx
  rcases List.mem_append.1 hx with hx | hx
  ·have:=h.2 x hx
   omega
  ·rw [List.mem_singleton.1 hx];omega
theorem kj.modify {es : Array MapEntry} {clock : Nat} (h : kj es clock) {f : MapEntry->MapEntry} (hf : ∀ e,(f e).born = e.born) (i : Nat) : kj (es.modify i f) clock:=by
 have e : (es.modify i f).toList.map (·.born) = es.toList.map (·.born):=by
  rw [Array.toList_modify]
  apply List.ext_getElem?
  intro k
  rw [List.getElem?_map,List.getElem?_map,List.getElem?_modify]
  by_cases hk : i = k
  ·cases es.toList[k]? <;> simp [hk,hf]
  ·cases es.toList[k]? <;> simp [hk]
 refine ⟨by rw [e];exact h.1,fun x hx=>?_⟩
 have : x.born∈es.toList.map (·.born):=by rw [<-e];exact List.mem_map_of_mem hx
 obtain ⟨y,hy,e2⟩:=List.mem_map.1 this
 rw [<-e2]
 exact h.2 y hy

def As.blk : As->Option Nat
 | .own b _ _=>some b
 | .acc u _ _ _ _=>u.ownBlock
 | .mp b _=>some b
 | .raw b _=>some b
 | _=>none

def As.ok (M : Mem) (w : World) : As->Prop
 | .rd d u=>Rd M d u
 | .rds ds us=>RdL M ds us
 | .own b e cs=>M b = none/\w.heap[b]? = some (.cells cs.toArray e (0,0))
 | .acc u e sz n us=>w.ownsRow 0 e sz u n us/\∀ b,u.ownBlock = some b->M b = none
 | .mp b l=>M b = none/\∃ es clock,w.heap[b]? = some (.map es clock)/\es.toList.map (fun e=>(e.key,e.val)) = l/\kj es clock
 | .raw b o=>M b = none/\w.heap[b]? = some o

structure St (w0 : World) (M : Mem) (Γ : List As) (w : World) : Prop where
 os : w.os = w0.os
 tape : w.tape = w0.tape
 output : w.output = w0.output
 size : w0.heap.size<=w.heap.size
 mem : ∀ b o,M b = some o->w.heap[b]? = some o
 all : ∀ x,x∈Γ->x.ok M w
 nodup : (Γ.filterMap As.blk).Nodup

theorem St.lt {w0 w : World} {M : Mem} {Γ : List As} (h : St w0 M Γ w) {b : Nat} {o : Obj} (hb : M b = some o) : b < w.heap.size:=by
 have:=h.mem b o hb
 exact (Array.getElem?_eq_some_iff.1 this).1

theorem St.fresh {w0 w : World} {M : Mem} {Γ : List As} (h : St w0 M Γ w) : M w.heap.size = none:=by
 cases hM : M w.heap.size with
 | none=>rfl
 | some o=>have:=h.lt hM;omega

theorem St.cell {w0 w : World} {M : Mem} {Γ : List As} (h : St w0 M Γ w) {p : Addr} {v : Value} (hv : cz M p = some v) : w.cell? p = some v:=by
 unfold cz at hv
 unfold World.cell?
 cases hM : M p.block with
 | none=>simp [hM] at hv
 | some o =>
  rw [h.mem _ _ hM]
  rw [hM] at hv
  cases o <;> first | exact hv | simp at hv

theorem As.aD {M : Mem} {w : World} {x : As} (h : x.ok M w) {b : Nat} (hb : x.blk = some b) : b < w.heap.size/\M b = none:=by
 cases x with
 | rd d u=>simp [As.blk] at hb
 | rds d u=>simp [As.blk] at hb
 | own b' e cs =>
  simp only [As.blk,Option.some.injEq] at hb
  subst hb
  exact ⟨(Array.getElem?_eq_some_iff.1 h.2).1,h.1⟩
 | acc u e sz n us =>
  simp only [As.blk] at hb
  exact ⟨(h.1.lt b hb).2,h.2 b hb⟩
 | mp b' l =>
  simp only [As.blk,Option.some.injEq] at hb
  subst hb
  obtain ⟨h1,es,clock,h2,_⟩:=h
  exact ⟨(Array.getElem?_eq_some_iff.1 h2).1,h1⟩
 | raw b' o =>
  simp only [As.blk,Option.some.injEq] at hb
  subst hb
  exact ⟨(Array.getElem?_eq_some_iff.1 h.2).1,h.1⟩

theorem As.dX {M M' : Mem} {w w' : World} {x : As} (h : x.ok M w) (hs : Sub M M') (hb : ∀ b,x.blk = some b->w'.heap[b]? = w.heap[b]?/\M' b = none) : x.ok M' w':=by
 cases x with
 | rd d u=>exact Rd.mono hs d u h
 | rds ds us=>exact RdL.mono hs h
 | own b e cs=>exact ⟨(hb b rfl).2,by rw [(hb b rfl).1];exact h.2⟩
 | acc u e sz n us =>
  refine ⟨?_,fun b hbb=>(hb b hbb).2⟩
  obtain ⟨h1,h2⟩:=h.1
  refine ⟨h1,?_⟩
  rcases h2 with h2 | ⟨g,cap,cur,hv,hg,hh,r⟩
  ·exact .inl h2
  ·exact .inr ⟨g,cap,cur,hv,hg,by rw [(hb g (by subst hv;rfl)).1];exact hh,r⟩
 | mp b l =>
  obtain ⟨_,es,clock,h2,h3⟩:=h
  exact ⟨(hb b rfl).2,es,clock,by rw [(hb b rfl).1];exact h2,h3⟩
 | raw b o=>exact ⟨(hb b rfl).2,by rw [(hb b rfl).1];exact h.2⟩


theorem ga {Γ : List As} {x : As} {b : Nat} (hx : x∈Γ) (hb : x.blk = some b) : b∈Γ.filterMap As.blk:=List.mem_filterMap.2 ⟨x,hx,hb⟩

theorem St.draw {w0 w : World} {M : Mem} {Γ : List As} (h : St w0 M Γ w) (k : Nat) : St w0 M Γ { w with drawn:=k } :=
 ⟨h.os,h.tape,h.output,h.size,h.mem,fun x hx=>As.dX (w':={ w with drawn:=k }) (h.all x hx) (Sub.refl M) fun _ hb=>⟨rfl,(As.aD (h.all x hx) hb).2⟩,h.nodup⟩

theorem St.sub {w0 w : World} {M : Mem} {Γ Γ' : List As} (h : St w0 M Γ w) (hs : List.Sublist Γ' Γ) : St w0 M Γ' w :=
 ⟨h.os,h.tape,h.output,h.size,h.mem,fun x hx=>h.all x (hs.subset hx),(hs.filterMap As.blk).nodup h.nodup⟩

theorem St.perm {w0 w : World} {M : Mem} {Γ Γ' : List As} (h : St w0 M Γ w) (hp : List.Perm Γ Γ') : St w0 M Γ' w :=
 ⟨h.os,h.tape,h.output,h.size,h.mem,fun x hx=>h.all x (hp.symm.subset hx),(hp.filterMap As.blk).nodup_iff.1 h.nodup⟩

theorem St.add {w0 w : World} {M : Mem} {Γ : List As} (h : St w0 M Γ w) {x : As} (hx : x.ok M w) (hb : x.blk = none) : St w0 M (x::Γ) w :=
 ⟨h.os,h.tape,h.output,h.size,h.mem,fun y hy=>by
  rcases List.mem_cons.1 hy with rfl | hy
  ·exact hx
  ·exact h.all y hy,by simpa [List.filterMap_cons,hb] using h.nodup⟩

theorem St.alloc {w0 w : World} {M : Mem} {Γ : List As} (h : St w0 M Γ w) (e : TypeId) (cs : List Value) :
  St w0 M (.own w.heap.size e cs::Γ) { w with heap:=w.heap.push (.cells cs.toArray e (0,0)) }:=by
 have hold : ∀ b,b < w.heap.size->(w.heap.push (.cells cs.toArray e (0,0)))[b]? = w.heap[b]?:=fun b hb=>by
  rw [Array.getElem?_push,if_neg Q0]
 refine ⟨h.os,h.tape,h.output,by simp;have:=h.size;omega,fun b o hb=>?_,fun x hx=>?_,?_⟩
 ·rw [hold b (h.lt hb)];exact h.mem b o hb
 ·rcases List.mem_cons.1 hx with rfl | hx
  ·exact ⟨h.fresh,Q2⟩
  ·exact As.dX (h.all x hx) (Sub.refl M) fun b hb=>⟨hold b (As.aD (h.all x hx) hb).1,(As.aD (h.all x hx) hb).2⟩
 ·simp only [List.filterMap_cons,As.blk]
  refine List.nodup_cons.2 ⟨fun hm=>?_,h.nodup⟩
  obtain ⟨x,hx,hb⟩:=List.mem_filterMap.1 hm
  have:=(As.aD (h.all x hx) hb).1
  omega

theorem St.write {w0 w : World} {M : Mem} {Γ : List As} {b : Nat} {e : TypeId} {cs : List Value} (h : St w0 M (.own b e cs::Γ) w) (cs' : List Value) (w' : World)
  (hw : w' = { w with heap:=w.heap.setIfInBounds b (.cells cs'.toArray e (0,0)) }) : St w0 M (.own b e cs'::Γ) w':=by
 subst hw
 have hown:=h.all _ (List.mem_cons_self ..)
 have hlt : b < w.heap.size:=(Array.getElem?_eq_some_iff.1 hown.2).1
 have hne : ∀ k,k ≠ b->(w.heap.setIfInBounds b (.cells cs'.toArray e (0,0)))[k]? = w.heap[k]?:=fun k hk=>Array.getElem?_setIfInBounds_ne Q0
 have hnd:=h.nodup
 simp only [List.filterMap_cons,As.blk] at hnd
 refine ⟨h.os,h.tape,h.output,by simp;exact h.size,fun k o hk=>?_,fun x hx=>?_,by simpa [List.filterMap_cons,As.blk] using h.nodup⟩
 ·rw [hne k (fun e=>by subst e;rw [hown.1] at hk;cases hk)];exact h.mem k o hk
 ·rcases List.mem_cons.1 hx with rfl | hm
  ·exact ⟨hown.1,by simp [hlt]⟩
  ·have hx':=h.all x (List.mem_cons_of_mem _ hm)
   refine As.dX hx' (Sub.refl M) fun k hk=>⟨hne k fun e=>?_,(As.aD hx' hk).2⟩
   subst e
   exact (List.nodup_cons.1 hnd).1 (ga hm hk)

abbrev Pst:=Exit->Lm->Mem->List As->Prop

section
variable {P : Program} {n : Nat} {w0 : World} {X : Pst} {L : Lm} {M : Mem} {Γ : List As}

end
abbrev Post:=Value->Mem->List As->Prop
def RetP (w0 : World) (R : Post) (e : Ending) (w' : World) : Prop:=∃ v M Γ,e = .returned v/\R v M Γ/\St w0 M Γ w'

def uW (P : Program) (w0 : World) (M : Mem) (Γ : List As) (f : FuncId) (args : Array Value) (R : Post) : Prop :=
 ∀ w,St w0 M Γ w->Calls P f args w (RetP w0 R)


def Yq (P : Program) (w0 : World) (L : Lm) (M : Mem) (Γ : List As) (o : Oper) (v : Value) : Prop :=
 ∀ n a w,Sat n L a->St w0 M Γ w->(execOp a.eval o).run P w = .ok (.value v) w

section
variable {P : Program} {n : Nat} {w0 : World} {ops : Array Oper} {rest : List Oper} {L : Lm} {M : Mem} {Γ : List As} {K : Lm->Mem->List As->Prop}

end


section
variable {P : Program} {n : Nat} {w0 : World} {ops : Array Oper} {C0 : List As} {rest : List Oper} {L : Lm} {M : Mem} {Γ : List As} {K : Lm->List As->Prop}

end


def slotsOf : Nat->List Value->Lm
 | _,[]=>[]
 | i,v::vs=>(i,v)::slotsOf (i+1) vs

theorem qu : ∀ (vs : List Value) (i t : Nat) (v : Value),tY (slotsOf i vs) t = some v->∃ k,t = i+k/\vs[k]? = some v
 | [],_,_,_,h=>by simp [slotsOf,tY] at h
 | x::xs,i,t,v,h=>by
  simp only [slotsOf,tY] at h
  cases hb : Nat.beq t i with
  | true =>
   rw [hb] at h
   simp only [Option.some.injEq] at h
   exact ⟨0,by have:=Nat.eq_of_beq_eq_true hb;omega,by simp [h]⟩
  | false =>
   rw [hb] at h
   obtain ⟨k,h1,h2⟩:=qu xs (i+1) t v h
   exact ⟨k+1,Q0,by simpa using h2⟩

theorem vA (n : Nat) (args : List Value) (hn : Nat.ble args.length n = true) :
  Sat n (slotsOf 0 args) { tmps:=args.toArray++Array.replicate (n - args.toArray.size) undef,defers:=[] }:=by
 have hn' : args.length<=n:=by simpa [Nat.ble_eq] using hn
 refine ⟨Qc,rfl,fun t v h=>?_⟩
 obtain ⟨k,rfl,hk⟩:=qu args 0 t v h
 have : k < args.length:=by
  rcases Nat.lt_or_ge k args.length with h | h
  ·exact h
  ·rw [List.getElem?_eq_none h] at hk;cases hk
 simp only [Nat.zero_add]
 rw [Array.getElem?_append_left (by simpa using this)]
 simpa using hk

def iT (P : Program) (t : TypeId) : Bool:=match P.underlying t with
 | some (.struct _)=>false
 | some (.array ..)=>false
 | none=>false
 | _=>true
def AS (P : Program) (t : TypeId) (sz : Nat) : Bool:=(match P.underlying t with
 | some (.struct _)=>true
 | some (.array ..)=>true
 | _=>false) && (match P.info? t with
 | some i=>Nat.beq i.size sz
 | none=>false)
def jj (P : Program) (t : TypeId) (sz : Nat) : Bool:=match P.info? t with
 | some i=>Nat.beq i.size sz
 | none=>false
def sliceB (P : Program) (t e sz : Nat) : Bool:=(match P.underlying t with
 | some (.slice e')=>Nat.beq e' e
 | _=>false) && jj P e sz
def uq (P : Program) (s i off : Nat) : Bool:=match P.underlying s with
 | some (.struct fs)=>match fs[i]? with
  | some f=>Nat.beq f.offset off && (match P.info? f.type with
   | some j=>Nat.blt 0 j.size
   | none=>false)
  | none=>false
 | _=>false
def tZ (P : Program) (f : FuncId) : Bool:=match P.funcs[f]? with
 | some fn => !(fn.name == "runtime.NumGoroutine") && fn.body.isSome
 | none=>false

section
variable {P : Program} {w : World}
theorem sQ {t : TypeId} (h : iT P t = true) : (isAgg t).run P w = .ok false w:=by
 unfold iT at h
 unfold isAgg
 cases hu : P.underlying t with
 | none=>simp [hu] at h
 | some d =>
  simp only [Sem.run_bind,run_underlying hu,Result.andThen_ok]
  cases d <;> first | rfl | simp [hu] at h
theorem ze {t : TypeId} {sz : Nat} (h : AS P t sz = true) : (isAgg t).run P w = .ok true w/\(Go.sizeOf t).run P w = .ok sz w:=by
 unfold AS at h
 simp only [Bool.and_eq_true] at h
 obtain ⟨h1,h2⟩:=h
 constructor
 ·unfold isAgg
  cases hu : P.underlying t with
  | none=>simp [hu] at h1
  | some d =>
   simp only [Sem.run_bind,run_underlying hu,Result.andThen_ok]
   cases d <;> first | rfl | simp [hu] at h1
 ·cases hi : P.info? t with
  | none=>simp [hi] at h2
  | some i =>
   rw [hi] at h2
   have:=Nat.eq_of_beq_eq_true h2
   simp [Go.sizeOf,typeInfo,hi,this]
theorem dW {t : TypeId} {sz : Nat} (h : jj P t sz = true) : (Go.sizeOf t).run P w = .ok sz w:=by
 unfold jj at h
 cases hi : P.info? t with
 | none=>simp [hi] at h
 | some i =>
  rw [hi] at h
  have:=Nat.eq_of_beq_eq_true h
  simp [Go.sizeOf,typeInfo,hi,this]
theorem bH {t e sz : Nat} (h : sliceB P t e sz = true) : P.underlying t = some (.slice e)/\jj P e sz = true:=by
 unfold sliceB at h
 simp only [Bool.and_eq_true] at h
 obtain ⟨h1,h2⟩:=h
 refine ⟨?_,h2⟩
 cases hu : P.underlying t with
 | none=>simp [hu] at h1
 | some d =>
  rw [hu] at h1
  cases d <;> first | (have:=Nat.eq_of_beq_eq_true h1;subst this;rfl) | simp at h1
theorem Bj {s i off : Nat} (h : uq P s i off = true) (x : Addr) : (Instr.fieldAt s (.pointer (some x)) i).run P w = .ok (.pointer (some (x.add off))) w:=by
 unfold uq at h
 unfold Instr.fieldAt
 cases hu : P.underlying s with
 | none=>simp [hu] at h
 | some d =>
  rw [hu] at h
  cases d with
  | struct fs =>
   simp only [] at h
   cases hf : fs[i]? with
   | none=>simp [hf] at h
   | some f =>
    rw [hf] at h
    simp only [Bool.and_eq_true] at h
    obtain ⟨h1,h2⟩:=h
    have h1:=Nat.eq_of_beq_eq_true h1
    cases hi : P.info? f.type with
    | none=>simp [hi] at h2
    | some j =>
     rw [hi] at h2
     have h2 : 0 < j.size:=by simpa [Nat.blt_eq] using h2
     have h3 : j.size ≠ 0:=Q0
     simp [run_underlying hu,hf,Instr.sureAddr,fieldPlace,Go.sizeOf,typeInfo,hi,h3,h1]
  | _=>simp at h
end

section
variable {P : Program} {w0 : World} {L : Lm} {M : Mem} {Γ : List As} {d : Option Nat} {ty : TypeId} {pos : String} {af : Array Edge} {g : Option (Nat×Bool)}

namespace Y
theorem nS {z : Int} (h : -9223372036854775808<=z/\z<=9223372036854775807) : IntKind.i64.wrap z = z:=IntWalk.i64_in z h

theorem add {x y : Operand} {m k : Int} {t : TypeId} (hx : evL L x = some (.int .i64 m)) (hy : evL L y = some (.int .i64 k)) (hb : -9223372036854775808<=m+k/\m+k<=9223372036854775807) :
  Yq P w0 L M Γ ⟨d,.binOp .add t x y t,ty,pos,af,g⟩ (.int .i64 (m+k)):=fun n a w ha _=>by
 simp [execOp,ha.ev hx,ha.ev hy,eqGuard,Go.binOp,Op.intArith,nS hb]
theorem sub {x y : Operand} {m k : Int} {t : TypeId} (hx : evL L x = some (.int .i64 m)) (hy : evL L y = some (.int .i64 k)) (hb : -9223372036854775808<=m - k/\m - k<=9223372036854775807) :
  Yq P w0 L M Γ ⟨d,.binOp .sub t x y t,ty,pos,af,g⟩ (.int .i64 (m - k)):=fun n a w ha _=>by
 simp [execOp,ha.ev hx,ha.ev hy,eqGuard,Go.binOp,Op.intArith,nS hb]
theorem mul {x y : Operand} {m k : Int} {t : TypeId} (hx : evL L x = some (.int .i64 m)) (hy : evL L y = some (.int .i64 k)) (hb : -9223372036854775808<=m * k/\m * k<=9223372036854775807) :
  Yq P w0 L M Γ ⟨d,.binOp .mul t x y t,ty,pos,af,g⟩ (.int .i64 (m * k)):=fun n a w ha _=>by
 simp [execOp,ha.ev hx,ha.ev hy,eqGuard,Go.binOp,Op.intArith,nS hb]
theorem quo {x y : Operand} {m k : Int} {t : TypeId} (hx : evL L x = some (.int .i64 m)) (hy : evL L y = some (.int .i64 k)) (h0 : k ≠ 0) (hb : -9223372036854775808<=m.tdiv k/\m.tdiv k<=9223372036854775807) :
  Yq P w0 L M Γ ⟨d,.binOp .quo t x y t,ty,pos,af,g⟩ (.int .i64 (m.tdiv k)):=fun n a w ha _=>by
 simp [execOp,ha.ev hx,ha.ev hy,eqGuard,Go.binOp,Op.intDiv,h0,nS hb]
theorem rem {x y : Operand} {m k : Int} {t : TypeId} (hx : evL L x = some (.int .i64 m)) (hy : evL L y = some (.int .i64 k)) (h0 : k ≠ 0) :
  Yq P w0 L M Γ ⟨d,.binOp .rem t x y t,ty,pos,af,g⟩ (.int .i64 (m.tmod k)):=fun n a w ha _=>by
 simp [execOp,ha.ev hx,ha.ev hy,eqGuard,Go.binOp,Op.intDiv,h0]
theorem lss {x y : Operand} {m k : Int} {t : TypeId} (hx : evL L x = some (.int .i64 m)) (hy : evL L y = some (.int .i64 k)) :
  Yq P w0 L M Γ ⟨d,.binOp .lss t x y t,ty,pos,af,g⟩ (.bool (decide (m < k))):=fun n a w ha _=>by
 simp [execOp,ha.ev hx,ha.ev hy,eqGuard,Go.binOp,Op.intCmp]
theorem leq {x y : Operand} {m k : Int} {t : TypeId} (hx : evL L x = some (.int .i64 m)) (hy : evL L y = some (.int .i64 k)) :
  Yq P w0 L M Γ ⟨d,.binOp .leq t x y t,ty,pos,af,g⟩ (.bool (decide (m<=k))):=fun n a w ha _=>by
 simp [execOp,ha.ev hx,ha.ev hy,eqGuard,Go.binOp,Op.intCmp]
theorem gtr {x y : Operand} {m k : Int} {t : TypeId} (hx : evL L x = some (.int .i64 m)) (hy : evL L y = some (.int .i64 k)) :
  Yq P w0 L M Γ ⟨d,.binOp .gtr t x y t,ty,pos,af,g⟩ (.bool (decide (k < m))):=fun n a w ha _=>by
 simp [execOp,ha.ev hx,ha.ev hy,eqGuard,Go.binOp,Op.intCmp]
theorem geq {x y : Operand} {m k : Int} {t : TypeId} (hx : evL L x = some (.int .i64 m)) (hy : evL L y = some (.int .i64 k)) :
  Yq P w0 L M Γ ⟨d,.binOp .geq t x y t,ty,pos,af,g⟩ (.bool (decide (k<=m))):=fun n a w ha _=>by
 simp [execOp,ha.ev hx,ha.ev hy,eqGuard,Go.binOp,Op.intCmp]
theorem eql {x y : Operand} {m k : Int} {t : TypeId} (hx : evL L x = some (.int .i64 m)) (hy : evL L y = some (.int .i64 k)) :
  Yq P w0 L M Γ ⟨d,.binOp .eql t x y t,ty,pos,af,g⟩ (.bool (decide (m = k))):=fun n a w ha _=>by
 simp [execOp,ha.ev hx,ha.ev hy,eqGuard,Go.binOp,Op.intCmp]
 by_cases h : m = k <;> simp [h]
theorem neq {x y : Operand} {m k : Int} {t : TypeId} (hx : evL L x = some (.int .i64 m)) (hy : evL L y = some (.int .i64 k)) :
  Yq P w0 L M Γ ⟨d,.binOp .neq t x y t,ty,pos,af,g⟩ (.bool (decide (m ≠ k))):=fun n a w ha _=>by
 simp [execOp,ha.ev hx,ha.ev hy,eqGuard,Go.binOp,Op.intCmp]
 by_cases h : m = k <;> simp [h]
theorem neg {x : Operand} {m : Int} {t : TypeId} (hx : evL L x = some (.int .i64 m)) (hb : -9223372036854775808<=-m/\-m<=9223372036854775807) :
  Yq P w0 L M Γ ⟨d,.unOp .neg t x,ty,pos,af,g⟩ (.int .i64 (-m)):=fun n a w ha _=>by
 have hb' : -9223372036854775808<=0 - m/\0 - m<=9223372036854775807:=Q0
 simp only [execOp,ha.ev hx,Op.unary,Op.intArith,nS hb']
 simp
theorem not {x : Operand} {b : Bool} {t : TypeId} (hx : evL L x = some (.bool b)) :
  Yq P w0 L M Γ ⟨d,.unOp .not t x,ty,pos,af,g⟩ (.bool (!b)):=fun n a w ha _=>by
 simp [execOp,ha.ev hx,Op.unary]
theorem extract {x : Operand} {vs : List Value} {i : Nat} {v : Value} (hx : evL L x = some (.tuple vs.toArray)) (hi : vs[i]? = some v) :
  Yq P w0 L M Γ ⟨d,.extract x i,ty,pos,af,g⟩ v:=fun n a w ha _=>by
 simp [execOp,ha.ev hx,Instr.extract,hi]

theorem len {x : Operand} {t : TypeId} {a : Option Addr} {k c : Nat} {e : Nat} (hx : evL L x = some (.slice a k c)) (ht : P.underlying t = some (.slice e)) :
  Yq P w0 L M Γ ⟨d,.call ⟨.builtin .len,#[x],#[t]⟩,ty,pos,af,g⟩ (.int .i64 (k : Int)):=fun n a w ha _=>by
 simp [execOp,resolve,invoke,Go.builtin,Builtin.len_,ha.ev hx,run_underlying ht,goInt]
theorem min2 {x y : Operand} {m k : Int} {ts : Array TypeId} (hx : evL L x = some (.int .i64 m)) (hy : evL L y = some (.int .i64 k)) :
  Yq P w0 L M Γ ⟨d,.call ⟨.builtin .min,#[x,y],ts⟩,ty,pos,af,g⟩ (.int .i64 (min m k)):=fun n a w ha _=>by
 simp [execOp,resolve,invoke,Go.builtin,Builtin.min_,Builtin.min2,ha.ev hx,ha.ev hy]
 omega
theorem max2 {x y : Operand} {m k : Int} {ts : Array TypeId} (hx : evL L x = some (.int .i64 m)) (hy : evL L y = some (.int .i64 k)) :
  Yq P w0 L M Γ ⟨d,.call ⟨.builtin .max,#[x,y],ts⟩,ty,pos,af,g⟩ (.int .i64 (max m k)):=fun n a w ha _=>by
 simp [execOp,resolve,invoke,Go.builtin,Builtin.max_,Builtin.max2,ha.ev hx,ha.ev hy]
 omega

theorem index {x i : Operand} {t e sz : Nat} {a : Option Addr} {l c : Nat} {ik : IntKind} {z : Int} (k : Nat) (hx : evL L x = some (.slice a l c)) (hi : evL L i = some (.int ik z)) (hz : z = (k : Int)) (hk : k < l)
  (ht : sliceB P t e sz = true) (hs : ∀ w,St w0 M Γ w->a.isSome = true) :
  Yq P w0 L M Γ ⟨d,.indexAddr t x i,ty,pos,af,g⟩ (.pointer (some (adr a (k * sz)))):=fun n ac w ha hw=>by
 obtain ⟨b,rfl⟩:=Option.isSome_iff_exists.1 (hs w hw)
 subst hz
 obtain ⟨h1,h2⟩:=bH ht
 simp [execOp,ha.ev hx,ha.ev hi,Instr.indexAt,asIntOf,run_underlying h1,dW h2,hk,adr]
theorem field {x : Operand} {s i off : Nat} {a : Option Addr} {q : Nat} (hx : evL L x = some (.pointer (some (adr a q)))) (hf : uq P s i off = true) :
  Yq P w0 L M Γ ⟨d,.fieldAddr s x i,ty,pos,af,g⟩ (.pointer (some (adr a (q+off)))):=fun n ac w ha _=>by
 simp [execOp,ha.ev hx,Bj hf,cK]

theorem load {x : Operand} {t : TypeId} {p : Addr} {v : Value} (hx : evL L x = some (.pointer (some p))) (hf : iT P t = true) (hc : ∀ w,St w0 M Γ w->w.cell? p = some v) :
  Yq P w0 L M Γ ⟨d,.load t x,ty,pos,af,g⟩ v:=fun n a w ha hw=>by
 simp [execOp,ha.ev hx,Instr.loadAt,Instr.sureAddr,loadVar,sQ hf,hc w hw]
theorem run_loadCellsFrom {w : World} {p : Addr} : ∀ (vs : List Value) (i : Nat) (acc : Array Value),(∀ j v,vs[j]? = some v->w.cell? (p.add (i+j)) = some v) ->
  (loadCellsFrom p i vs.length acc).run P w = .ok (acc++vs.toArray) w
 | [],i,acc,_=>by simp [loadCellsFrom]
 | v::vs,i,acc,h=>by
  have h0 : w.cell? (p.add i) = some v:=by simpa using h 0 v rfl
  have ih:=run_loadCellsFrom (w:=w) (p:=p) vs (i+1) (acc.push v) fun j u hj=>by
   have:=h (j+1) u (by simpa using hj)
   rwa [show i+1+j = i+(j+1) from by omega]
  simp only [List.length_cons,loadCellsFrom,Sem.run_bind,run_load,h0,Result.andThen_ok,ih]
  simp
theorem rJ {x : Operand} {t : TypeId} {p : Addr} {vs : List Value} (hx : evL L x = some (.pointer (some p))) (hf : AS P t vs.length = true) (hc : ∀ w,St w0 M Γ w->∀ j v,vs[j]? = some v->w.cell? (p.add j) = some v) :
  Yq P w0 L M Γ ⟨d,.load t x,ty,pos,af,g⟩ (.agg vs.toArray):=fun n a w ha hw=>by
 obtain ⟨h1,h2⟩:=ze (P:=P) (w:=w) hf
 have h3:=run_loadCellsFrom (P:=P) (w:=w) (p:=p) vs 0 #[] (by simpa using hc w hw)
 simp [execOp,ha.ev hx,Instr.loadAt,Instr.sureAddr,loadVar,h1,h2,loadCells,h3]
end Y
end

theorem St.jo {w0 w : World} {M : Mem} {Γ : List As} (h : St w0 M Γ w) {b : Nat} {e : TypeId} {cs : List Value} (hm : As.own b e cs∈Γ) {q : Nat} {v : Value} (hq : cs[q]? = some v) :
  w.cell? (adr (some ⟨b,0,none⟩) q) = some v:=by
 have:=(h.all _ hm).2
 rw [bC]
 simp [World.cell?,this,hq]
end Xe

namespace Xe
open Go

theorem uB {M : Mem} {a : Option Addr} {q : Nat} : ∀ {ds : List D},(∀ j e,ds[j]? = some e->∃ u,cz M (adr a (q+j)) = some u/\Rd M e u) ->
  ∃ us,RdL M ds us/\∀ j v,us[j]? = some v->cz M (adr a (q+j)) = some v:=by
 intro ds
 induction ds generalizing q with
 | nil=>exact fun _=>⟨[],RdL.nil M,fun j v h=>by simp at h⟩
 | cons d ds ih =>
  intro h
  obtain ⟨u,h1,h2⟩:=h 0 d rfl
  obtain ⟨us,h3,h4⟩:=ih (q:=q+1) fun j e hj=>by
   have:=h (j+1) e (by simpa using hj)
   rwa [show q+1+j = q+(j+1) from by omega]
  refine ⟨u::us,RdL.cons h2 h3,fun j v hj=>?_⟩
  cases j with
  | zero=>simp only [List.getElem?_cons_zero,Option.some.injEq] at hj;subst hj;exact h1
  | succ j =>
   have:=h4 j v (by simpa using hj)
   rwa [show q+1+j = q+(j+1) from by omega] at this

theorem RdL.get {M : Mem} {ds : List D} {us : List Value} (h : RdL M ds us) {q : Nat} {e : D} (hq : ds[q]? = some e) : ∃ u,us[q]? = some u/\Rd M e u:=by
 have hlt : q < us.length:=by
  rw [h.1]
  rcases Nat.lt_or_ge q ds.length with h | h
  ·exact h
  ·rw [List.getElem?_eq_none h] at hq;cases hq
 exact ⟨us[q],by simp [hlt],h.2 q _ _ hq (by simp [hlt])⟩

theorem Rd.one {M : Mem} : ∀ {d : D} {u : Value},Rd M d u->u.oneCell' = true
 | .v x,u,h=>by simp only [Rd] at h;rw [h.1];exact h.2
 | .sl n sz cs,u,h=>by
  simp only [Rd] at h
  obtain ⟨a,c,rfl,_⟩:=h
  rfl
theorem RdL.one {M : Mem} {ds : List D} {us : List Value} (h : RdL M ds us) : ∀ u∈us,u.oneCell' = true:=by
 intro u hu
 obtain ⟨k,hk,rfl⟩:=List.mem_iff_getElem.1 hu
 have hk' : k < ds.length:=by rw [<-h.1];exact hk
 exact Rd.one (h.2 k ds[k] us[k] (by simp [hk']) (by simp [hk]))

section
variable {P : Program} {w0 : World} {L : Lm} {M : Mem} {Γ : List As} {d : Option Nat} {ty : TypeId} {pos : String} {af : Array Edge} {g : Option (Nat×Bool)}
namespace Y
end Y
end

section
variable {P : Program} {n : Nat} {w0 : World} {ops : Array Oper} {rest : List Oper} {L : Lm} {M : Mem} {Γ : List As} {K : Lm->Mem->List As->Prop}
end

section
variable {P : Program} {n : Nat} {w0 : World} {ops : Array Oper} {C0 : List As} {rest : List Oper} {L : Lm} {M : Mem} {Γ : List As} {K : Lm->List As->Prop}

end

section
variable {P : Program} {n : Nat} {w0 : World} {ops : Array Oper} {rest : List Oper} {L : Lm} {M : Mem} {Γ : List As} {K : Lm->Mem->List As->Prop} {ty : TypeId} {pos : String} {af : Array Edge} {d : Nat}

def gG (P : Program) (e : TypeId) : Option Value:=(P.info? e).bind (·.zero)
theorem fT {w : World} {e : TypeId} {z : Value} (h : gG P e = some z) : (zeroValue e).run P w = .ok z w:=by
 unfold gG at h
 cases hi : P.info? e with
 | none=>simp [hi] at h
 | some i =>
  simp only [hi,Option.bind_some] at h
  simp [zeroValue,typeInfo,hi,h]

end

section
variable {P : Program} {n : Nat} {w0 : World} {ops : Array Oper} {rest : List Oper} {L : Lm} {M : Mem} {Γ : List As} {K : Lm->Mem->List As->Prop} {ty : TypeId} {pos : String} {af : Array Edge} {d : Nat}
theorem eL : ∀ (vs : List Value) (i : Nat) (w : World) (b : Nat) (e : TypeId) (cs : List Value) (q : Nat),w.heap[b]? = some (.cells cs.toArray e (0,0))->q+i+vs.length<=cs.length->(∀ v∈vs,v.oneCell' = true) ->
  (storeCells (adr (some ⟨b,0,none⟩) q) vs i).run P w = .ok () { w with heap:=w.heap.setIfInBounds b (.cells (cs.take (q+i)++vs++cs.drop (q+i+vs.length)).toArray e (0,0)) }:=by
 intro vs i w b e cs q h hl h1
 rw [bC]
 have:=run_storeCells_at P b (0+q) e vs i cs.toArray w (by rw [h]) (by simpa using hl) h1
 rw [this]
 simp only [World.setRow,Nat.zero_add]
 congr 2
 have hlt : b < w.heap.size:=(Array.getElem?_eq_some_iff.1 h).1
 have hb : w.heap[b] = .cells cs.toArray e (0,0):=(Array.getElem?_eq_some_iff.1 h).2
 apply Array.ext
 ·simp
 ·intro j h3 h4
  by_cases hi : b = j
  ·subst hi
   simp [Array.getElem_modify,hb]
  ·rw [Array.getElem_modify,if_neg hi,Array.getElem_setIfInBounds_ne (by simpa using h3) hi]

end

def evs (L : Lm) : List Operand->Option (List Value)
 | []=>some []
 | x::xs=>match evL L x with
  | some v=>match evs L xs with
   | some vs=>some (v::vs)
   | none=>none
  | none=>none
theorem Sat.evs {n : Nat} {L : Lm} {a : Act} (h : Sat n L a) : ∀ {xs : List Operand} {vs : List Value},evs L xs = some vs->xs.map a.eval = vs
 | [],vs,hv=>by simp only [Xe.evs,Option.some.injEq] at hv;simp [<-hv]
 | x::xs,vs,hv=>by
  simp only [Xe.evs] at hv
  cases hx : evL L x with
  | none=>simp [hx] at hv
  | some v =>
   rw [hx] at hv
   simp only [] at hv
   cases hxs : Xe.evs L xs with
   | none=>simp [hxs] at hv
   | some us =>
    rw [hxs] at hv
    simp only [Option.some.injEq] at hv
    rw [<-hv]
    simp [h.ev hx,h.evs hxs]

section
variable {P : Program} {w0 : World} {L : Lm} {M : Mem} {Γ : List As} {d : Option Nat} {ty : TypeId} {pos : String} {af : Array Edge} {g : Option (Nat×Bool)}
theorem EA {w : World} {f : FuncId} (h : tZ P f = true) (args : Array Value) : (callFunc f args).run P w = .ok (.enter f args) w:=by
 unfold tZ at h
 cases hf : P.funcs[f]? with
 | none=>simp [hf] at h
 | some fn =>
  rw [hf] at h
  simp only [Bool.and_eq_true,Bool.not_eq_true',beq_eq_false_iff_ne] at h
  obtain ⟨h1,h2⟩:=h
  have h3 : fn.body ≠ none:=by intro e;rw [e] at h2;cases h2
  simp [callFunc,hf,h1,h3]
end

section
variable {P : Program} {n : Nat} {w0 : World} {ops : Array Oper} {rest : List Oper} {L : Lm} {M : Mem} {Γ : List As} {K : Lm->Mem->List As->Prop} {ty : TypeId} {pos : String} {af : Array Edge} {d : Nat}
end
section
variable {P : Program} {n : Nat} {w0 : World} {ops : Array Oper} {C0 : List As} {rest : List Oper} {L : Lm} {M : Mem} {Γ : List As} {K : Lm->List As->Prop} {ty : TypeId} {pos : String} {af : Array Edge} {d : Nat} {g : Option (Nat×Bool)}
end
end Xe

namespace Xe
open Go

def Mem.put (M : Mem) (b : Nat) (o : Obj) : Mem:=fun k=>if k = b then some o else M k
theorem Mem.om {M : Mem} {b : Nat} {o : Obj} (h : M b = none) : Sub M (M.put b o):=fun k x hk=>by
 unfold Mem.put
 by_cases e : k = b
 ·subst e;rw [h] at hk;cases hk
 ·rw [if_neg e];exact hk

theorem St.nu {w0 w : World} {M : Mem} {Γ : List As} {x : As} {b : Nat} {o : Obj} (hw : St w0 M (x::Γ) w) (hx : x.blk = some b) (ho : w.heap[b]? = some o) : St w0 (M.put b o) Γ w:=by
 have hb:=As.aD (hw.all x (List.mem_cons_self ..)) hx
 have hs : Sub M (M.put b o):=Mem.om hb.2
 have hnd:=hw.nodup
 simp only [List.filterMap_cons,hx] at hnd
 refine ⟨hw.os,hw.tape,hw.output,hw.size,fun k y hk=>?_,fun y hy=>?_,(List.nodup_cons.1 hnd).2⟩
 ·unfold Mem.put at hk
  by_cases e : k = b
  ·subst e;rw [if_pos rfl] at hk;cases hk;exact ho
  ·rw [if_neg e] at hk;exact hw.mem k y hk
 ·have hy':=hw.all y (List.mem_cons_of_mem _ hy)
  refine As.dX hy' hs fun k hk=>⟨rfl,?_⟩
  have hne : k ≠ b:=fun e=>by subst e;exact (List.nodup_cons.1 hnd).1 (ga hy hk)
  unfold Mem.put
  rw [if_neg hne]
  exact (As.aD hy' hk).2

theorem FH {M : Mem} {b : Nat} {c : Array Value} {e : TypeId} {i : Nat} {v : Value} (h : c[i]? = some v) : cz (M.put b (.cells c e (0,0))) (adr (some ⟨b,0,none⟩) i) = some v:=by
 rw [bC]
 simp [cz,Mem.put,h]

theorem St.CT {w0 w : World} {M : Mem} {Γ : List As} {u : Value} {e : TypeId} {sz n : Nat} {us : List Value} {ds : List D} (hw : St w0 M (.acc u e sz n us::Γ) w) (hr : RdL M ds us) (hn : n<=lim) :
  ∃ M',Sub M M'/\Rd M' (.sl n sz ds) u/\St w0 M' (.rd (.sl n sz ds) u::Γ) w:=by
 have hx:=hw.all _ (List.mem_cons_self ..)
 obtain ⟨⟨hl,hh⟩,hM⟩:=hx
 rcases hh with ⟨rfl,rfl⟩ | ⟨b,cap,cur,rfl,_,hb,hnc,hcm,hcs,htk⟩
 ·have hd : ds = []:=by
   have h1:=hr.1
   have : us.length = 0:=by simpa using hl
   rw [this] at h1
   exact List.eq_nil_of_length_eq_zero h1.symm
  subst hd
  have hrd : Rd M (.sl 0 sz []) (.slice none 0 0):=by
   simp only [Rd]
   exact ⟨none,0,rfl,Nat.le_refl _,Nat.zero_le _,Nat.zero_le _,Q2,Q2,by simp [RdC]⟩
  refine ⟨M,Sub.refl M,hrd,?_⟩
  exact (hw.sub (List.sublist_cons_self _ _)).add (x:=.rd (.sl 0 sz []) (.slice none 0 0)) hrd rfl
 ·have hMb : M b = none:=hM b rfl
  have hs : Sub M (M.put b (.cells cur e (0,0))):=Mem.om hMb
  have hw':=hw.nu (b:=b) rfl hb
  have hrd : Rd (M.put b (.cells cur e (0,0))) (.sl n sz ds) (.slice (some ⟨b,0,none⟩) n cap):=by
   simp only [Rd]
   refine ⟨some ⟨b,0,none⟩,cap,rfl,hnc,hcm,hn,by rw [<-hr.1];exact hl,fun _=>rfl,RdC.mk ds 0 fun k d hk=>?_⟩
   obtain ⟨v,h1,h2⟩:=RdL.get hr hk
   refine ⟨v,?_,Rd.mono hs d v h2⟩
   rw [Nat.zero_add]
   apply FH
   have hk' : k < n * sz:=by
    rw [<-hl]
    rcases Nat.lt_or_ge k us.length with h | h
    ·exact h
    ·rw [List.getElem?_eq_none h] at h1;cases h1
   rw [<-htk,List.getElem?_take_of_lt hk'] at h1
   simpa using h1
  exact ⟨_,hs,hrd,hw'.add (x:=.rd _ _) hrd rfl⟩

theorem St.xJ {w0 w : World} {M : Mem} {Γ : List As} {b n : Nat} {e : TypeId} {sz : Nat} {us : List Value} (hw : St w0 M (.own b e us::Γ) w) (hl : us.length = n * sz) (hn : n<=maxLen) :
  St w0 M (.acc (.slice (some ⟨b,0,none⟩) n n) e sz n us::Γ) w:=by
 have hx:=hw.all _ (List.mem_cons_self ..)
 refine ⟨hw.os,hw.tape,hw.output,hw.size,hw.mem,fun y hy=>?_,by simpa [List.filterMap_cons,As.blk,Value.ownBlock] using hw.nodup⟩
 rcases List.mem_cons.1 hy with rfl | hy
 ·refine ⟨⟨hl,.inr ⟨b,n,us.toArray,rfl,Nat.zero_le _,hx.2,Nat.le_refl _,hn,by simpa using hl,?_⟩⟩,fun k hk=>?_⟩
  ·rw [List.take_of_length_le Qc]
  ·simp only [Value.ownBlock,Option.some.injEq] at hk
   subst hk;exact hx.1
 ·exact hw.all y (List.mem_cons_of_mem _ hy)

theorem St.rW {w0 w : World} {M : Mem} {Γ : List As} (hw : St w0 M Γ w) (e sz : Nat) : St w0 M (.acc (.slice none 0 0) e sz 0 []::Γ) w :=
 hw.add ⟨World.ownsRow_nil w 0 e sz,fun b hb=>by simp [Value.ownBlock] at hb⟩ rfl

structure ElemOk (P : Program) (t e sz bytes : Nat) : Prop where
 ut : P.underlying t = some (.slice e)
 info : ∃ i z,P.info? e = some i/\i.zero = some z/\i.size = sz/\i.bytes = bytes/\z.cells.size = sz
 pos : 0 < sz
def gx (w0 : World) (M : Mem) (Γ : List As) (x : Value) (sz m : Nat) (news : List Value) : Prop :=
 news.length = m * sz/\(∀ u∈news,u.oneCell' = true) /\
 ((∃ p c,x = .slice (some p) m c/\∀ w,St w0 M Γ w->∀ j u,news[j]? = some u->w.cell? (p.add j) = some u)\/(m = 0/\∃ c,x = .slice none 0 c))

theorem St.grown {w0 w w' : World} {M : Mem} {Γ : List As} {u u' : Value} {e : TypeId} {sz n n' : Nat} {us us' : List Value} (hw : St w0 M (.acc u e sz n us::Γ) w)
  (hg : w.grownBy w' u.ownBlock) (ho : w'.ownsRow 0 e sz u' n' us') (hb : ∀ b,u'.ownBlock = some b->u.ownBlock = some b\/w.heap.size<=b) : St w0 M (.acc u' e sz n' us'::Γ) w':=by
 have hx:=hw.all _ (List.mem_cons_self ..)
 have hold : ∀ k,k < w.heap.size->u.ownBlock ≠ some k->w'.heap[k]? = w.heap[k]?:=fun k hk hne=>hg.block k hk (fun e=>hne e.symm)
 have hnd:=hw.nodup
 have hrest : ∀ y∈Γ,∀ k,y.blk = some k->u.ownBlock ≠ some k:=fun y hy k hk e=>by
  simp only [List.filterMap_cons,As.blk,e] at hnd
  exact (List.nodup_cons.1 hnd).1 (ga hy hk)
 refine ⟨hg.os.trans hw.os,hg.tape.trans hw.tape,hg.output.trans hw.output,Nat.le_trans hw.size hg.size,fun k o hk=>?_,fun y hy=>?_,?_⟩
 ·rw [hold k (hw.lt hk) (fun e=>by rw [hx.2 k e] at hk;cases hk)];exact hw.mem k o hk
 ·rcases List.mem_cons.1 hy with rfl | hm
  ·refine ⟨ho,fun b hbb=>?_⟩
   rcases hb b hbb with h | h
   ·exact hx.2 b h
   ·cases hM : M b with
    | none=>rfl
    | some o=>have:=hw.lt hM;omega
  ·have hy':=hw.all y (List.mem_cons_of_mem _ hm)
   refine As.dX hy' (Sub.refl M) fun k hk=>⟨hold k (As.aD hy' hk).1 (hrest y hm k hk),(As.aD hy' hk).2⟩
 ·simp only [List.filterMap_cons,As.blk] at hnd ⊢
  cases hu' : u'.ownBlock with
  | none =>
   cases hu : u.ownBlock with
   | none=>simpa [hu] using hnd
   | some k=>rw [hu] at hnd;exact (List.nodup_cons.1 hnd).2
  | some b =>
   have hnd2 : (List.filterMap As.blk Γ).Nodup:=by
    cases hu : u.ownBlock with
    | none=>simpa [hu] using hnd
    | some k=>rw [hu] at hnd;exact (List.nodup_cons.1 hnd).2
   refine List.nodup_cons.2 ⟨fun hm=>?_,hnd2⟩
   obtain ⟨y,hy,hk⟩:=List.mem_filterMap.1 hm
   rcases hb b hu' with h | h
   ·exact hrest y hy b hk h
   ·have:=(As.aD (hw.all y (List.mem_cons_of_mem _ hy)) hk).1
    omega

theorem j6 {P : Program} {w0 w : World} {M : Mem} {Γ : List As} {t ty e sz bytes n m : Nat} {u x : Value} {us news : List Value} (hE : ElemOk P t e sz bytes)
  (hw : St w0 M (.acc u e sz n us::Γ) w) (hs : gx w0 M (.acc u e sz n us::Γ) x sz m news) (hb : (n+m) * bytes<=140737488355328) (hm : n+m<=lim) :
  ∃ u' w',(Builtin.append_ #[t,t] ty #[u,x]).run P w = .ok u' w'/\St w0 M (.acc u' e sz (n+m) (us++news)::Γ) w':=by
 obtain ⟨ht,⟨i,z,hi,hz,hsize,hby,hzs⟩,hpos⟩:=hE
 obtain ⟨hl,h1,hsrc⟩:=hs
 have hx:=hw.all _ (List.mem_cons_self ..)
 have h63 : n+m<=maxLen:=by unfold lim at hm;unfold maxLen;omega
 rcases hsrc with ⟨p,c,rfl,hnews⟩ | ⟨rfl,c,rfl⟩
 ·obtain ⟨v',w',hr,ho,hg,_⟩:=run_append_own (P:=P) w 0 t ty e i z sz bytes ht hi hz hsize hby hzs hpos u n us hx.1 p m c news hl (hnews w hw) h1 h63 hb (Nat.zero_le _)
  refine ⟨v',w',hr,hw.grown hg ho fun b hbb=>?_⟩
  subst hsize
  obtain ⟨hlen,hh⟩:=hx.1
  rcases hh with ⟨rfl,rfl⟩ | ⟨b0,cap,cur,rfl,_,hb0,hnc,hcm,hcs,htk⟩
  ·rcases Nat.eq_zero_or_pos m with rfl | hmp
   ·have e0 : news = []:=List.eq_nil_of_length_eq_zero (by simpa using hl)
    subst e0
    have hr2 : (Builtin.append_ #[t,t] ty #[.slice none 0 0,.slice (some p) 0 c]).run P w = .ok (.slice none 0 0) w:=by
     have hf:=run_firstCells_some (P:=P) w i.size 0 p 0 c [] Q2 Q2
     simp [Builtin.append_,run_underlying ht,Go.sizeOf,typeInfo,hi,Builtin.lenOf,hf]
    rw [hr2] at hr
    cases hr
    simp [Value.ownBlock] at hbb
   ·have hr2:=run_append_nil (P:=P) w t ty e i z ht hi hz p m c news hl (hnews w hw) hmp (by unfold lim at hm;omega) (by rw [hby];simp at hb;omega)
    rw [hr2] at hr
    cases hr
    simp only [Value.ownBlock,Option.some.injEq] at hbb
    right;omega
  ·by_cases hroom : n+m<=cap
   ·have hr2:=run_append_room (P:=P) w t ty e i ht hi b0 n cap cur hb0 p m c news hl (hnews w hw) h1 hroom (by rw [hl,hcs,<-Nat.add_mul];exact Nat.mul_le_mul_right _ hroom)
    rw [hr2] at hr
    cases hr
    exact .inl hbb
   ·have holds : ∀ j v,us[j]? = some v->w.cell? ((⟨b0,0,none⟩ : Addr).add j) = some v:=hx.1.cells rfl
    have hr2:=run_append_grow (P:=P) w t ty e i z ht hi hz ⟨b0,0,none⟩ n cap us hlen holds p m c news hl (hnews w hw) Q0 (by unfold lim at hm;omega)
     (by rw [hby];exact growslice_fits Q0 hb)
    rw [hr2] at hr
    cases hr
    simp only [Value.ownBlock,Option.some.injEq] at hbb
    right;omega
 ·have e0 : news = []:=List.eq_nil_of_length_eq_zero (by simpa using hl)
  subst e0
  refine ⟨u,w,?_,by simpa using hw⟩
  obtain ⟨hlen,hh⟩:=hx.1
  rcases hh with ⟨rfl,rfl⟩ | ⟨b0,cap,cur,rfl,_,hb0,hnc,hcm,hcs,htk⟩
  ·simp [Builtin.append_,run_underlying ht,Go.sizeOf,typeInfo,hi,Builtin.lenOf,Builtin.firstCells]
  ·simp [Builtin.append_,run_underlying ht,Go.sizeOf,typeInfo,hi,Builtin.lenOf,Builtin.firstCells,hnc,storeCells]

def splice (cs : List Value) (off : Nat) (vs : List Value) : List Value:=cs.take off++vs++cs.drop (off+vs.length)
theorem uX {cs : List Value} {off : Nat} {vs : List Value} (h : off+vs.length<=cs.length) : (splice cs off vs).length = cs.length:=by
 simp [splice];omega

theorem qH : ∀ (l : List Value) (off k : Nat) (cs : List Value),off+k+l.length<=cs.length ->
  (l.zipIdx k).foldl (fun (c : Array Value) (x : Value×Nat)=>c.setIfInBounds (off+x.2) x.1) cs.toArray = (splice cs (off+k) l).toArray
 | [],off,k,cs,_=>by simp [splice]
 | v::l,off,k,cs,h=>by
  have h' : off+(k+1)+l.length<=cs.length:=by simp at h;omega
  simp only [List.zipIdx_cons,List.foldl_cons,List.setIfInBounds_toArray]
  rw [qH l off (k+1) (cs.set (off+k) v) (by simpa using h')]
  congr 1
  simp only [splice]
  have hk : off+k < cs.length:=by simp at h;omega
  rw [<-Nat.add_assoc,List.take_succ_eq_append_getElem (by simpa using hk),List.take_set_of_le Q0]
  simp only [List.getElem_set_self,List.length_cons,List.append_assoc,List.cons_append,List.nil_append,Nat.add_assoc]
  congr 3
  rw [List.drop_set,if_pos Q0]
  congr 1
  omega

def gq (place : Nat->Option (Nat×Nat)) : List Value->List (Nat×List Value)->Option (List Value)
 | cells,[]=>some cells
 | cells,(i,vs)::rest=>match place i with
  | none=>none
  | some (off,size)=>if vs.length = size/\off+size<=cells.length then gq place (splice cells off vs) rest else none

def dS : Value->List Value
 | .agg cs=>cs.toList
 | v=>[v]
theorem iV (v : Value) : v.cells = (dS v).toArray:=by cases v <;> simp [Value.cells,dS]

theorem fill_eq (place : Nat->Option (Nat×Nat)) : ∀ (parts : List (Nat×Value)) (cells out : List Value),gq place cells (parts.map fun p=>(p.1,dS p.2)) = some out->Instr.fill place cells.toArray parts = some out.toArray
 | [],cells,out,h=>by simp only [List.map_nil,gq,Option.some.injEq] at h;simp [Instr.fill,h]
 | (i,v)::rest,cells,out,h=>by
  simp only [List.map_cons,gq] at h
  unfold Instr.fill
  cases hp : place i with
  | none=>simp [hp] at h
  | some os =>
   obtain ⟨off,size⟩:=os
   rw [hp] at h
   simp only [] at h ⊢
   split at h
   ·rename_i hc
    obtain ⟨h1,h2⟩:=hc
    have hsz : v.cells.size = size:=by rw [iV];simpa using h1
    rw [if_neg (by simp [hsz];omega)]
    rw [iV v,<-Array.foldl_toList,Array.toList_zipIdx]
    have:=qH (dS v) off 0 cells Q0
    simp only [Nat.add_zero] at this
    rw [this]
    exact fill_eq place rest _ _ h
   ·cases h

def pEv (L : Lm) : List (Nat×Operand)->Option (List (Nat×Value))
 | []=>some []
 | (i,x)::r=>match evL L x with
  | some v=>match pEv L r with
   | some vs=>some ((i,v)::vs)
   | none=>none
  | none=>none
theorem Sat.pEv {n : Nat} {L : Lm} {a : Act} (h : Sat n L a) : ∀ {xs : List (Nat×Operand)} {vs : List (Nat×Value)},pEv L xs = some vs->xs.map (fun p=>(p.1,a.eval p.2)) = vs
 | [],vs,hv=>by simp only [Xe.pEv,Option.some.injEq] at hv;simp [<-hv]
 | (i,x)::xs,vs,hv=>by
  simp only [Xe.pEv] at hv
  cases hx : evL L x with
  | none=>simp [hx] at hv
  | some v =>
   rw [hx] at hv
   simp only [] at hv
   cases hxs : Xe.pEv L xs with
   | none=>simp [hxs] at hv
   | some us =>
    rw [hxs] at hv
    simp only [Option.some.injEq] at hv
    rw [<-hv]
    simp [h.ev hx,h.pEv hxs]

def xF (P : Program) (t : TypeId) : Option (List (Nat×Nat)):=match P.underlying t with
 | some (.struct fs)=>fs.toList.mapM fun f=>match P.info? f.type with
  | some i=>some (f.offset,i.size)
  | none=>none
 | _=>none

theorem run_places {P : Program} {w : World} : ∀ (fs : List Field) (pl : List (Nat×Nat)),(fs.mapM fun f=>match P.info? f.type with
  | some i=>some (f.offset,i.size)
  | none=>none) = some pl->(fs.mapM fun f=>Prod.mk f.offset <$> Go.sizeOf f.type : Sem (List (Nat×Nat))).run P w = .ok pl w
 | [],pl,h=>by simp at h;simp [<-h]
 | f::fs,pl,h=>by
  simp only [List.mapM_cons] at h ⊢
  cases hi : P.info? f.type with
  | none=>simp [hi] at h
  | some i =>
   simp only [hi,Option.bind_eq_bind,Option.bind_some] at h
   cases hr : (fs.mapM fun f=>match P.info? f.type with
    | some i=>some (f.offset,i.size)
    | none=>none) with
   | none=>rw [hr] at h;simp at h
   | some pl' =>
    rw [hr] at h
    simp only [Option.bind_some,Option.pure_def,Option.some.injEq] at h
    subst h
    have ih:=run_places (P:=P) (w:=w) fs pl' hr
    have hs : (Go.sizeOf f.type).run P w = .ok i.size w:=by simp [Go.sizeOf,typeInfo,hi]
    simp only [Sem.run_bind,Sem.run_map,hs,Result.andThen_ok,ih,Sem.run_pure]

section
variable {P : Program} {w0 : World} {L : Lm} {M : Mem} {Γ : List As} {d : Option Nat} {ty : TypeId} {pos : String} {af : Array Edge} {g : Option (Nat×Bool)}
namespace Y
theorem build {t : TypeId} {parts : List (Nat×Operand)} {vs : List (Nat×Value)} {zs : List Value} {pl : List (Nat×Nat)} (out : List Value) (hp : pEv L parts = some vs) (hz : gG P t = some (.agg zs.toArray)) (hpl : xF P t = some pl)
  (hf : gq (pl[·]?) zs (vs.map fun p=>(p.1,dS p.2)) = some out) : Yq P w0 L M Γ ⟨d,.build t parts.toArray,ty,pos,af,g⟩ (.agg out.toArray):=fun n a w ha _=>by
 unfold xF at hpl
 cases hu : P.underlying t with
 | none=>simp [hu] at hpl
 | some dd =>
  rw [hu] at hpl
  cases dd with
  | struct fs =>
   simp only [] at hpl
   have h1:=run_places (P:=P) (w:=w) fs.toList pl hpl
   have h2:=fill_eq (pl[·]?) vs zs out hf
   have h3 : (parts.toArray.map fun x=>(x.1,a.eval x.2)) = vs.toArray:=by rw [List.map_toArray,ha.pEv hp]
   have h4 : (fs.mapM fun f=>(do pure (f.offset,<-Go.sizeOf f.type) : Sem (Nat×Nat))).run P w = .ok pl.toArray w:=by
    rw [Array.mapM_eq_mapM_toList]
    simp [h1]
   simp only [execOp,h3]
   simp only [Instr.build,Sem.run_bind,fT hz,Result.andThen_ok,run_underlying hu,Value.cells,h4,List.getElem?_toArray,h2,Sem.run_pure]
  | _=>simp at hpl
end Y
end

section
variable {P : Program} {n : Nat} {w0 : World} {ops : Array Oper} {rest : List Oper} {L : Lm} {M : Mem} {Γ : List As} {K : Lm->Mem->List As->Prop} {ty : TypeId} {pos : String} {af : Array Edge} {d : Nat}

theorem kL {w : World} {t e sz bytes len : Nat} {vs : List (Nat×Value)} {out : List Value} (hE : ElemOk P t e sz bytes) (hlen : Nat.ble (len * sz) 16777216 = true)
  (hf : ∀ zs : List Value,zs.length = len * sz->gq (fun i=>some (i * sz,sz)) zs (vs.map fun p=>(p.1,dS p.2)) = some out) :
  (Instr.buildSlice t len vs.toArray).run P w = .ok (.slice (some ⟨w.heap.size,0,none⟩) len len) { w with heap:=w.heap.push (.cells out.toArray e (0,0)) }:=by
 obtain ⟨ht,⟨i,z,hi,hz,hsize,hby,hzs⟩,hpos⟩:=hE
 have hl : ¬ (16777216 < len * sz):=by simpa [Nat.ble_eq] using hlen
 by_cases h0 : len * sz = 0
 ·have h1:=fill_eq (fun i=>some (i * sz,sz)) vs [] out (hf [] (by simp [h0]))
  have e0 : Array.map (fun _=>(default : Value)) (Array.range 0) = #[]:=Q2
  simp [Instr.buildSlice,run_underlying ht,Go.sizeOf,typeInfo,hi,hsize,h0,h1,e0,newRow]
 ·have h1:=fill_eq (fun i=>some (i * sz,sz)) vs ((Array.range (len * sz)).map (z.cells[· % z.cells.size]!)).toList out (hf _ Q2)
  simp only [Array.toArray_toList] at h1
  simp [Instr.buildSlice,run_underlying ht,Go.sizeOf,typeInfo,zeroValue,hi,hz,hsize,h0,hl,h1,newRow]

theorem fc {w : World} {u : Value} {e : TypeId} {sz n : Nat} {us : List Value} (h : As.ok M w (.acc u e sz n us)) : ∃ a c,u = .slice a n c/\n<=c:=by
 obtain ⟨⟨_,hh⟩,_⟩:=h
 rcases hh with ⟨rfl,rfl⟩ | ⟨b,cap,cur,rfl,_,_,hc,_⟩
 ·exact ⟨none,0,rfl,Nat.le_refl _⟩
 ·exact ⟨_,cap,rfl,hc⟩
end

theorem Rd.slice {M : Mem} {n sz : Nat} {cs : List D} {u : Value} (h : Rd M (.sl n sz cs) u) : ∃ a c,u = .slice a n c/\n<=c/\n<=140737488355328/\cs.length = n * sz:=by
 simp only [Rd] at h
 obtain ⟨a,c,h1,h2,_,h4,h5,_⟩:=h
 exact ⟨a,c,h1,h2,h4,h5⟩
end Xe

namespace Xe
open Go

section
variable {P : Program} {n : Nat} {w0 : World} {ops : Array Oper} {Mc : Mem} {Γc : List As} {fuel : Nat} {listed : Array Bool} {L : Lm} {M : Mem} {Γ : List As} {K : Lm->Mem->List As->Prop}

end
abbrev ints (l : List Int) : List Value:=l.map fun n=>.int .i64 n
def mat (l : List (Nat×List Int)) : List As:=l.map fun p=>.own p.1 3 (ints p.2)
def iJ (L : Lm) : Option Operand->Nat->Nat->Prop
 | none,d,k=>k = d
 | some x,_,k=>∃ z,evL L x = some (.int .i64 z)/\z = (k : Int)
theorem run_sliceBound {P : Program} {w : World} {z : Int} {y k : Nat} {c : BoundsCode} (h : z = (k : Int)) (hk : k<=y) : (Instr.sliceBound (.int .i64 z) y c).run P w = .ok k w:=by
 subst h
 simp [Instr.sliceBound,asIntOf,hk]
def jA (a : Option Addr) (l h m sz : Nat) : Value:=.slice (if m = l then a else a.map (·.add (l * sz))) (h - l) (m - l)
theorem Y.slice {P : Program} {w0 : World} {L : Lm} {M : Mem} {Γ : List As} {d : Option Nat} {ty : TypeId} {pos : String} {af : Array Edge} {g : Option (Nat×Bool)} {x : Operand} {lo hi mx : Option Operand} {t e sz : Nat} {a : Option Addr} {n c : Nat} (l h m : Nat)
  (hx : evL L x = some (.slice a n c)) (hlo : iJ L lo 0 l) (hhi : iJ L hi n h) (hmx : iJ L mx c m) (hb : hi.isSome = true\/mx.isSome = false) (h1 : l<=h) (h2 : h<=m) (h3 : m<=c) (ht : sliceB P t e sz = true) :
  Yq P w0 L M Γ ⟨d,.slice t x lo hi mx,ty,pos,af,g⟩ (jA a l h m sz):=fun k ac w ha _=>by
 obtain ⟨e1,e2⟩:=bH ht
 have r3:=dW (P:=P) (w:=w) e2
 have key : (Instr.slice t (.slice a n c) (lo.map ac.eval) (hi.map ac.eval) (mx.map ac.eval)).run P w = .ok (jA a l h m sz) w:=by
  have hl : lo = none/\l = 0\/∃ y z,lo = some y/\ac.eval y = .int .i64 z/\z = (l : Int):=by
   cases lo with
   | none=>exact .inl ⟨rfl,hlo⟩
   | some y=>obtain ⟨z,hz,e⟩:=hlo;exact .inr ⟨y,z,rfl,ha.ev hz,e⟩
  cases mx with
  | none =>
   simp only [iJ] at hmx;subst hmx
   cases hi with
   | none =>
    simp only [iJ] at hhi;subst hhi
    rcases hl with ⟨rfl,rfl⟩ | ⟨y,z,rfl,hy,hz⟩
    ·simp [Instr.slice,run_underlying e1,Instr.sliceBounds,r3,jA]
    ·simp [Instr.slice,run_underlying e1,Instr.sliceBounds,hy,r3,run_sliceBound hz h1,jA]
   | some y =>
    obtain ⟨z,hz,e⟩:=hhi
    rcases hl with ⟨rfl,rfl⟩ | ⟨y',z',rfl,hy,hz'⟩
    ·simp [Instr.slice,run_underlying e1,Instr.sliceBounds,ha.ev hz,r3,run_sliceBound e h2,jA]
    ·simp [Instr.slice,run_underlying e1,Instr.sliceBounds,ha.ev hz,hy,r3,run_sliceBound e h2,run_sliceBound hz' h1,jA]
  | some u =>
   obtain ⟨z',hz',e'⟩:=hmx
   cases hi with
   | none=>simp at hb
   | some y =>
    obtain ⟨z,hz,e⟩:=hhi
    rcases hl with ⟨rfl,rfl⟩ | ⟨y',z'',rfl,hy,hz''⟩
    ·simp [Instr.slice,run_underlying e1,Instr.sliceBounds,ha.ev hz,ha.ev hz',r3,run_sliceBound e h2,run_sliceBound e' h3,jA]
    ·simp [Instr.slice,run_underlying e1,Instr.sliceBounds,ha.ev hz,ha.ev hz',hy,r3,run_sliceBound e h2,run_sliceBound e' h3,run_sliceBound hz'' h1,jA]
 simp [execOp,ha.ev hx,Instr.sliceAt,run_underlying e1,key]
theorem Rd.cut {M : Mem} {n sz : Nat} {cs : List D} {a : Option Addr} {c : Nat} (hr : Rd M (.sl n sz cs) (.slice a n c)) (l h m : Nat) (h1 : l<=h) (h2 : h<=m) (h3 : m<=c) (h4 : h<=n) :
  Rd M (.sl (h - l) sz ((cs.drop (l * sz)).take ((h - l) * sz))) (jA a l h m sz):=by
 simp only [Rd] at hr ⊢
 obtain ⟨a',cap,e,k1,k2,k3,k4,k5,k6⟩:=hr
 simp only [Value.slice.injEq] at e
 obtain ⟨rfl,_,rfl⟩:=e
 refine ⟨_,_,rfl,Q0,Q0,Q0,?_,?_,?_⟩
 ·have:=Nat.mul_le_mul_right sz h4
  simp only [List.length_take,List.length_drop,k4,Nat.sub_mul]
  omega
 ·intro hp
  have:=k5 Q0
  by_cases hm : m = l
  ·omega
  ·rw [if_neg hm];simpa using this
 ·by_cases hm : m = l
  ·have : h - l = 0:=Q0
   simp [this,RdC]
  ·rw [if_neg hm]
   refine RdC.mk _ 0 fun k d hk=>?_
   have hk' : cs[l * sz+k]? = some d:=by
    rw [List.getElem?_take] at hk
    split at hk
    ·simpa using hk
    ·cases hk
   have hk2 : k < (h - l) * sz:=by
    rw [List.getElem?_take] at hk
    split at hk
    ·assumption
    ·cases hk
   obtain ⟨u,q1,q2⟩:=RdC.get cs 0 k6 _ d hk'
   have hp : 0 < h - l:=by
    rcases Nat.eq_zero_or_pos (h - l) with e | e
    ·rw [e] at hk2;omega
    ·exact e
   have:=k5 Q0
   obtain ⟨b,rfl⟩:=Option.isSome_iff_exists.1 this
   refine ⟨u,?_,q2⟩
   rw [Nat.zero_add] at q1 ⊢
   have : adr ((some b).map (·.add (l * sz))) k = adr (some b) (l * sz+k):=by
    have h0 : b.add (l * sz) = adr (some b) (l * sz):=rfl
    show (b.add (l * sz)).add k = _
    rw [h0,cK]
   rw [this]
   exact q1

section
variable {P : Program} {n : Nat} {w0 : World} {ops : Array Oper} {rest : List Oper} {L : Lm} {M : Mem} {Γ : List As} {K : Lm->Mem->List As->Prop} {ty : TypeId} {pos : String} {af : Array Edge} {d : Nat}
end
def Mem.diff (M' M : Mem) : Mem:=fun b=>if (M b).isSome then none else M' b
theorem It {M : Mem} {b : Nat} {c : Array Value} {e : TypeId} {i : Nat} {v : Value} (hM : M b = some (.cells c e (0,0))) (h : c[i]? = some v) : cz M (adr (some ⟨b,0,none⟩) i) = some v:=by
 rw [bC]
 simp [cz,hM,h]

theorem Rd.ofBlock {M : Mem} {b n cap : Nat} {e : TypeId} {sz : Nat} {cur : Array Value} {us : List Value} {ds : List D} (hM : M b = some (.cells cur e (0,0))) (hr : RdL M ds us) (hl : us.length = n * sz) (hn : n<=lim) (hc : n<=cap) (hm : cap<=maxLen) (ht : cur.toList.take (n * sz) = us) :
  Rd M (.sl n sz ds) (.slice (some ⟨b,0,none⟩) n cap):=by
 simp only [Rd]
 refine ⟨some ⟨b,0,none⟩,cap,rfl,hc,hm,hn,by rw [<-hr.1];exact hl,fun _=>rfl,RdC.mk ds 0 fun k d hk=>?_⟩
 obtain ⟨v,h1,h2⟩:=RdL.get hr hk
 refine ⟨v,?_,h2⟩
 rw [Nat.zero_add]
 apply It hM
 have hk' : k < n * sz:=by
  rw [<-hl]
  rcases Nat.lt_or_ge k us.length with h | h
  ·exact h
  ·rw [List.getElem?_eq_none h] at h1;cases h1
 rw [<-ht,List.getElem?_take_of_lt hk'] at h1
 simpa using h1

def Mem.less (M : Mem) (bs : List Nat) : Mem:=fun b=>if b∈bs then none else M b
def As.owns : As->Prop
 | .own ..=>True
 | .acc ..=>True
 | _=>False
structure Lent (w0 : World) (M : Mem) (Γs Γ : List As) (M' : Mem) : Prop where
 sub : Sub M M'
 wit : ∃ w,St w0 M (Γs++Γ) w/\∀ x∈Γs,∀ b,x.blk = some b->M' b = w.heap[b]?
 only : ∀ b o,M' b = some o->M b = some o\/b∈Γs.filterMap As.blk

theorem St.vh {w0 w : World} {M : Mem} {Γ : List As} : ∀ (Γs : List As),(∀ x∈Γs,x.owns)->St w0 M (Γs++Γ) w->∃ M',Lent w0 M Γs Γ M'/\St w0 M' Γ w
 | [],_,h=>⟨M,⟨Sub.refl M,⟨w,h,fun x hx=>by simp at hx⟩,fun b o hb=>.inl hb⟩,h⟩
 | x::Γs,ho,h=>by
  have hp : St w0 M (Γs++(x::Γ)) w:=h.perm (List.perm_middle.symm)
  obtain ⟨M1,hl,h1⟩:=St.vh Γs (fun y hy=>ho y (List.mem_cons_of_mem _ hy)) hp
  have hx:=h1.all x (List.mem_cons_self ..)
  cases hb : x.blk with
  | none =>
   refine ⟨M1,⟨hl.sub,⟨w,h,fun y hy b hyb=>?_⟩,fun b o hbo=>?_⟩,h1.sub (List.sublist_cons_self _ _)⟩
   ·rcases List.mem_cons.1 hy with rfl | hy
    ·rw [hb] at hyb;cases hyb
    ·have hblk : b∈Γs.filterMap As.blk:=ga hy hyb
     have:=h1.mem
     cases hM : M1 b with
     | some o=>exact (h1.mem b o hM).symm
     | none =>
      obtain ⟨w',hw',hw2⟩:=hl.wit
      have e1:=hw2 y hy b hyb
      have e2:=(As.aD (hw'.all y (List.mem_append_left _ hy)) hyb).1
      rw [hM] at e1
      exact absurd e1.symm (by rw [Array.getElem?_eq_getElem e2];simp)
   ·rcases hl.only b o hbo with h2 | h2
    ·exact .inl h2
    ·exact .inr (by simpa [List.filterMap_cons,hb] using h2)
  | some b =>
   have hlt:=(As.aD hx hb)
   obtain ⟨o,ho'⟩ : ∃ o,w.heap[b]? = some o:=⟨_,Array.getElem?_eq_getElem hlt.1⟩
   have h2:=h1.nu (b:=b) (o:=o) hb ho'
   refine ⟨M1.put b o,⟨hl.sub.trans (Mem.om hlt.2),⟨w,h,fun y hy c hyc=>?_⟩,fun c o' hc=>?_⟩,h2⟩
   ·rcases List.mem_cons.1 hy with rfl | hy
    ·rw [hb] at hyc;cases hyc
     simp [Mem.put,ho']
    ·obtain ⟨w',hw',hw2⟩:=hl.wit
     have e1:=hw2 y hy c hyc
     have e2:=(As.aD (hw'.all y (List.mem_append_left _ hy)) hyc).1
     cases hM : M1 c with
     | none=>rw [hM] at e1;exact absurd e1.symm (by rw [Array.getElem?_eq_getElem e2];simp)
     | some o2 =>
      have:=Mem.om hlt.2 (o:=o) c o2 hM
      rw [this]
      exact (h1.mem c o2 hM).symm
   ·unfold Mem.put at hc
    by_cases e : c = b
    ·right;simp [hb,e]
    ·rw [if_neg e] at hc
     rcases hl.only c o' hc with h3 | h3
     ·exact .inl h3
     ·right;simp only [List.filterMap_cons,hb];exact List.mem_cons_of_mem _ h3

theorem Lent.back {w0 w' : World} {M M1 M2 : Mem} {Γs Γ : List As} (h : Lent w0 M Γs Γ M1) (_ho : ∀ x∈Γs,x.owns) (hs : Sub M1 M2) (hw : St w0 M2 Γ w') :
  Sub M (M2.less (Γs.filterMap As.blk))/\Sub (M2.diff M1) (M2.less (Γs.filterMap As.blk))/\St w0 (M2.less (Γs.filterMap As.blk)) (Γs++Γ) w':=by
 obtain ⟨w,hw1,hl⟩:=h.wit
 have hMs : ∀ x∈Γs,∀ b,x.blk = some b->∃ o,M1 b = some o/\w.heap[b]? = some o:=fun x hx b hb=>by
  have e1:=hl x hx b hb
  have e2:=(As.aD (hw1.all x (List.mem_append_left _ hx)) hb).1
  rw [Array.getElem?_eq_getElem e2] at e1
  exact ⟨_,e1,Array.getElem?_eq_getElem e2⟩
 have hsubM : Sub M (M2.less (Γs.filterMap As.blk)):=fun b o hb=>by
  unfold Mem.less
  rw [if_neg fun hm=>?_]
  ·exact hs b o (h.sub b o hb)
  ·obtain ⟨x,hx,hxb⟩:=List.mem_filterMap.1 hm
   have:=(As.aD (hw1.all x (List.mem_append_left _ hx)) hxb).2
   rw [hb] at this;cases this
 have hle : Sub (M2.less (Γs.filterMap As.blk)) M2:=fun b o hb=>by
  unfold Mem.less at hb
  split at hb
  ·cases hb
  ·exact hb
 refine ⟨hsubM,fun b o hb=>?_,hw.os,hw.tape,hw.output,hw.size,fun b o hb=>hw.mem b o (hle b o hb),fun x hx=>?_,?_⟩
 ·unfold Mem.diff at hb
  split at hb
  ·cases hb
  ·rename_i hn
   unfold Mem.less
   rw [if_neg fun hm=>?_]
   ·exact hb
   ·obtain ⟨x,hx,hxb⟩:=List.mem_filterMap.1 hm
    obtain ⟨o',h1,h2⟩:=hMs x hx b hxb
    simp [h1] at hn
 ·rcases List.mem_append.1 hx with hx | hx
  ·have h0:=hw1.all x (List.mem_append_left _ hx)
   have hk : ∀ b,x.blk = some b->w'.heap[b]? = w.heap[b]?/\M2.less (Γs.filterMap As.blk) b = none:=fun b hb=>by
    obtain ⟨o,h1,h2⟩:=hMs x hx b hb
    refine ⟨by rw [hw.mem b o (hs b o h1),h2],?_⟩
    unfold Mem.less
    rw [if_pos (ga hx hb)]
   exact As.dX h0 hsubM hk
  ·have h0:=hw1.all x (List.mem_append_right _ hx)
   have h2:=hw.all x hx
   cases x with
   | rd d u=>exact Rd.mono hsubM d u h0
   | rds d u=>exact RdL.mono hsubM h0
   | own b e cs =>
    refine ⟨?_,h2.2⟩
    cases hM : M2.less (Γs.filterMap As.blk) b with
    | none=>rfl
    | some o2=>have:=hle b o2 hM;rw [h2.1] at this;cases this
   | acc u e sz n us =>
    refine ⟨h2.1,fun b hb=>?_⟩
    cases hM : M2.less (Γs.filterMap As.blk) b with
    | none=>rfl
    | some o=>have:=hle b o hM;rw [h2.2 b hb] at this;cases this
   | mp b l =>
    refine ⟨?_,h2.2⟩
    cases hM : M2.less (Γs.filterMap As.blk) b with
    | none=>rfl
    | some o2=>have:=hle b o2 hM;rw [h2.1] at this;cases this
   | raw b o =>
    refine ⟨?_,h2.2⟩
    cases hM : M2.less (Γs.filterMap As.blk) b with
    | none=>rfl
    | some o2=>have:=hle b o2 hM;rw [h2.1] at this;cases this
 ·exact hw1.nodup

theorem Lent.acc {w0 : World} {M M' : Mem} {Γs Γ : List As} (h : Lent w0 M Γs Γ M') {u : Value} {n : Nat} {e : TypeId} {sz : Nat} {us : List Value} {ds : List D} (hx : As.acc u e sz n us∈Γs) (hr : RdL M' ds us) (hn : n<=lim) :
  Rd M' (.sl n sz ds) u:=by
 obtain ⟨w,hw,hm⟩:=h.wit
 have h0:=hw.all _ (List.mem_append_left _ hx)
 obtain ⟨⟨hl,hh⟩,_⟩:=h0
 rcases hh with ⟨rfl,rfl⟩ | ⟨b,cap,cur,rfl,_,hb,hnc,hcm,hcs,htk⟩
 ·have hd : ds = []:=by
   have h1:=hr.1
   have : us.length = 0:=by simpa using hl
   rw [this] at h1
   exact List.eq_nil_of_length_eq_zero h1.symm
  subst hd
  simp only [Rd]
  exact ⟨none,0,rfl,Nat.le_refl _,Nat.zero_le _,Nat.zero_le _,Q2,Q2,by simp [RdC]⟩
 ·have h1:=hm _ hx b rfl
  rw [hb] at h1
  exact Rd.ofBlock h1 hr hl hn hnc hcm (by simpa using htk)

theorem St.lM {w0 w : World} {M : Mem} {Γ : List As} (h : St w0 M Γ w) {a : Option Addr} {n c e sz : Nat} {us : List Value} (hm : As.acc (.slice a n c) e sz n us∈Γ) {q : Nat} {v : Value} (hq : us[q]? = some v) : a.isSome = true/\w.cell? (adr a q) = some v:=by
 obtain ⟨⟨hl,hh⟩,_⟩:=h.all _ hm
 rcases hh with ⟨e1,rfl⟩ | ⟨b,cap,cur,e1,_,hb,hnc,hcm,hcs,htk⟩
 ·have : us = []:=List.eq_nil_of_length_eq_zero (by rw [hl];simp)
  subst this
  simp at hq
 ·simp only [Value.slice.injEq] at e1
  obtain ⟨rfl,_,rfl⟩:=e1
  refine ⟨rfl,?_⟩
  rw [bC]
  have hk' : q < n * sz:=by
   rw [<-hl]
   rcases Nat.lt_or_ge q us.length with h | h
   ·exact h
   ·rw [List.getElem?_eq_none h] at hq;cases hq
  have h2:=hq
  rw [<-htk,List.getElem?_take_of_lt hk'] at h2
  have h3 : cur[q]? = some v:=by simpa using h2
  simp [World.cell?,hb,h3]

section
variable {P : Program} {w0 : World} {L : Lm} {M : Mem} {Γ : List As} {d : Option Nat} {ty : TypeId} {pos : String} {af : Array Edge} {g : Option (Nat×Bool)}
theorem Y.oP {x : Operand} {t : TypeId} {p : Addr} {v : Value} (hx : evL L x = some (.pointer (some p))) (hc : cz M p = some v) (hf : iT P t = true) :
  Yq P w0 L M Γ ⟨d,.load t x,ty,pos,af,g⟩ v:=Y.load hx hf fun _ hw=>hw.cell hc
end

structure KeyOk (P : Program) (kt : TypeId) {κ : Type} [DecidableEq κ] (kv : κ->Value) : Prop where
 kind : ∃ fs,P.underlying kt = some (.struct fs)
 check : ∀ k b w,(Instr.checkKey b 10000 kt (kv k)).run P w = .ok () w
 eq : ∀ k k' w,(Op.equal kt (kv k) (kv k')).run P w = .ok (decide (k = k')) w

variable {P : Program} {κ : Type} [DecidableEq κ] {kv : κ->Value}

def eu (k : κ) : List (κ×Value)->Option Value
 | []=>none
 | p::l=>if k = p.1 then some p.2 else eu k l
abbrev kvs (kv : κ->Value) (l : List (κ×Value)) : List (Value×Value):=l.map fun p=>(kv p.1,p.2)

theorem kK {kt : TypeId} (hK : KeyOk P kt kv) (k : κ) : ∀ (l : List (κ×Value)) (es : List MapEntry) (i : Nat) (w : World),es.map (fun e=>(e.key,e.val)) = kvs kv l ->
  ∃ r : Option (Nat×Value),(Instr.findAsking kt (kv k) es i).run P w = .ok r w/\r.map (·.2) = eu k l
 | [],[],i,w,_=>⟨none,by simp [Instr.findAsking],rfl⟩
 | p::l,e::es,i,w,h=>by
  simp only [kvs,List.map_cons,List.cons.injEq,Prod.mk.injEq] at h
  obtain ⟨⟨h0,h00⟩,ht⟩:=h
  have h1:=hK.eq k p.1 w
  by_cases he : k = p.1
  ·refine ⟨some (i,e.val),?_,by simp [eu,he,h00]⟩
   rw [decide_eq_true he] at h1
   simp only [Instr.findAsking,h0]
   simp [h1]
  ·obtain ⟨r,h2,h3⟩:=kK hK k l es (i+1) w ht
   rw [decide_eq_false he] at h1
   refine ⟨r,?_,by simp only [eu];rw [if_neg he];exact h3⟩
   simp only [Instr.findAsking,h0]
   simp [h1,h2]
 | [],_::_,_,_,h=>by simp [kvs] at h
 | _::_,[],_,_,h=>by simp [kvs] at h
theorem run_findKey {kt : TypeId} (hK : KeyOk P kt kv) (k : κ) (l : List (κ×Value)) (es : List MapEntry) (w : World) (h : es.map (fun e=>(e.key,e.val)) = kvs kv l) :
  ∃ r : Option (Nat×Value),(Instr.findKey kt (kv k) es).run P w = .ok r w/\r.map (·.2) = eu k l:=by
 obtain ⟨fs,hfs⟩:=hK.kind
 obtain ⟨r,h1,h2⟩:=kK hK k l es 0 w h
 cases es with
 | nil =>
  refine ⟨none,by simp [Instr.findKey,run_underlying hfs,Instr.findNow],?_⟩
  cases l with
  | nil=>rfl
  | cons p l=>simp [kvs] at h
 | cons e es =>
  refine ⟨r,?_,h2⟩
  simp [Instr.findKey,run_underlying hfs,Instr.findNow,Instr.sameNow,h1]

def BJ (P : Program) (t k e : Nat) : Bool:=match P.underlying t with
 | some (.map k' e')=>Nat.beq k k' && Nat.beq e e'
 | _=>false
theorem gW {t k e : Nat} (h : BJ P t k e = true) : P.underlying t = some (.map k e):=by
 unfold BJ at h
 cases hu : P.underlying t with
 | none=>simp [hu] at h
 | some d =>
  rw [hu] at h
  cases d <;> simp at h
  obtain ⟨h1,h2⟩:=h
  rw [h1,h2]

section
variable {w0 : World} {L : Lm} {M : Mem} {Γ : List As} {d : Option Nat} {ty : TypeId} {pos : String} {af : Array Edge} {g : Option (Nat×Bool)}
theorem Y.makeFunc {f : FuncId} {first cap : List Operand} {vs us : List Value} (h1 : evs L first = some vs) (h2 : evs L cap = some us) :
  Yq P w0 L M Γ ⟨d,.makeFunc (.func f) first.toArray cap.toArray,ty,pos,af,g⟩ (.func (.func f) vs.toArray us.toArray):=fun n a w ha _=>by
 have e1 : first.toArray.map a.eval = vs.toArray:=by rw [List.map_toArray,ha.evs h1]
 have e2 : cap.toArray.map a.eval = us.toArray:=by rw [List.map_toArray,ha.evs h2]
 simp [execOp,Instr.makeFunc,e1,e2]
end

section
variable {n : Nat} {w0 : World} {ops : Array Oper} {rest : List Oper} {L : Lm} {M : Mem} {Γ : List As} {K : Lm->Mem->List As->Prop} {ty : TypeId} {pos : String} {af : Array Edge} {d : Nat}
theorem St.newMap {w : World} (h : St w0 M Γ w) : St w0 M (.mp w.heap.size []::Γ) { w with heap:=w.heap.push (.map #[] 0) }:=by
 have hold : ∀ b,b < w.heap.size->(w.heap.push (.map #[] 0))[b]? = w.heap[b]?:=fun b hb=>by
  rw [Array.getElem?_push,if_neg Q0]
 refine ⟨h.os,h.tape,h.output,by simp;have:=h.size;omega,fun b o hb=>?_,fun x hx=>?_,?_⟩
 ·rw [hold b (h.lt hb)];exact h.mem b o hb
 ·rcases List.mem_cons.1 hx with rfl | hx
  ·exact ⟨h.fresh,#[],0,Q2,rfl,by simp [kj]⟩
  ·exact As.dX (h.all x hx) (Sub.refl M) fun b hb=>⟨hold b (As.aD (h.all x hx) hb).1,(As.aD (h.all x hx) hb).2⟩
 ·simp only [List.filterMap_cons,As.blk]
  refine List.nodup_cons.2 ⟨fun hm=>?_,h.nodup⟩
  obtain ⟨x,hx,hb⟩:=List.mem_filterMap.1 hm
  have:=(As.aD (h.all x hx) hb).1
  omega
end
section
variable {n : Nat} {w0 : World} {ops : Array Oper} {rest : List Oper} {L : Lm} {M : Mem} {Γ : List As} {K : Lm->Mem->List As->Prop} {ty : TypeId} {pos : String} {af : Array Edge} {d : Nat}
end
def FL (P : Program) (t n e sz : Nat) : Bool:=(match P.underlying t with
 | some (.array n' e')=>Nat.beq n n' && Nat.beq e e'
 | _=>false) && jj P e sz && Nat.blt 1 n
theorem qo {t n e sz : Nat} (h : FL P t n e sz = true) : P.underlying t = some (.array n e)/\jj P e sz = true/\1 < n:=by
 unfold FL at h
 simp only [Bool.and_eq_true] at h
 obtain ⟨⟨h1,h2⟩,h3⟩:=h
 refine ⟨?_,h2,by simpa [Nat.blt_eq] using h3⟩
 cases hu : P.underlying t with
 | none=>simp [hu] at h1
 | some d =>
  rw [hu] at h1
  cases d <;> simp at h1
  obtain ⟨h4,h5⟩:=h1
  rw [h4,h5]
theorem Y.zV {w0 : World} {L : Lm} {M : Mem} {Γ : List As} {d : Option Nat} {ty : TypeId} {pos : String} {af : Array Edge} {g : Option (Nat×Bool)} {x i : Operand} {t e sz n : Nat} {a : Option Addr} {q : Nat} {ik : IntKind} {z : Int} (k : Nat) (hx : evL L x = some (.pointer (some (adr a q)))) (hi : evL L i = some (.int ik z)) (hz : z = (k : Int)) (hk : k < n)
  (ht : FL P t n e sz = true) : Yq P w0 L M Γ ⟨d,.indexAddr t x i,ty,pos,af,g⟩ (.pointer (some (adr a (q+k * sz)))):=fun m ac w ha hw=>by
 subst hz
 obtain ⟨h1,h2,h3⟩:=qo ht
 simp [execOp,ha.ev hx,ha.ev hi,Instr.indexAt,asIntOf,run_underlying h1,dW h2,hk,cK,Instr.sureAddr]
theorem Y.eqlBB {w0 : World} {L : Lm} {M : Mem} {Γ : List As} {d : Option Nat} {ty : TypeId} {pos : String} {af : Array Edge} {g : Option (Nat×Bool)} {x y : Operand} {p q : Bool} {t : TypeId} (ht : P.underlying t = some .bool) (hx : evL L x = some (.bool p)) (hy : evL L y = some (.bool q)) :
  Yq P w0 L M Γ ⟨d,.binOp .eql t x y t,ty,pos,af,g⟩ (.bool (p == q)):=fun n a w ha _=>by
 simp only [execOp,ha.ev hx,ha.ev hy]
 have h : ∀ b c : Bool,(Op.equalIn 10000 t (.bool b) (.bool c)).run P w = .ok (b == c) w:=fun b c=>run_equalIn_bool w 9999 t b c ht
 cases p <;> cases q <;> simp [eqGuard,Go.binOp,Op.equal,Op.maxDepth,h]
theorem Y.neqD {w0 : World} {L : Lm} {M : Mem} {Γ : List As} {d : Option Nat} {ty : TypeId} {pos : String} {af : Array Edge} {g : Option (Nat×Bool)} {x y : Operand} {p q : Prop} [Decidable p] [Decidable q] {t : TypeId} (ht : P.underlying t = some .bool) (hx : evL L x = some (.bool (decide p))) (hy : evL L y = some (.bool (decide q))) :
  Yq P w0 L M Γ ⟨d,.binOp .neq t x y t,ty,pos,af,g⟩ (.bool (decide (¬ (p↔q)))):=fun n a w ha _=>by
 simp only [execOp,ha.ev hx,ha.ev hy]
 have h : ∀ b c : Bool,(Op.equalIn 10000 t (.bool b) (.bool c)).run P w = .ok (b == c) w:=fun b c=>run_equalIn_bool w 9999 t b c ht
 by_cases h1 : p <;> by_cases h2 : q <;> simp [h1,h2,eqGuard,Go.binOp,Op.equal,Op.maxDepth,h]
section
end
end Xe

namespace Xe
open Go

def InI (n : Int) : Prop:=-9223372036854775808<=n/\n<=9223372036854775807
abbrev Is (M : Mem) (Γ : List As) (v : Value) : Post:=fun u M' Γ'=>u = v/\M' = M/\Γ' = Γ
abbrev bG (n : Int) : Value:=.int .i64 n
abbrev aj (n : Int) : D:=.v (.int .i64 n)

section
variable {α : Type} {enc : α->List D} {sz : Nat}
theorem iS (h : ∀ x,(enc x).length = sz) : ∀ xs : List α,(xs.flatMap enc).length = xs.length * sz
 | []=>by simp
 | x::xs=>by rw [List.flatMap_cons,List.length_append,h,iS h xs,List.length_cons,Nat.succ_mul,Nat.add_comm]
theorem wq (h : ∀ x,(enc x).length = sz) : ∀ (xs : List α) (k : Nat) (x : α),xs[k]? = some x->((xs.flatMap enc).drop (k * sz)).take sz = enc x
 | [],k,x,hk=>by simp at hk
 | y::ys,0,x,hk=>by
  simp only [List.getElem?_cons_zero,Option.some.injEq] at hk
  subst hk
  simp [List.flatMap_cons,List.take_append_of_le_length (Nat.le_of_eq (h y).symm),List.take_of_length_le (Nat.le_of_eq (h y))]
 | y::ys,k+1,x,hk=>by
  have hk' : ys[k]? = some x:=by simpa using hk
  rw [List.flatMap_cons,Nat.succ_mul,Nat.add_comm,<-List.drop_drop,List.drop_append_of_le_length (Nat.le_of_eq (h y).symm),List.drop_of_length_le (Nat.le_of_eq (h y)),List.nil_append]
  exact wq h ys k x hk'
end

def aY (l : List Int) : D:=.sl l.length 1 (l.map aj)
structure IdT where
 shop : Int
 seq : Int
 index : Int
 deriving DecidableEq,Repr,Inhabited
def IdT.vals (x : IdT) : List Value:=[bG x.shop,bG x.seq,bG x.index]
def IdT.enc (x : IdT) : List D:=[aj x.shop,aj x.seq,aj x.index]

inductive Ty where
 | mk (kind : Int) (df : IdT) (kids : List Ty)
 deriving Inhabited
def Ty.kind : Ty->Int | .mk k _ _=>k
def Ty.df : Ty->IdT | .mk _ d _=>d
def Ty.kids : Ty->List Ty | .mk _ _ l=>l
mutual
def Ty.enc : Ty->List D
 | .mk k d l=>[aj k,aj d.shop,aj d.seq,aj d.index,.sl l.length 5 (Ty.lC l)]
def Ty.lC : List Ty->List D
 | []=>[]
 | t::ts=>t.enc++Ty.lC ts
end
theorem Ty.o9 : ∀ l : List Ty,Ty.lC l = l.flatMap Ty.enc
 | []=>by simp [Ty.lC]
 | t::ts=>by rw [Ty.lC,Ty.o9 ts,List.flatMap_cons]
theorem Ty.aT (t : Ty) : t.enc = [aj t.kind,aj t.df.shop,aj t.df.seq,aj t.df.index,.sl t.kids.length 5 (t.kids.flatMap Ty.enc)]:=by
 cases t;rw [Ty.enc,Ty.o9];rfl
theorem Ty.aM (t : Ty) : t.enc.length = 5:=by rw [Ty.aT];rfl
mutual
def Ty.size : Ty->Nat
 | .mk _ _ l=>1+Ty.sizes l
def Ty.sizes : List Ty->Nat
 | []=>0
 | t::ts=>t.size+Ty.sizes ts
end
theorem Ty.ji : ∀ {l : List Ty} {t : Ty},t∈l->t.size<=Ty.sizes l
 | x::xs,t,h=>by
  rw [Ty.sizes]
  rcases List.mem_cons.1 h with rfl | h
  ·omega
  ·have:=Ty.ji h;omega
theorem Ty.iu {t k : Ty} (h : k∈t.kids) : k.size < t.size:=by
 cases t with
 | mk a b l=>have:=Ty.ji (l:=l) h;rw [Ty.size];omega

mutual
def Ty.beq : Ty->Ty->Bool
 | .mk a b l,.mk c d m=>decide (a = c) && decide (b = d) && Ty.Ck l m
def Ty.Ck : List Ty->List Ty->Bool
 | [],[]=>true
 | x::xs,y::ys=>x.beq y && Ty.Ck xs ys
 | [],_::_=>false
 | _::_,[]=>false
end
mutual
theorem Ty.beq_iff : ∀ a b : Ty,a.beq b = true↔a = b
 | .mk a b l,.mk c d m=>by
  simp only [Ty.beq,Bool.and_eq_true,decide_eq_true_eq,Ty.mk.injEq,Ty.AL l m,and_assoc]
theorem Ty.AL : ∀ a b : List Ty,Ty.Ck a b = true↔a = b
 | [],[]=>by simp [Ty.Ck]
 | x::xs,y::ys=>by simp only [Ty.Ck,Bool.and_eq_true,List.cons.injEq,Ty.beq_iff x y,Ty.AL xs ys]
 | [],_::_=>by simp [Ty.Ck]
 | _::_,[]=>by simp [Ty.Ck]
end
instance : DecidableEq Ty:=fun a b=>decidable_of_iff (a.beq b = true) (Ty.beq_iff a b)
inductive Ex where
 | mk (id : IdT) (kind n : Int) (ref : IdT) (ty : Ty) (kids : List Ex) (names : List ByteArray)
 deriving Inhabited
def Ex.id : Ex->IdT | .mk i _ _ _ _ _ _=>i
def Ex.kind : Ex->Int | .mk _ k _ _ _ _ _=>k
def Ex.n : Ex->Int | .mk _ _ n _ _ _ _=>n
def Ex.ref : Ex->IdT | .mk _ _ _ r _ _ _=>r
def Ex.ty : Ex->Ty | .mk _ _ _ _ t _ _=>t
def Ex.kids : Ex->List Ex | .mk _ _ _ _ _ l _=>l
def Ex.names : Ex->List ByteArray | .mk _ _ _ _ _ _ s=>s
def bA (s : ByteArray) : D:=.v (.string s)
def DY (l : List ByteArray) : D:=.sl l.length 1 (l.map bA)
mutual
def Ex.enc : Ex->List D
 | .mk i k n r t l s=>[aj i.shop,aj i.seq,aj i.index,aj k,aj n,aj r.shop,aj r.seq,aj r.index,aj t.kind,aj t.df.shop,aj t.df.seq,aj t.df.index,.sl t.kids.length 5 (t.kids.flatMap Ty.enc),.sl l.length 15 (Ex.lC l),DY s]
def Ex.lC : List Ex->List D
 | []=>[]
 | t::ts=>t.enc++Ex.lC ts
end
theorem Ex.o9 : ∀ l : List Ex,Ex.lC l = l.flatMap Ex.enc
 | []=>by simp [Ex.lC]
 | t::ts=>by rw [Ex.lC,Ex.o9 ts,List.flatMap_cons]
theorem Ex.aT (e : Ex) : e.enc = [aj e.id.shop,aj e.id.seq,aj e.id.index,aj e.kind,aj e.n,aj e.ref.shop,aj e.ref.seq,aj e.ref.index,aj e.ty.kind,aj e.ty.df.shop,aj e.ty.df.seq,aj e.ty.df.index,
  .sl e.ty.kids.length 5 (e.ty.kids.flatMap Ty.enc),.sl e.kids.length 15 (e.kids.flatMap Ex.enc),.sl e.names.length 1 (e.names.map bA)]:=by
 cases e;rw [Ex.enc,Ex.o9];rfl
theorem Ex.aM (e : Ex) : e.enc.length = 15:=by rw [Ex.aT];rfl
mutual
def Ex.size : Ex->Nat
 | .mk _ _ _ _ _ l _=>1+Ex.sizes l
def Ex.sizes : List Ex->Nat
 | []=>0
 | t::ts=>t.size+Ex.sizes ts
end
theorem Ex.size_eq (e : Ex) : e.size = 1+Ex.sizes e.kids:=by cases e;rw [Ex.size];rfl
theorem Ex.ji : ∀ {l : List Ex} {t : Ex},t∈l->t.size<=Ex.sizes l
 | x::xs,t,h=>by
  rw [Ex.sizes]
  rcases List.mem_cons.1 h with rfl | h
  ·omega
  ·have:=Ex.ji h;omega
theorem Ex.iu {e k : Ex} (h : k∈e.kids) : k.size < e.size:=by
 have:=Ex.ji h;rw [Ex.size_eq e];omega
theorem Ex.size_pos (e : Ex) : 0 < e.size:=by rw [Ex.size_eq];omega
theorem Ex.ir : ∀ (l : List Ex) (k : Nat),Ex.sizes (l.take k)<=Ex.sizes l
 | [],k=>by simp
 | x::xs,0=>by simp [Ex.sizes]
 | x::xs,k+1=>by have:=Ex.ir xs k;simp only [List.take_succ_cons,Ex.sizes];omega
theorem Ex.oa : ∀ (l m : List Ex),Ex.sizes (l++m) = Ex.sizes l+Ex.sizes m
 | [],m=>by simp [Ex.sizes]
 | x::xs,m=>by have:=Ex.oa xs m;simp only [List.cons_append,Ex.sizes];omega
theorem Ex.nk (l : List Ex) (k : Nat) (h : k < l.length) : Ex.sizes (l.take (k+1)) = Ex.sizes (l.take k)+l[k].size:=by
 rw [List.take_succ_eq_append_getElem h,Ex.oa];simp [Ex.sizes]
def Ex.like (a b : Ex) : Prop:=a.kind = b.kind/\a.n = b.n/\a.ref = b.ref/\a.ty = b.ty
instance (a b : Ex) : Decidable (a.like b):=by unfold Ex.like;exact inferInstance
def around (n m : Int) : Int:=(if n < 0 then -(n+1) else n) % m
theorem FM (n m : Int) (_hm : 1<=m) : around n m = (if n < 0 then -(n+1) else n).tmod m:=by
 unfold around
 rw [Int.tmod_eq_emod_of_nonneg]
 split <;> omega
theorem bM (n m : Int) (hm : 1<=m) : 0<=around n m/\around n m < m:=by
 unfold around
 exact ⟨Int.emod_nonneg _ Q0,Int.emod_lt_of_pos _ Q0⟩
def atL (l : List Int) (i most : Int) : Int:=if i < 0\/(l.length : Int)<=i then 0 else around (l.getD i.toNat 0) most
structure MNode where
 e : Ex
 first : Nat
 deriving Inhabited
def MNode.enc (x : MNode) : List D:=x.e.enc++[aj x.first]
structure RNode where
 e : Ex
 first : Nat
 level : Nat
 deriving Inhabited
def RNode.enc (x : RNode) : List D:=x.e.enc++[aj x.first,aj x.level]
def MNode.lC (l : List MNode) : D:=.sl l.length 16 (l.flatMap MNode.enc)
def RNode.lC (l : List RNode) : D:=.sl l.length 17 (l.flatMap RNode.enc)

def numOf (l : List RNode) (id : IdT) : Int:=match l.findIdx? (fun x=>decide (x.e.id = id)) with
 | some i=>(i : Int)
 | none=>-1
structure PairD where
 frm : IdT
 to : IdT
 deriving DecidableEq,Inhabited,Repr
def PairD.enc (p : PairD) : List D:=[aj p.frm.shop,aj p.frm.seq,aj p.frm.index,aj p.to.shop,aj p.to.seq,aj p.to.index]
def PairD.vals (p : PairD) : List Value:=[bG p.frm.shop,bG p.frm.seq,bG p.frm.index,bG p.to.shop,bG p.to.seq,bG p.to.index]
def PairD.lC (l : List PairD) : D:=.sl l.length 6 (l.flatMap PairD.enc)
def RNode.vals (us : List Value) (first level : Nat) : List Value:=us++[bG first,bG level]
theorem Rd.oD {M : Mem} {sz : Nat} : Rd M (.sl 0 sz []) (.slice none 0 0):=by
 simp only [Rd]
 exact ⟨none,0,rfl,Nat.le_refl _,Nat.zero_le _,Nat.zero_le _,Q2,Q2,by simp [RdC]⟩
def evenT (a : List (List Int)) : Prop:=a ≠ []/\∀ r∈a,r.length = (a.headD []).length/\r.length ≠ 0
instance (a : List (List Int)) : Decidable (evenT a):=by unfold evenT;exact inferInstance
def id0 : IdT:=⟨0,0,0⟩
def ty0 : Ty:=.mk 0 id0 []
theorem dc (l : List Int) (i m : Int) (hm : 1<=m) : 0<=atL l i m/\atL l i m < m:=by
 unfold atL
 split
 ·omega
 ·exact bM _ _ hm
abbrev rows (l : List (Nat×List Int)) : List (List Int):=l.map (·.2)

section
variable {P : Program} {n : Nat} {w0 : World} {X : Pst} {L : Lm} {M : Mem} {Γ : List As} {c : Code}
end
section
variable {P : Program} {n : Nat} {w0 : World} {ops : Array Oper} {Mc : Mem} {Γc : List As} {fuel : Nat} {listed : Array Bool} {L : Lm} {M : Mem} {Γ : List As} {K : Lm->Mem->List As->Prop}
end
open Go Go.ChangeShapes Go.WideShapes Go.RowKit
abbrev cE (W : World) : Mem:=fun b=>W.heap[b]?
theorem F4 (W : World) : St W (cE W) [] W:=⟨rfl,rfl,rfl,Nat.le_refl _,fun _ _ h=>h,fun _ h=>by simp at h,Q2⟩
theorem IE {W w' : World} (h : St W (cE W) [] w') : Below W.heap.size W w' :=
 ⟨h.os,h.tape,h.output,h.size,fun k hk=>by
  have e : cE W k = some W.heap[k]:=Array.getElem?_eq_getElem hk
  rw [h.mem k _ e];exact e.symm⟩
theorem qQ (W : World) (p : Addr) : cz (cE W) p = W.cell? p:=by
 unfold cz World.cell? cE
 cases W.heap[p.block]? with
 | none=>rfl
 | some o=>cases o <;> rfl

section
variable {H : Type} {enc : TypeId×Value->H} {P : Program} {W : World}

theorem inI_of {n : Int} (h : (Lit.int .i64 n).wf = true) : InI n:=by
 simp only [Lit.wf,Bool.and_eq_true,decide_eq_true_eq] at h
 unfold InI
 have h1 : IntKind.i64.min = -9223372036854775808:=Q1
 have h2 : IntKind.i64.max = 9223372036854775807:=Q1
 omega

theorem Br {f : Func} {s : ChangeSpec} {apart fresh handsOn again : Bool} {W' : World} {args : Array Value} {v : Value} {ds gs : List (DataW H)} {before pa pv : List MemPlace}
  (hW : DataW.Whole enc P f.params.toList s.vars apart W args.toList ds gs before)
  (hres : ∀ (b : Nat) (sp : Nat->Bool) (hd : Bool),DataW.TrodAll enc P W' b sp hd f.resultTypes.toList (v.resultList f.resultTypes.size) (s.fn H (ds++gs)).results [])
  (hargs : ∀ sp : Nat->Bool,(∀ p∈before,sp p.block = true)->DataW.TrodAll enc P W' 0 sp true f.params.toList args.toList (s.fn H (ds++gs)).args pa)
  (hvars : ∀ sp : Nat->Bool,(∀ p∈before,sp p.block = true)->DataW.TrodVars enc P W' sp s.vars (s.fn H (ds++gs)).vars pv)
  (hps : before = pa++pv) (hb : Below W.heap.size W W')
  (hok : ∀ (j : Nat) (t : TypeId) (r : Value),f.resultTypes[j]? = some t->(v.resultList f.resultTypes.size)[j]? = some r->Value.okWide P W' .any 0 t r) :
  s.post enc P f apart fresh handsOn again W args v W':=by
 have hlt : ∀ p∈before,p.block < W.heap.size:=fun p hp=>hW.lt p hp
 have hold : ∀ p∈before,(fun b=>decide (b < W.heap.size)) p.block = true:=fun p hp=>by simpa using hlt p hp
 refine ⟨ds,gs,before,[],pa,pv,hW,hres _ _ _,hargs _ hold,hvars _ hold,World.keptBut_mono (fun p hp=>⟨hp,?_⟩) (hb.frame (·∈before)),fun _=>?_⟩
 ·rw [hps,List.mem_append] at hp
  exact Or.inr hp
 ·obtain ⟨_,_,_,_,_,hz,hn⟩:=hW
  refine ⟨hok,_,_,([]++pa)++pv,⟨[]++pa,pv,trodAll_append (hargs _ (fun _ _=>rfl)) (hres _ _ _),hvars _ (fun _ _=>rfl),rfl,?_,?_⟩,?_⟩
  ·intro b off hp
   have hin : MemPlace.cell b off∈before:=by rw [hps];simpa using hp
   rw [hb.frozen (hlt _ hin)]
   exact hz b off hin
  ·intro ha
   have:=hn ha
   rw [hps] at this
   simpa using this
  ·intro p hp _
   rw [hps]
   simpa using hp
end

section
variable {w0 w : World} {M : Mem} {Γ : List As}
theorem St.setAcc {a : Option Addr} {n c e sz q : Nat} {us : List Value} {v : Value} (hw : St w0 M (.acc (.slice a n c) e sz n us::Γ) w) (hq : q < us.length) :
  St w0 M (.acc (.slice a n c) e sz n (us.set q v)::Γ) (w.setCell (adr a q) v)/\(w.cell? (adr a q)).isSome = true/\w.frozen? (adr a q) = false:=by
 have hx:=hw.all _ (List.mem_cons_self ..)
 obtain ⟨⟨hl,hh⟩,hM⟩:=hx
 rcases hh with ⟨e1,e2⟩ | ⟨b,cap,cur,e1,g,hb,hnc,hcm,hcs,htk⟩
 ·simp only [Value.slice.injEq] at e1
  obtain ⟨rfl,rfl,rfl⟩:=e1
  simp at hl;subst hl;simp at hq
 ·simp only [Value.slice.injEq] at e1
  obtain ⟨rfl,_,rfl⟩:=e1
  have hlt : b < w.heap.size:=(Array.getElem?_eq_some_iff.1 hb).1
  have hbe : w.heap[b] = .cells cur e (0,0):=(Array.getElem?_eq_some_iff.1 hb).2
  have hqc : q < cur.size:=by
   have : n * sz<=c * sz:=Nat.mul_le_mul_right _ hnc
   omega
  have hset : w.setCell (adr (some ⟨b,0,none⟩) q) v = { w with heap:=w.heap.setIfInBounds b (.cells (cur.setIfInBounds q v) e (0,0)) }:=by
   rw [bC]
   simp only [World.setCell]
   congr 1
   apply Array.ext
   ·simp
   ·intro i h1 h2
    by_cases hi : b = i
    ·subst hi
     simp [Array.getElem_modify,hbe]
    ·rw [Array.getElem_modify,if_neg hi,Array.getElem_setIfInBounds_ne (by simpa using h1) hi]
  refine ⟨?_,by rw [bC];simp [World.cell?,hb,hqc],by rw [bC];simp [World.frozen?,hb]⟩
  rw [hset]
  have hne : ∀ k,k ≠ b->(w.heap.setIfInBounds b (.cells (cur.setIfInBounds q v) e (0,0)))[k]? = w.heap[k]?:=fun k hk=>Array.getElem?_setIfInBounds_ne Q0
  have hnd:=hw.nodup
  simp only [List.filterMap_cons,As.blk,Value.ownBlock] at hnd
  refine ⟨hw.os,hw.tape,hw.output,by simp;exact hw.size,fun k o hk=>?_,fun y hy0=>?_,by simpa [List.filterMap_cons,As.blk,Value.ownBlock] using hw.nodup⟩
  ·rw [hne k (fun e'=>by subst e';rw [hM _ rfl] at hk;cases hk)];exact hw.mem k o hk
  ·rcases List.mem_cons.1 hy0 with rfl | hy
   ·refine ⟨⟨by simpa using hl,.inr ⟨b,c,cur.setIfInBounds q v,rfl,g,by simp [hlt],hnc,hcm,by simpa using hcs,?_⟩⟩,hM⟩
    rw [Array.toList_setIfInBounds,List.take_set,htk]
   ·have hy':=hw.all y (List.mem_cons_of_mem _ hy)
    refine As.dX hy' (Sub.refl M) fun k hk=>⟨hne k fun e'=>?_,(As.aD hy' hk).2⟩
    subst e'
    exact (List.nodup_cons.1 hnd).1 (ga hy hk)
end

section
variable {P : Program} {n : Nat} {w0 : World} {ops : Array Oper} {rest : List Oper} {L : Lm} {M : Mem} {Γ : List As} {K : Lm->Mem->List As->Prop} {ty : TypeId} {pos : String} {af : Array Edge} {d : Nat}
end

abbrev PPost:=List PanicEntry->Mem->List As->Prop
def EndP (w0 : World) (R : Post) (G : PPost) (e : Ending) (w' : World) : Prop :=
 (∃ v M Γ,e = .returned v/\R v M Γ/\St w0 M Γ w')\/(∃ ch M Γ,e = .panicked ch/\G ch M Γ/\St w0 M Γ w')
def CallP (P : Program) (w0 : World) (M : Mem) (Γ : List As) (f : FuncId) (args : Array Value) (R : Post) (G : PPost) : Prop :=
 ∀ w,St w0 M Γ w->Calls P f args w (EndP w0 R G)
section
variable {P : Program} {n : Nat} {w0 : World} {ops : Array Oper} {rest : List Oper} {L : Lm} {M : Mem} {Γ : List As} {X : Pst}
variable {ty : TypeId} {pos : String} {af : Array Edge} {d : Nat}
end
abbrev DPst:=List Deferred->Pst
section
variable {P : Program} {n : Nat} {w0 : World} {X : DPst} {D : List Deferred} {L : Lm} {M : Mem} {Γ : List As} {ops : Array Oper} {rest : List Oper}
end
def WT (P : Program) : Nat->TypeId->List D->Prop
 | 0,_,_=>False
 | n+1,t,ds=>match P.underlying t with
  | some .bool=>∃ b,ds = [.v (.bool b)]
  | some (.int k)=>∃ z,ds = [.v (.int k z)]/\(Lit.int k z).wf = true
  | some .string=>∃ s : ByteArray,ds = [.v (.string s)]/\s.size<=lim
  | some (.slice e)=>∃ els : List (List D),ds = [.sl els.length (P.cellsOf e) els.flatten]/\els.length<=lim/\∀ x∈els,WT P n e x
  | some (.struct fs)=>ds.length = P.cellsOf t/\∀ f∈fs.toList,WT P n f.type ((ds.drop f.offset).take (P.cellsOf f.type))
  | some (.array m e)=>ds.length = P.cellsOf t/\∀ i,i < m->WT P n e ((ds.drop (i * P.cellsOf e)).take (P.cellsOf e))
  | _=>False

mutual
def bulkD : D->Nat
 | .v _=>1
 | .sl _ _ cs=>1+cZ cs
def cZ : List D->Nat
 | []=>0
 | d::ds=>bulkD d+cZ ds
end
theorem je : ∀ (a b : List D),cZ (a++b) = cZ a+cZ b
 | [],b=>by simp [cZ]
 | x::xs,b=>by have:=je xs b;simp only [List.cons_append,cZ];omega
structure BulkOk {H : Type} (bulk : DataW H->Nat) : Prop where
 lit : ∀ l,1<=bulk (.lit l)
 nil : 1<=bulk .nil
 slice : ∀ els sp,(els.map bulk).sum+1<=bulk (.slice els sp)
 agg : ∀ ps,(ps.map bulk).sum<=bulk (.agg ps)
def j3 (P : Program) : Nat->List Field->Nat->Bool
 | off,[],tot=>Nat.beq off tot
 | off,f::fs,tot=>Nat.beq f.offset off && j3 P (off+P.cellsOf f.type) fs tot
theorem wG {P : Program} : ∀ {fs : List Field} {off tot : Nat},j3 P off fs tot = true->off<=tot/\∀ f∈fs,off<=f.offset
 | [],off,tot,h=>⟨Nat.le_of_eq (Nat.eq_of_beq_eq_true h),fun f hf=>by simp at hf⟩
 | g::fs,off,tot,h=>by
  simp only [j3,Bool.and_eq_true] at h
  obtain ⟨h1,h2⟩:=wG h.2
  have h0:=Nat.eq_of_beq_eq_true h.1
  refine ⟨Q0,fun f hf=>?_⟩
  rcases List.mem_cons.1 hf with rfl | hf
  ·omega
  ·have:=h2 f hf;omega

def rV (P : Program) (ts : List TypeId) : Bool:=ts.all fun t=>match P.underlying t with
 | some .bool=>true
 | some (.int _)=>true
 | some .string=>true
 | some (.slice e)=>ts.contains e && Nat.blt 0 (P.bytesOf e)
 | some (.struct fs)=>j3 P 0 fs.toList (P.cellsOf t) && fs.toList.all fun f=>ts.contains f.type
 | some (.array m e)=>Nat.beq (P.cellsOf t) (m * P.cellsOf e) && ts.contains e
 | _=>false

theorem RdL.cut {M : Mem} {ds : List D} {us : List Value} (h : RdL M ds us) (q n : Nat) : RdL M ((ds.drop q).take n) ((us.drop q).take n):=by
 refine ⟨by simp [h.1],fun k d u h1 h2=>?_⟩
 have hk : k < n:=by
  rcases Nat.lt_or_ge k n with h | h
  ·exact h
  ·rw [List.getElem?_eq_none Qc] at h1;cases h1
 rw [List.getElem?_take_of_lt hk,List.getElem?_drop] at h1 h2
 exact h.2 _ _ _ h1 h2

theorem gZ {H : Type} {P : Program} {e : TypeId} {d : DataW H} : ∀ {l : List (DataW H)},d∈l->∀ n∈d.weights P e,n∈DataW.weightsAll P e l
 | x::xs,hd,n,hn=>by
  rw [DataW.weightsAll,List.mem_append]
  rcases List.mem_cons.1 hd with rfl | hd
  ·exact .inl hn
  ·exact .inr (gZ hd n hn)

theorem glueF {M : Mem} {P : Program} (F : Field->List D->Prop) : ∀ (fs : List Field) (bs : List Nat) (off : Nat) (cs : List Value),j3 P off fs (off+cs.length) = true->bs.length = fs.length ->
  (∀ (i : Nat) (f : Field) (b : Nat),fs[i]? = some f->bs[i]? = some b->∃ ds,RdL M ds ((cs.drop (f.offset - off)).take (P.cellsOf f.type))/\F f ds/\cZ ds<=b)->∃ ds,RdL M ds cs/\(∀ f∈fs,F f ((ds.drop (f.offset - off)).take (P.cellsOf f.type)))/\cZ ds<=bs.sum:=by
 intro fs
 induction fs with
 | nil =>
  intro bs off cs h _ _
  have:=Nat.eq_of_beq_eq_true h
  have : cs = []:=List.eq_nil_of_length_eq_zero Q0
  subst this
  exact ⟨[],RdL.nil M,fun f hf=>by simp at hf,by simp [cZ]⟩
 | cons g fs ih =>
  intro bs off cs h hbl hf
  simp only [j3,Bool.and_eq_true] at h
  have h0:=Nat.eq_of_beq_eq_true h.1
  have h1:=wG h.2
  obtain ⟨b0,bs,rfl⟩ : ∃ b0 bs',bs = b0::bs':=by
   cases bs with
   | nil=>simp at hbl
   | cons b0 bs'=>exact ⟨b0,bs',rfl⟩
  obtain ⟨d0,r0,f0,q0⟩:=hf 0 g b0 rfl rfl
  rw [h0,Nat.sub_self,List.drop_zero] at r0
  have hd0 : d0.length = P.cellsOf g.type:=by rw [<-r0.1,List.length_take];omega
  obtain ⟨ds,r1,f1,q1⟩:=ih bs (off+P.cellsOf g.type) (cs.drop (P.cellsOf g.type)) (by rw [List.length_drop,show off+P.cellsOf g.type+(cs.length - P.cellsOf g.type) = off+cs.length from by omega];exact h.2) (by simpa using hbl) fun i f b hfi hbi=>by
   obtain ⟨ds,r,ff,q⟩:=hf (i+1) f b (by simpa using hfi) (by simpa using hbi)
   have:=h1.2 f (List.mem_of_getElem? hfi)
   refine ⟨ds,?_,ff,q⟩
   rw [List.drop_drop]
   rwa [show P.cellsOf g.type+(f.offset - (off+P.cellsOf g.type)) = f.offset - off from by omega]
  refine ⟨d0++ds,?_,fun f hfm=>?_,by rw [je,List.sum_cons];omega⟩
  ·have:=r0.append r1
   rwa [List.take_append_drop] at this
  ·rcases List.mem_cons.1 hfm with rfl | hfm
   ·rw [h0,Nat.sub_self,List.drop_zero,<-hd0,List.take_left]
    exact f0
   ·have:=h1.2 f hfm
    have e:=f1 f hfm
    rw [List.drop_append,List.drop_of_length_le Q0,List.nil_append,hd0,show f.offset - off - P.cellsOf g.type = f.offset - (off+P.cellsOf g.type) from by omega]
    exact e

theorem ue : ∀ (l : List (List D)) (sz i : Nat) (hi : i < l.length),(∀ x∈l,x.length = sz)->((l.flatten.drop (i * sz)).take sz) = l[i]
 | x::xs,sz,0,_,h=>by
  have:=h x (List.mem_cons_self ..)
  simp [<-this]
 | x::xs,sz,i+1,hi,h=>by
  have h0:=h x (List.mem_cons_self ..)
  have e : (x++xs.flatten).drop sz = xs.flatten:=by rw [<-h0];exact List.drop_left
  rw [List.flatten_cons,Nat.succ_mul,Nat.add_comm,<-List.drop_drop,e,List.getElem_cons_succ]
  exact ue xs sz i (by simpa using hi) fun y hy=>h y (List.mem_cons_of_mem _ hy)

section
variable {H : Type} {enc : TypeId×Value->H} {P : Program} {W : World}

theorem glue {M : Mem} (sz : Nat) (F : List D->Prop) : ∀ (bs : List Nat) (cs : List Value),cs.length = bs.length * sz->(∀ (i : Nat) (b : Nat),bs[i]? = some b->∃ ds,RdL M ds ((cs.drop (i * sz)).take sz)/\F ds/\cZ ds<=b) ->
  ∃ els : List (List D),els.length = bs.length/\RdL M els.flatten cs/\(∀ x∈els,F x)/\(∀ x∈els,x.length = sz)/\cZ els.flatten<=bs.sum:=by
 intro bs
 induction bs with
 | nil =>
  intro cs hl _
  have : cs = []:=List.eq_nil_of_length_eq_zero (by simpa using hl)
  subst this
  exact ⟨[],rfl,RdL.nil M,fun x hx=>by simp at hx,fun x hx=>by simp at hx,by simp [cZ]⟩
 | cons b0 bs ih =>
  intro cs hl h
  have hls : sz<=cs.length:=by rw [hl,List.length_cons,Nat.succ_mul];omega
  obtain ⟨d0,r0,f0,q0⟩:=h 0 b0 rfl
  simp only [Nat.zero_mul,List.drop_zero] at r0
  obtain ⟨els,h1,h2,h3,h4,h5⟩:=ih (cs.drop sz) (by rw [List.length_drop,hl,List.length_cons,Nat.succ_mul];omega) fun i b hi=>by
   obtain ⟨ds,r,f,q⟩:=h (i+1) b (by simpa using hi)
   refine ⟨ds,?_,f,q⟩
   rw [List.drop_drop]
   rwa [show sz+i * sz = (i+1) * sz from by rw [Nat.succ_mul];omega]
  refine ⟨d0::els,by simp [h1],?_,fun x hx=>?_,fun x hx=>?_,by rw [List.flatten_cons,je,List.sum_cons];omega⟩
  ·have:=r0.append h2
   rwa [List.take_append_drop] at this
  ·rcases List.mem_cons.1 hx with rfl | hx
   ·exact f0
   ·exact h3 x hx
  ·rcases List.mem_cons.1 hx with rfl | hx
   ·rw [<-r0.1,List.length_take];omega
   ·exact h4 x hx

theorem qI {sz : Nat} : ∀ {els : List (List D)},(∀ x∈els,x.length = sz)->els.flatten.length = els.length * sz
 | [],_=>by simp
 | x::xs,h=>by
  rw [List.flatten_cons,List.length_append,h x (List.mem_cons_self ..),qI fun y hy=>h y (List.mem_cons_of_mem _ hy),List.length_cons,Nat.succ_mul,Nat.add_comm]

theorem zo {ts : List TypeId} {bulk : DataW H->Nat} (hbk : BulkOk bulk) (hcl : rV P ts = true) : ∀ (n : Nat) (t : TypeId) (cs : List Value) (x : DataW H×List MemPlace),t∈ts ->
  DataW.trod enc P W 0 (fun _=>true) true n t cs = some x->(∀ k∈x.1.weights P t,k<=reachBytes)->∃ ds,RdL (cE W) ds cs/\WT P n t ds/\cZ ds<=bulk x.1:=by
 intro n
 induction n with
 | zero=>intro t cs x _ h;simp [DataW.trod] at h
 | succ n ih =>
  intro t cs x ht h hw
  have hc:=List.all_eq_true.1 hcl t ht
  cases hu : P.underlying t with
  | none=>simp [hu] at hc
  | some u =>
   rw [hu] at hc
   cases u with
   | bool =>
    obtain ⟨b,rfl,rfl⟩:=DataW.trod_bool hu h
    exact ⟨[.v (.bool b)],RdL.cons (by simp [Rd,Value.oneCell']) (RdL.nil _),by simp [WT,hu],hbk.lit _⟩
   | int k =>
    obtain ⟨z,rfl,rfl,hz⟩:=DataW.trod_int hu h
    exact ⟨[.v (.int k z)],RdL.cons (by simp [Rd,Value.oneCell']) (RdL.nil _),by simp [WT,hu,hz],hbk.lit _⟩
   | string =>
    obtain ⟨s,rfl,rfl,hs⟩:=DataW.trod_string hu h
    refine ⟨[.v (.string s)],RdL.cons (by simp [Rd,Value.oneCell']) (RdL.nil _),?_,hbk.lit _⟩
    have:=hw s.data.toList.length (by rw [DataW.weights];exact List.mem_singleton.2 rfl)
    have h5:=reachBytes_lt
    have hsz : s.data.toList.length = s.size:=by rw [Array.length_toList];rfl
    simp only [WT,hu]
    exact ⟨s,rfl,by unfold lim;omega⟩
   | slice e =>
    simp only [Bool.and_eq_true,List.contains_iff_mem] at hc
    obtain ⟨he,hb⟩:=hc
    have hb : 0 < P.bytesOf e:=by simpa [Nat.blt_eq] using hb
    rcases DataW.trod_slice hu h with ⟨rfl,rfl⟩ | ⟨a,len,cap,elems,rest,n',hn,rfl,rfl,_,hl,hm,hlen,hel,_,_⟩
    ·refine ⟨[.sl 0 (P.cellsOf e) []],RdL.cons Rd.oD (RdL.nil _),?_,hbk.nil⟩
     simp only [WT,hu]
     exact ⟨[],rfl,Nat.zero_le _,fun x hx=>by simp at hx⟩
    ·obtain rfl : n' = n:=Q0
     have hwl : len<=lim:=by
      have:=hw ((elems.map (·.1)).length+(rest.map (·.1)).length |> (· * P.bytesOf e)) (by simp [DataW.weights,hu])
      have h5:=reachBytes_lt
      have h6 : len<=((elems.map (·.1)).length+(rest.map (·.1)).length) * P.bytesOf e:=Nat.le_trans (by simp [hlen]) (Nat.le_mul_of_pos_right _ hb)
      simp only at this
      unfold lim;omega
     have each : ∀ i,(hi : i < len)->∃ cs' ds,W.cells? 0 (a.add (i * P.cellsOf e)) (P.cellsOf e) = some cs'/\RdL (cE W) ds cs'/\WT P n' e ds/\cZ ds<=bulk (elems[i]'Q0).1:=fun i hi=>by
      have h1:=hel i hi
      have h2 : i < elems.length:=Q0
      rw [List.getElem?_eq_getElem h2,Option.bind_eq_some_iff] at h1
      obtain ⟨cs',h3,h4⟩:=h1
      obtain ⟨ds,h5,h6,h7⟩:=ih e cs' _ he h4 fun k hk=>hw k (by
       simp only [DataW.weights,hu,List.mem_cons,List.mem_append]
       exact .inr (.inl (gZ (List.mem_map.2 ⟨_,List.getElem_mem h2,rfl⟩) k hk)))
      exact ⟨cs',ds,h3,h5,h6,h7⟩
     have hcell : ∀ q,q < len * P.cellsOf e->∃ u,W.cell? (a.add q) = some u:=fun q hq=>by
      have hp : 0 < P.cellsOf e:=by
       rcases Nat.eq_zero_or_pos (P.cellsOf e) with h | h
       ·rw [h] at hq;omega
       ·exact h
      have hi : q / P.cellsOf e < len:=Nat.div_lt_of_lt_mul (by rw [Nat.mul_comm];exact hq)
      obtain ⟨cs',ds,h1,_,_,_⟩:=each _ hi
      obtain ⟨_,h2,h3⟩:=World.cells?_some h1
      have hr : q % P.cellsOf e < P.cellsOf e:=Nat.mod_lt _ hp
      have h4:=h3 _ hr
      rw [show (a.add (q / P.cellsOf e * P.cellsOf e)).add (q % P.cellsOf e) = a.add q from by
       have e1 : q / P.cellsOf e * P.cellsOf e+q % P.cellsOf e = q:=by rw [Nat.mul_comm];exact Nat.div_add_mod q _
       have:=cK (some a) (q / P.cellsOf e * P.cellsOf e) (q % P.cellsOf e)
       rw [e1] at this
       exact this,List.getElem?_eq_getElem Q0] at h4
      exact ⟨_,h4⟩
     -- the cells as one list
     obtain ⟨row,hrl,hrow⟩ : ∃ row : List Value,row.length = len * P.cellsOf e/\∀ q,q < len * P.cellsOf e->W.cell? (a.add q) = row[q]?:=by
      refine ⟨(List.range (len * P.cellsOf e)).map fun q=>(W.cell? (a.add q)).getD default,Q2,fun q hq=>?_⟩
      obtain ⟨u,hu'⟩:=hcell q hq
      simp [hq,hu']
     obtain ⟨els,k1,k2,k3,k4,k5⟩:=glue (M:=cE W) (P.cellsOf e) (WT P n' e) ((elems.map (·.1)).map bulk) row (by rw [hrl,List.length_map,List.length_map,hlen]) fun i b hbi=>by
      obtain ⟨hi0,hb0⟩:=List.getElem?_eq_some_iff.1 hbi
      have hi : i < len:=by simp at hi0;omega
      obtain ⟨cs',ds,h1,h2,h3,h7⟩:=each i hi
      have hb1 : bulk (elems[i]'Q0).1 = b:=by rw [<-hb0];simp
      rw [hb1] at h7
      obtain ⟨_,h4,h5⟩:=World.cells?_some h1
      refine ⟨ds,?_,h3,h7⟩
      have : (row.drop (i * P.cellsOf e)).take (P.cellsOf e) = cs':=by
       apply List.ext_getElem?
       intro j
       by_cases hj : j < P.cellsOf e
       ·rw [List.getElem?_take_of_lt hj,List.getElem?_drop,<-h5 j hj]
        have hlt : i * P.cellsOf e+j < len * P.cellsOf e:=by
         have : (i+1) * P.cellsOf e<=len * P.cellsOf e:=Nat.mul_le_mul_right _ hi
         rw [Nat.succ_mul] at this;omega
        rw [<-hrow _ hlt]
        have:=cK (some a) (i * P.cellsOf e) j
        show W.cell? (adr (some a) _) = _
        rw [<-this];rfl
       ·rw [List.getElem?_eq_none Qc,List.getElem?_eq_none Q0]
      rw [this];exact h2
     rw [List.length_map,List.length_map,hlen] at k1
     refine ⟨[.sl els.length (P.cellsOf e) els.flatten],RdL.cons ?_ (RdL.nil _),?_,?_⟩
     ·simp only [Rd]
      refine ⟨some a,cap,by rw [k1],Q0,hm,Q0,qI k4,fun _=>rfl,RdC.mk _ 0 fun k d hk=>?_⟩
      have hlt : k < row.length:=by
       rw [k2.1]
       rcases Nat.lt_or_ge k els.flatten.length with h | h
       ·exact h
       ·rw [List.getElem?_eq_none h] at hk;cases hk
      refine ⟨row[k],?_,k2.2 k d _ hk (List.getElem?_eq_getElem hlt)⟩
      rw [qQ,Nat.zero_add]
      exact (hrow k Q0).trans (List.getElem?_eq_getElem hlt)
     ·simp only [WT,hu]
      exact ⟨els,rfl,Q0,k3⟩
     ·have:=hbk.slice (elems.map (·.1)) (rest.map (·.1))
      simp only [cZ,bulkD] at k5 ⊢
      omega
   | struct fs =>
    obtain ⟨xs,n',hn,rfl,hl,hxl,hf⟩:=DataW.trod_struct hu h
    obtain rfl : n' = n:=Q0
    rw [Bool.and_eq_true] at hc
    have hca : ∀ f∈fs.toList,f.type∈ts:=fun f hf=>by
     have:=List.all_eq_true.1 hc.2 f hf
     simpa using this
    have hwe : ∀ (l : List Field) (ys : List (DataW H)) (i : Nat) (f : Field) (d : DataW H),l[i]? = some f->ys[i]? = some d->∀ k∈d.weights P f.type,k∈DataW.weightsEach P (l.map (·.type)) ys:=by
     intro l
     induction l with
     | nil=>intro ys i f d h1;simp at h1
     | cons g l ihl =>
      intro ys i f d h1 h2 k hk
      cases ys with
      | nil=>simp at h2
      | cons y ys =>
       rw [List.map_cons,DataW.weightsEach,List.mem_append]
       cases i with
       | zero =>
        simp only [List.getElem?_cons_zero,Option.some.injEq] at h1 h2
        subst h1 h2;exact .inl hk
       | succ i=>exact .inr (ihl ys i f d (by simpa using h1) (by simpa using h2) k hk)
    have each : ∀ (i : Nat) (f : Field) (b : Nat),fs.toList[i]? = some f->((xs.map (·.1)).map bulk)[i]? = some b->∃ ds,RdL (cE W) ds ((cs.drop f.offset).take (P.cellsOf f.type))/\WT P n' f.type ds/\cZ ds<=b:=fun i f b hi hbi=>by
     have hfm:=List.mem_of_getElem? hi
     have h1:=hf i f (by simpa using hi)
     have hix : i < xs.length:=by
      have:=(List.getElem?_eq_some_iff.1 hi).1
      simp at this;omega
     rw [List.getElem?_eq_getElem hix] at h1
     have hb1 : bulk (xs[i]).1 = b:=by
      have : ((xs.map (·.1)).map bulk)[i]? = some (bulk (xs[i]).1):=by simp [hix]
      rw [this] at hbi
      exact Option.some.inj hbi
     rw [<-hb1]
     exact ih f.type _ _ (hca f hfm) h1 fun k hk=>hw k (by
      simp only [DataW.weights,hu]
      exact hwe _ _ i f _ hi (by simp [hix]) k hk)
    obtain ⟨ds,k1,k2,k3⟩:=glueF (M:=cE W) (P:=P) (fun f ds=>WT P n' f.type ds) fs.toList ((xs.map (·.1)).map bulk) 0 cs (by rw [Nat.zero_add,hl];exact hc.1) (by simp [hxl]) fun i f b hi hbi=>by simpa using each i f b hi hbi
    refine ⟨ds,k1,?_,Nat.le_trans k3 (hbk.agg _)⟩
    simp only [WT,hu]
    exact ⟨by rw [<-k1.1];exact hl,fun f hf=>by simpa using k2 f hf⟩
   | array m e =>
    simp only [Bool.and_eq_true,List.contains_iff_mem] at hc
    obtain ⟨hc0,hc⟩:=hc
    have hc0:=Nat.eq_of_beq_eq_true hc0
    obtain ⟨xs,n',hn,rfl,hl,hxl,hf⟩:=DataW.trod_array hu h
    obtain rfl : n' = n:=Q0
    have each : ∀ (i b : Nat),((xs.map (·.1)).map bulk)[i]? = some b->∃ ds,RdL (cE W) ds ((cs.drop (i * P.cellsOf e)).take (P.cellsOf e))/\WT P n' e ds/\cZ ds<=b:=fun i b hbi=>by
     obtain ⟨hi0,hb0⟩:=List.getElem?_eq_some_iff.1 hbi
     have hix : i < xs.length:=by simpa using hi0
     have h1:=hf i Q0
     have hb1 : bulk (xs[i]).1 = b:=by rw [<-hb0];simp
     rw [<-hb1]
     rw [List.getElem?_eq_getElem hix] at h1
     exact ih e _ _ hc h1 fun k hk=>hw k (by
      simp only [DataW.weights,hu]
      exact gZ (List.mem_map.2 ⟨_,List.getElem_mem hix,rfl⟩) k hk)
    obtain ⟨els,k1,k2,k3,k4,k5⟩:=glue (M:=cE W) (P.cellsOf e) (WT P n' e) ((xs.map (·.1)).map bulk) cs (by rw [hl,hc0,List.length_map,List.length_map,hxl]) each
    rw [List.length_map,List.length_map,hxl] at k1
    refine ⟨els.flatten,k2,?_,Nat.le_trans k5 (hbk.agg _)⟩
    simp only [WT,hu]
    refine ⟨by rw [<-k2.1];exact hl,fun i hi=>?_⟩
    have hi' : i < els.length:=Q0
    have e2 : ∀ (l : List (List D)) (sz i : Nat) (hi : i < l.length),(∀ x∈l,x.length = sz)->((l.flatten.drop (i * sz)).take sz) = l[i]:=fun l sz i hi hall=>by
     have:=ue l sz i hi hall
     exact this
    rw [e2 els _ i hi' k4]
    exact k3 _ (List.getElem_mem hi')
   | _=>simp at hc
end

def qp (P : Program) (t : TypeId) (us : List Value) (v : Value) : Prop:=match P.underlying t with
 | some (.struct _)=>v = .agg us.toArray
 | some (.array ..)=>v = .agg us.toArray
 | _=>us = [v]

inductive ArgsB (P : Program) (M : Mem) (b : Nat) : List TypeId->List Value->Prop
 | nil : ArgsB P M b [] []
 | cons {t : TypeId} {ts : List TypeId} {v : Value} {vs : List Value} (n : Nat) (ds : List D) (us : List Value) : RdL M ds us->WT P n t ds->qp P t us v->cZ ds<=b->ArgsB P M b ts vs->ArgsB P M b (t::ts) (v::vs)
inductive ArgsW (P : Program) (M : Mem) : List TypeId->List Value->Prop
 | nil : ArgsW P M [] []
 | cons {t : TypeId} {ts : List TypeId} {v : Value} {vs : List Value} (n : Nat) (ds : List D) (us : List Value) : RdL M ds us->WT P n t ds->qp P t us v->ArgsW P M ts vs->ArgsW P M (t::ts) (v::vs)

theorem ArgsW.inv {P : Program} {M : Mem} {t : TypeId} {ts : List TypeId} {vs : List Value} (h : ArgsW P M (t::ts) vs) :
  ∃ n ds us v vs',vs = v::vs'/\RdL M ds us/\WT P n t ds/\qp P t us v/\ArgsW P M ts vs':=by
 cases h with
 | cons n ds us h1 h2 h3 h4=>exact ⟨n,ds,us,_,_,rfl,h1,h2,h3,h4⟩
theorem ArgsB.toW {P : Program} {M : Mem} {b : Nat} {ts : List TypeId} {vs : List Value} (h : ArgsB P M b ts vs) : ArgsW P M ts vs:=by
 induction h with
 | nil=>exact .nil
 | cons n ds us h1 h2 h3 _ _ ih=>exact .cons n ds us h1 h2 h3 ih
theorem ArgsW.nil_inv {P : Program} {M : Mem} {vs : List Value} (h : ArgsW P M [] vs) : vs = []:=by cases h;rfl

section
variable {H : Type} {enc : TypeId×Value->H} {P : Program} {W : World}
theorem AQ {ts0 : List TypeId} {bulk : DataW H->Nat} (hbk : BulkOk bulk) (bd : Nat) (hcl : rV P ts0 = true) (hl : laidOutB P = true) :
  ∀ (ts : List TypeId) (vs : List Value) (ds : List (DataW H)) (p : List MemPlace),DataW.TrodAll enc P W 0 (fun _=>true) true ts vs ds p->(∀ t∈ts,t∈ts0/\P.readableRec t = true/\t < P.types.size) ->
  (∀ (j : Nat) t v,ts[j]? = some t->vs[j]? = some v->∃ b,Value.okWide P W .any b t v)->(∀ k∈DataW.weightsEach P ts ds,k<=reachBytes)->(∀ d∈ds,bulk d<=bd) ->
  ArgsB P (cE W) bd ts vs/\∀ (W' : World) (sp : Nat->Bool),Below W.heap.size W W'->(∀ q∈p,q.block < W.heap.size)->(∀ q∈p,sp q.block = true)->DataW.TrodAll enc P W' 0 sp true ts vs ds p
 | [],vs,ds,p,h,_,_,_,_=>by
  obtain ⟨rfl,rfl,rfl⟩:=trodAll_nil h
  exact ⟨.nil,fun _ _ _ _ _=>rfl⟩
 | t::ts,vs,ds,p,h,hts,hval,hsz,hbd=>by
  obtain ⟨v,vs1,d,ds1,pa,pb,rfl,rfl,rfl,h1,h2⟩:=trodAll_cons h
  rw [DataW.weightsEach] at hsz
  obtain ⟨h3,h4⟩:=AQ hbk bd hcl hl ts vs1 ds1 pb h2 (fun x hx=>hts x (List.mem_cons_of_mem _ hx)) (fun j x y hx hy=>hval (j+1) x y (by simpa using hx) (by simpa using hy)) (fun k hk=>hsz k (List.mem_append_right _ hk)) (fun x hx=>hbd x (List.mem_cons_of_mem _ hx))
  obtain ⟨b,hv⟩:=hval 0 t v rfl rfl
  obtain ⟨ht0,hr,hrow⟩:=hts t (List.mem_cons_self ..)
  obtain ⟨n,hn⟩:=h1
  obtain ⟨es,k1,k2,k3⟩:=zo hbk hcl n t _ _ ht0 hn fun k hk=>hsz k (List.mem_append_left _ hk)
  refine ⟨.cons n es v.cells.toList k1 k2 ?_ (Nat.le_trans k3 (hbd _ (List.mem_cons_self ..))) h3,fun W' sp hB hlt hq=>⟨pa,pb,WideElems.Trod_stays hl hr hrow ⟨n,hn⟩ (fun x hx=>hB.same (hlt x (List.mem_append_left _ hx))) (fun x hx=>hq x (List.mem_append_left _ hx)),
   h4 W' sp hB (fun x hx=>hlt x (List.mem_append_right _ hx)) (fun x hx=>hq x (List.mem_append_right _ hx)),rfl⟩⟩
  have hc:=List.all_eq_true.1 hcl t ht0
  unfold qp
  cases hu : P.underlying t with
  | none=>simp [hu] at hc
  | some u =>
   rw [hu] at hc
   cases u with
   | bool=>obtain ⟨b,rfl⟩:=okWide_bool hu hv;rfl
   | int k=>obtain ⟨z,rfl⟩:=okWide_int hu hv;rfl
   | string=>obtain ⟨s,rfl⟩:=okWide_string hu hv;rfl
   | slice e=>obtain ⟨a,n,c,rfl⟩:=okWide_slice hu hv;rfl
   | struct fs=>obtain ⟨cs,rfl,_⟩:=okWide_struct hu hv;simp [Value.cells]
   | array m e =>
    simp only [Value.okWide,hu] at hv
    obtain ⟨cs,rfl,_⟩:=hv
    simp [Value.cells]
   | _=>simp at hc
end

theorem HC {H : Type} {enc : TypeId×Value->H} {C : Checked} {f : FuncId} {fn : Func} {s : ChangeSpec} {tb : TypeId} {fresh handsOn again : Bool} {bulk : DataW H->Nat} (hbk : BulkOk bulk) (bd : Nat) (ts0 : List TypeId)
  (hcl : rV C.prog ts0 = true) (hl : laidOutB C.prog = true) (htb : C.prog.underlying tb = some .bool)
  (hts : (fn.params.toList.all fun t=>ts0.contains t && C.prog.readableRec t && Nat.blt t C.prog.types.size) = true) (hres : fn.resultTypes = #[tb]) (hvars : s.vars = []) (hspec : ∀ ds : List (DataW H),ds.length = fn.params.toList.length->s.fn H ds = { results:=[.lit (.bool true)],args:=ds,vars:=[] })
  {W : World} {base : Nat} {args : Array Value} {ds gs : List (DataW H)} {before : List MemPlace} (hval : ∀ (j : Nat) t v,fn.params[j]? = some t->args[j]? = some v->Value.okWide C.prog W .any base t v)
  (hW : DataW.Whole enc C.prog fn.params.toList s.vars false W args.toList ds gs before) (hsz : (DataW.weightsEach C.prog (fn.params.toList++s.plain.varTypes C.prog) (ds++gs)).all (·<=reachBytes) = true) (hbd : ∀ d∈ds,bulk d<=bd)
  (contract : ∀ vs : List Value,ArgsB C.prog (cE W) bd fn.params.toList vs->uW C.prog W (cE W) [] f vs.toArray (Is (cE W) [] (.bool true))) :
  Calls C.prog f args W fun e W'=>∃ v,e = .returned v/\s.post enc C.prog fn false fresh handsOn again W args v W':=by
 have hW':=hW
 obtain ⟨p,q,hA,hV,hb,hfz,hnd⟩:=hW
 rw [hvars] at hV
 obtain ⟨rfl,rfl⟩:=trodVars_none hV
 have hvt : s.plain.varTypes C.prog = []:=by
  have : s.plain.vars = []:=hvars
  unfold DataSpec.varTypes
  rw [this];rfl
 rw [hvt,List.append_nil,List.append_nil] at hsz
 have hts' : ∀ t∈fn.params.toList,t∈ts0/\C.prog.readableRec t = true/\t < C.prog.types.size:=fun t ht=>by
  have:=List.all_eq_true.1 hts t ht
  simp only [Bool.and_eq_true,List.contains_iff_mem] at this
  exact ⟨this.1.1,this.1.2,by simpa [Nat.blt_eq] using this.2⟩
 obtain ⟨h1,h2⟩:=AQ (enc:=enc) hbk bd hcl hl fn.params.toList args.toList ds p hA hts' (fun j t v ht hv=>⟨base,hval j t v (by simpa using ht) (by simpa using hv)⟩) (fun k hk=>by
  have:=List.all_eq_true.1 hsz k hk
  simpa using this) hbd
 have hlen : ds.length = fn.params.toList.length:=by
  have : ∀ (ts : List TypeId) (vs : List Value) (ds : List (DataW H)) (p : List MemPlace),DataW.TrodAll enc C.prog W 0 (fun _=>true) true ts vs ds p->ds.length = ts.length:=by
   intro ts
   induction ts with
   | nil=>intro vs ds p h;obtain ⟨_,rfl,_⟩:=trodAll_nil h;rfl
   | cons t ts ih =>
    intro vs ds p h
    obtain ⟨v,vs1,d,ds1,a,b,rfl,rfl,rfl,_,h2⟩:=trodAll_cons h
    simp [ih _ _ _ h2]
  exact this _ _ _ _ hA
 refine (contract args.toList h1 W (F4 W)).mono ?_
 rintro e' W' ⟨v,M',Γ',rfl,⟨rfl,rfl,rfl⟩,hw'⟩
 refine ⟨_,rfl,?_⟩
 have hB:=IE hw'
 have hfn':=hspec ds hlen
 have hlt : ∀ x∈p,x.block < W.heap.size:=fun x hx=>hW'.lt x (by rw [hb];exact List.mem_append_left _ hx)
 refine Br (pa:=p) (pv:=[]) hW' (fun b sp hd=>?_) (fun sp hsp=>?_) (fun sp _=>?_) (by rw [hb]) hB (fun j t r hj hr=>?_)
 ·rw [List.append_nil,hfn',hres]
  exact trodAll_mk1 (shut_bool htb true)
 ·rw [List.append_nil,hfn']
  exact h2 W' sp hB hlt fun q hq=>hsp q (by rw [hb,List.append_nil];exact hq)
 ·rw [List.append_nil,hfn',hvars]
  rfl
 ·rw [hres] at hj hr
  have hj0 : j = 0:=by
   rcases Nat.eq_zero_or_pos j with h | h
   ·exact h
   ·rw [Array.getElem?_eq_none Qc] at hj;cases hj
  subst hj0
  simp [Value.resultList] at hj hr
  subst hj hr
  exact okWide_bool_mk htb true
theorem nq {H : Type} : ∀ l : List (DataW H),(l.map SizeOf.sizeOf).sum+1<=SizeOf.sizeOf l
 | []=>by simp
 | x::xs=>by have:=nq xs;simp only [List.map_cons,List.sum_cons,List.cons.sizeOf_spec];omega
theorem AJ {H : Type} : BulkOk (H:=H) SizeOf.sizeOf:=⟨fun l=>by simp,Q2,fun els sp=>by have:=nq els;simp only [DataW.slice.sizeOf_spec];omega,fun ps=>by have:=nq ps;simp only [DataW.agg.sizeOf_spec];omega⟩
theorem HB {α : Type} (g : α->Nat) : ∀ {l : List α} {x : α},x∈l->g x<=(l.map g).sum
 | y::ys,x,h=>by
  rw [List.map_cons,List.sum_cons]
  rcases List.mem_cons.1 h with rfl | h
  ·omega
  ·have:=HB g h;omega
def Kn (w0 : World) (M : Mem) (Γ : List As) (F : Prop) : Prop:=∀ w,St w0 M Γ w->F
section
variable {P : Program} {w0 : World} {M : Mem} {Γ : List As} {F : Prop}
end

def w64 (z : Int) : Int:=IntKind.i64.wrap z
section
variable {P : Program} {w0 : World} {L : Lm} {M : Mem} {Γ : List As} {d : Option Nat} {ty : TypeId} {pos : String} {af : Array Edge} {g : Option (Nat×Bool)}
namespace Y
end Y
end
end Xe

namespace Xe
open Go

section
variable {P : Program} {w0 : World} {L : Lm} {M : Mem} {Γ : List As} {d : Option Nat} {ty : TypeId} {pos : String} {af : Array Edge} {g : Option (Nat×Bool)}
namespace Y
theorem eqlK {ik : IntKind} {x y : Operand} {m k : Int} {t : TypeId} (hx : evL L x = some (.int ik m)) (hy : evL L y = some (.int ik k)) :
  Yq P w0 L M Γ ⟨d,.binOp .eql t x y t,ty,pos,af,g⟩ (.bool (decide (m = k))):=fun n a w ha _=>by
 simp [execOp,ha.ev hx,ha.ev hy,eqGuard,Go.binOp,Op.intCmp]
 by_cases h : m = k <;> simp [h]
theorem neqK {ik : IntKind} {x y : Operand} {m k : Int} {t : TypeId} (hx : evL L x = some (.int ik m)) (hy : evL L y = some (.int ik k)) :
  Yq P w0 L M Γ ⟨d,.binOp .neq t x y t,ty,pos,af,g⟩ (.bool (decide (m ≠ k))):=fun n a w ha _=>by
 simp [execOp,ha.ev hx,ha.ev hy,eqGuard,Go.binOp,Op.intCmp]
 by_cases h : m = k <;> simp [h]
def intB (P : Program) (t : TypeId) (k : IntKind) : Bool:=match P.underlying t with
 | some (.int k')=>decide (k' = k)
 | _=>false
theorem Fh {t : TypeId} {k : IntKind} (h : intB P t k = true) : P.underlying t = some (.int k):=by
 unfold intB at h
 cases hu : P.underlying t with
 | none=>simp [hu] at h
 | some dd =>
  rw [hu] at h
  cases dd <;> simp at h
  rw [h]
end Y
end
def HW (f a : Nat) : Nat:=if f = 0 then a else 255 - a
section
variable {P : Program} {w0 : World} {L : Lm} {M : Mem} {Γ : List As} {d : Option Nat} {ty : TypeId} {pos : String} {af : Array Edge} {g : Option (Nat×Bool)}
namespace Y
end Y
end

section
variable {P : Program} {w0 : World} {L : Lm} {M : Mem} {Γ : List As} {d : Option Nat} {ty : TypeId} {pos : String} {af : Array Edge} {g : Option (Nat×Bool)}
end
end Xe

namespace Xe
open Go

section
variable {P : Program} {n : Nat} {w0 : World} {ops : Array Oper} {rest : List Oper} {L : Lm} {M : Mem} {Γ : List As}
end
def byteB (P : Program) (src dst : TypeId) : Bool:=match P.underlying src,P.underlying dst with
 | some (.slice e),some .string=>match P.underlying e with
  | some (.int .u8)=>true
  | _=>false
 | _,_=>false
section
variable {P : Program} {w0 : World} {L : Lm} {M : Mem} {Γ : List As} {d : Option Nat} {ty : TypeId} {pos : String} {af : Array Edge} {g : Option (Nat×Bool)}
theorem vu {s t : ByteArray} (h : ¬ s = t) : ¬ s.toList = t.toList:=fun e=>h (by
 rw [ByteArray.toList_eq,ByteArray.toList_eq] at e
 exact ByteArray.ext (Array.toList_inj.mp e))
namespace Y
theorem eqlS {x y : Operand} {s t : ByteArray} {u : TypeId} (hx : evL L x = some (.string s)) (hy : evL L y = some (.string t)) :
  Yq P w0 L M Γ ⟨d,.binOp .eql u x y u,ty,pos,af,g⟩ (.bool (decide (s = t))):=fun n a w ha _=>by
 simp [execOp,ha.ev hx,ha.ev hy,eqGuard,Go.binOp,Op.stringOp]
 by_cases h : s = t
 ·simp [h]
 ·simp [h,vu h]
theorem neqS {x y : Operand} {s t : ByteArray} {u : TypeId} (hx : evL L x = some (.string s)) (hy : evL L y = some (.string t)) :
  Yq P w0 L M Γ ⟨d,.binOp .neq u x y u,ty,pos,af,g⟩ (.bool (decide (s ≠ t))):=fun n a w ha _=>by
 simp [execOp,ha.ev hx,ha.ev hy,eqGuard,Go.binOp,Op.stringOp]
 by_cases h : s = t
 ·simp [h]
 ·simp [h,vu h]
end Y
end
end Xe

namespace Xe
open Go

section
variable {P : Program} {ops : Array Oper} {Q : Exit->Act->World->Prop} {md : Region.Mode} {S : World->Prop} {fin : Nat}
end
section
variable {fin : Nat} {P : Program} {n : Nat} {w0 : World} {ops : Array Oper} {Mc : Mem} {Γc : List As} {fuel : Nat} {listed : Array Bool} {L : Lm} {M : Mem} {Γ : List As} {K : Lm->Mem->List As->Prop}
end
def strB (P : Program) (t : TypeId) (tys : List TypeId) : Bool:=match P.underlying t with
 | some (.struct fs)=>j3 P 0 fs.toList (P.cellsOf t) && decide (fs.toList.map (·.type) = tys)
 | _=>false
def slcB (P : Program) (t e sz : Nat) : Bool:=match P.underlying t with
 | some (.slice e')=>Nat.beq e' e && Nat.beq (P.cellsOf e) sz
 | _=>false
section
variable {P : Program} {n : Nat} {t : TypeId} {ds : List D}
theorem WT.elems {e sz : Nat} (h : WT P n t ds) (hs : slcB P t e sz = true) : ∃ m,n = m+1/\∃ els : List (List D),ds = [.sl els.length sz els.flatten]/\els.length<=lim/\∀ x∈els,WT P m e x:=by
 cases n with
 | zero=>exact h.elim
 | succ m =>
  unfold slcB at hs
  split at hs
  ·rename_i e' hu
   rw [Bool.and_eq_true] at hs
   obtain rfl:=Nat.eq_of_beq_eq_true hs.1
   obtain rfl:=Nat.eq_of_beq_eq_true hs.2
   simp only [WT,hu] at h
   exact ⟨m,rfl,h⟩
  ·cases hs
theorem WT.int (h : WT P n t ds) (hs : Y.intB P t .i64 = true) : ∃ z,ds = [aj z]/\InI z:=by
 have hu:=Y.Fh hs
 cases n with
 | zero=>exact h.elim
 | succ m =>
  simp only [WT,hu] at h
  obtain ⟨z,rfl,hz⟩:=h
  exact ⟨z,rfl,inI_of hz⟩
end
theorem Aw {α : Type} {enc : α->List D} {Q : α->Prop} : ∀ {els : List (List D)},(∀ x∈els,∃ a,x = enc a/\Q a)->∃ l : List α,els.length = l.length/\els.flatten = l.flatMap enc/\∀ a∈l,Q a
 | [],_=>⟨[],rfl,rfl,fun a h=>by cases h⟩
 | x::xs,h=>by
  obtain ⟨a,rfl,hq⟩:=h x (List.mem_cons_self ..)
  obtain ⟨l,h1,h2,h3⟩:=Aw fun y hy=>h y (List.mem_cons_of_mem _ hy)
  refine ⟨a::l,by simp [h1],by simp [h2],fun b hb=>?_⟩
  rcases List.mem_cons.1 hb with rfl | hb
  ·exact hq
  ·exact h3 b hb
theorem eM {P : Program} {w0 : World} {M : Mem} {Γ : List As} {a : Option Addr} {n c e sz q : Nat} : ∀ (vs : List Value) (i : Nat) (w : World) (us : List Value),St w0 M (.acc (.slice a n c) e sz n us::Γ) w->q+i+vs.length<=us.length->(∀ v∈vs,v.oneCell' = true) ->
  ∃ w',(storeCells (adr a q) vs i).run P w = .ok () w'/\St w0 M (.acc (.slice a n c) e sz n (us.take (q+i)++vs++us.drop (q+i+vs.length))::Γ) w'
 | [],i,w,us,hw,_,_=>⟨w,by simp [storeCells],by simpa using hw⟩
 | v::vs,i,w,us,hw,hl,h1=>by
  simp only [List.length_cons] at hl
  obtain ⟨k1,k2,k3⟩:=hw.setAcc (q:=q+i) (v:=v) Q0
  obtain ⟨w',r1,r2⟩:=eM (q:=q) vs (i+1) _ _ k1 Qc (fun x hx=>h1 x (List.mem_cons_of_mem _ hx))
  have h3 : (Go.store ((adr a q).add i) v).run P w = .ok () (w.setCell (adr a (q+i)) v):=by
   rw [cK,run_store P w _ v _ (h1 v (List.mem_cons_self ..))]
   cases hc : w.cell? (adr a (q+i)) with
   | none=>rw [hc] at k2;cases k2
   | some z=>simp [k3]
  refine ⟨w',by simp [storeCells,h3];exact r1,?_⟩
  have he : (us.set (q+i) v).take (q+(i+1))++vs++(us.set (q+i) v).drop (q+(i+1)+vs.length) = us.take (q+i)++v::vs++us.drop (q+i+(v::vs).length):=by
   have hk : q+i < us.length:=Q0
   have e1 : (us.set (q+i) v).take (q+(i+1)) = us.take (q+i)++[v]:=by
    rw [<-Nat.add_assoc,List.take_succ_eq_append_getElem (by simpa using hk),List.take_set,List.set_eq_of_length_le (by rw [List.length_take];omega),List.getElem_set_self]
   have e2 : (us.set (q+i) v).drop (q+(i+1)+vs.length) = us.drop (q+i+(v::vs).length):=by
    rw [List.drop_set,if_pos Q0]
    congr 1
    simp only [List.length_cons];omega
   rw [e1,e2]
   simp
  rw [he] at r2
  exact r2
def Mem.rem (M : Mem) (b : Nat) : Mem:=fun k=>if k = b then none else M k
section
variable {P : Program} {n : Nat} {w0 : World} {c : Code} {X : Pst} {L : Lm} {M : Mem} {Γ : List As}
end
open Go Go.ChangeShapes Go.WideShapes Go.RowKit
theorem zQ {H : Type} {enc : TypeId×Value->H} {C : Checked} {os : Os} {f : FuncId} {fn : Func} {s : ChangeSpec} {tb : TypeId} {fresh handsOn again : Bool} {laid : List (String×DataW Unit)} {F : Stop.Interp} (ts0 : List TypeId) (own : ownKnob C.prog.godebug = none) (started : os.Started) (noInit : C.prog.inits.idxOf? f = none) (hfn : C.prog.funcs[f]? = some fn)
  (hcl : rV C.prog ts0 = true) (hl : laidOutB C.prog = true) (htb : C.prog.underlying tb = some .bool)
  (hts : (fn.params.toList.all fun t=>ts0.contains t && C.prog.readableRec t && Nat.blt t C.prog.types.size) = true) (hres : fn.resultTypes = #[tb]) (hvars : s.vars = []) (hspec : ∀ ds : List (DataW H),ds.length = fn.params.toList.length->s.fn H ds = { results:=[.lit (.bool true)],args:=ds,vars:=[] })
  (witness : ∃ (w : World) (tape : Tape) (i : Input),w.os = os/\(w.forCall tape i).Shaped C.prog/\i.vars = []/\Input.okWide C.prog (w.forCall tape i) .any w.heap.size f i /\
   (OpenSpec.ofChange s).preRow enc C.prog fn [] false laid (w.forCall tape i).memory i.args/\Assume.holds {} C.prog (lone (Frame.enter C.prog f i.args .normal) [] (w.forCall tape i)))
  (contract : ∀ (W : World) (vs : List Value),laidMetH C.prog laid W->ArgsW C.prog (cE W) fn.params.toList vs->uW C.prog W (cE W) [] f vs.toArray (Is (cE W) [] (.bool true))) :
  ReturnsInHanded {} C os f .any ((OpenSpec.ofChange s).preRow enc C.prog fn [] false laid) (((OpenSpec.ofChange s).at F).post enc C.prog fn false fresh handsOn again):=by
 refine returnsInHanded_of_row (C:=C) (s:=OpenSpec.ofChange s) own started noInit hfn witness ?_
 intro W base args ds gs before hval hW _ _ hsz hL _ _
 exact HC AJ (ds.map SizeOf.sizeOf).sum ts0 hcl hl htb hts hres hvars hspec hval hW hsz (fun d hd=>HB SizeOf.sizeOf hd) fun vs h=>contract W vs hL h.toW
inductive Val where
 | mk (kind n : Int) (kids : List Val)
 deriving Inhabited
def Val.kind : Val->Int | .mk k _ _=>k
def Val.n : Val->Int | .mk _ n _=>n
def Val.kids : Val->List Val | .mk _ _ l=>l
mutual
def Val.enc : Val->List D
 | .mk k n l=>[aj k,aj n,.sl l.length 3 (Val.lC l)]
def Val.lC : List Val->List D
 | []=>[]
 | t::ts=>t.enc++Val.lC ts
end
mutual
def Val.size : Val->Nat
 | .mk _ _ l=>1+Val.sizes l
def Val.sizes : List Val->Nat
 | []=>0
 | t::ts=>t.size+Val.sizes ts
end
inductive Val.Ok : Val->Prop
 | mk {v : Val} : InI v.kind->InI v.n->(∀ k∈v.kids,Val.Ok k)->Val.Ok v
structure SlotT where
 id : IdT
 name : ByteArray
 ty : Ty
 most : Int
 place : Int
 deriving Inhabited
def SlotT.enc (s : SlotT) : List D:=[aj s.id.shop,aj s.id.seq,aj s.id.index,bA s.name,aj s.ty.kind,aj s.ty.df.shop,aj s.ty.df.seq,aj s.ty.df.index,.sl s.ty.kids.length 5 (s.ty.kids.flatMap Ty.enc),aj s.most,aj s.place]
theorem SlotT.aM (s : SlotT) : s.enc.length = 11:=rfl
structure DefT where
 id : IdT
 kind : Int
 mod : IdT
 name : ByteArray
 slots : List SlotT
 result : Ty
 body : Ex
 place : Int
 layout : List ByteArray
 deriving Inhabited
def DefT.enc (s : DefT) : List D:=[aj s.id.shop,aj s.id.seq,aj s.id.index,aj s.kind,aj s.mod.shop,aj s.mod.seq,aj s.mod.index,bA s.name,.sl s.slots.length 11 (s.slots.flatMap SlotT.enc),
 aj s.result.kind,aj s.result.df.shop,aj s.result.df.seq,aj s.result.df.index,.sl s.result.kids.length 5 (s.result.kids.flatMap Ty.enc),
 aj s.body.id.shop,aj s.body.id.seq,aj s.body.id.index,aj s.body.kind,aj s.body.n,aj s.body.ref.shop,aj s.body.ref.seq,aj s.body.ref.index,aj s.body.ty.kind,aj s.body.ty.df.shop,aj s.body.ty.df.seq,aj s.body.ty.df.index,
  .sl s.body.ty.kids.length 5 (s.body.ty.kids.flatMap Ty.enc),.sl s.body.kids.length 15 (s.body.kids.flatMap Ex.enc),.sl s.body.names.length 1 (s.body.names.map bA),
 aj s.place,.sl s.layout.length 1 (s.layout.map bA)]
theorem DefT.aM (s : DefT) : s.enc.length = 31:=rfl
structure ModT where
 id : IdT
 name : ByteArray
 uses : List IdT
 defs : List IdT
 deriving Inhabited
def ModT.enc (m : ModT) : List D:=[aj m.id.shop,aj m.id.seq,aj m.id.index,bA m.name,.sl m.uses.length 3 (m.uses.flatMap IdT.enc),.sl m.defs.length 3 (m.defs.flatMap IdT.enc)]
theorem ModT.aM (m : ModT) : m.enc.length = 6:=rfl
structure ProgT where
 mods : List ModT
 defs : List DefT
 deriving Inhabited
def ProgT.enc (p : ProgT) : List D:=[.sl p.mods.length 6 (p.mods.flatMap ModT.enc),.sl p.defs.length 31 (p.defs.flatMap DefT.enc)]
theorem ProgT.aM (p : ProgT) : p.enc.length = 2:=rfl
theorem IdT.ext' {a b : IdT} (h1 : a.shop = b.shop) (h2 : a.seq = b.seq) (h3 : a.index = b.index) : a = b:=by cases a;cases b;simp only at h1 h2 h3;rw [h1,h2,h3]

section
variable {w0 : World} {M : Mem} {Γ : List As}
end
def ex0 : Ex:=.mk id0 0 0 id0 ty0 [] []
def gQ : DefT:=⟨id0,0,id0,ByteArray.empty,[],ty0,ex0,0,[]⟩
def dR (p : ProgT) (id : IdT) : Prop:=∃ d∈p.defs,d.id = id
instance (p : ProgT) (id : IdT) : Decidable (dR p id):=by unfold dR;exact inferInstance
def an (p : ProgT) (id : IdT) : DefT:=(p.defs.find? fun d=>decide (d.id = id)).getD gQ
theorem ig {p : ProgT} {id : IdT} {k : Nat} (h : k < p.defs.length) (h1 : ∀ j (hj : j < p.defs.length),j < k->p.defs[j].id ≠ id) (h2 : p.defs[k].id = id) : dR p id/\an p id = p.defs[k]:=by
 refine ⟨⟨_,List.getElem_mem h,h2⟩,?_⟩
 have : p.defs.find? (fun d=>decide (d.id = id)) = some p.defs[k]:=by
  rw [List.find?_eq_some_iff_getElem]
  exact ⟨by simpa using h2,k,h,rfl,fun j hj=>by simpa using h1 j Q0 hj⟩
 rw [an,this];rfl
theorem kC {p : ProgT} {id : IdT} (h1 : ∀ j (hj : j < p.defs.length),p.defs[j].id ≠ id) : ¬ dR p id/\an p id = gQ:=by
 have hn : ¬ dR p id:=by
  rintro ⟨d,hd,he⟩
  obtain ⟨j,hj,rfl⟩:=List.mem_iff_getElem.1 hd
  exact h1 j hj he
 refine ⟨hn,?_⟩
 have : p.defs.find? (fun d=>decide (d.id = id)) = none:=by
  rw [List.find?_eq_none]
  intro d hd
  simpa using fun e=>hn ⟨d,hd,e⟩
 rw [an,this];rfl
def rM (p : ProgT) (id : IdT) : Prop:=dR p id/\((an p id).kind = 0\/(an p id).kind = 1)
instance (p : ProgT) (id : IdT) : Decidable (rM p id):=by unfold rM;exact inferInstance
def Cy (p : ProgT) : Nat->Ty->Bool
 | 0,_=>false
 | n+1,t=>if t.kind = 2 then decide (t.df = id0) && (match t.kids with | [x]=>Cy p n x | _=>false)
  else t.kids.isEmpty && (if t.kind = 3 then decide (rM p t.df) else decide (t.df = id0) && decide (t.kind = 0\/t.kind = 1))
def AX (p : ProgT) (t : Ty) : Prop:=Cy p 24 t = true
instance (p : ProgT) (t : Ty) : Decidable (AX p t):=by unfold AX;exact inferInstance
mutual
def Val.wt : Val->Int
 | .mk k n l=>if k = 0 then (if n < 0 then -n else n) else if k = 1 then n else if k = 2 then Val.wts l else if k = 3 then n+Val.wts l else if k = 4 then l.length+Val.wts l else 0
def Val.wts : List Val->Int
 | []=>0
 | v::vs=>v.wt+Val.wts vs
end
def Val.own (v : Val) : Int:=if v.kind = 0 then (if v.n < 0 then -v.n else v.n) else if v.kind = 1 then v.n else if v.kind = 2 then 0 else if v.kind = 3 then v.n else v.kids.length
mutual
def Val.depth : Val->Nat
 | .mk _ _ l=>Val.Ik l+1
def Val.Ik : List Val->Nat
 | []=>0
 | v::vs=>max v.depth (Val.Ik vs)
end
def FG (a b : Int) : Int:=if a < b then -1 else if b < a then 1 else 0
mutual
def cmpV : Val->Val->Int
 | .mk k n l,.mk k' n' l'=>if FG k k' ≠ 0 then FG k k' else if FG n n' ≠ 0 then FG n n' else if FG l.length l'.length ≠ 0 then FG l.length l'.length else cmpVs l l'
def cmpVs : List Val->List Val->Int
 | [],[]=>0
 | [],_::_=>-1
 | _::_,[]=>1
 | x::xs,y::ys=>if cmpV x y ≠ 0 then cmpV x y else cmpVs xs ys
end
mutual
def wZ : Val->Int->Int->Bool×Int
 | .mk _ _ l,d,s=>if 0<=s - 1/\d<=24 then Cw l (d+1) (s - 1) else (false,s - 1)
def Cw : List Val->Int->Int->Bool×Int
 | [],_,s=>(true,s)
 | v::vs,d,s=>if (wZ v d s).1 then Cw vs d (wZ v d s).2 else (false,(wZ v d s).2)
end
def A5 (v : Val) : Prop:=(wZ v 1 256).1 = true
instance (v : Val) : Decidable (A5 v):=by unfold A5;exact inferInstance

mutual
def mT (p : ProgT) : Val->Ty->Bool
 | .mk k n l,t=>decide (AX p t) && (if t.kind = 0 then decide (k = 0) && l.isEmpty && decide (-1099511627776<=n/\n<=1099511627776)
  else if t.kind = 1 then decide (k = 1) && l.isEmpty && decide (n = 0\/n = 1)
  else if t.kind = 2 then decide (k = 4) && decide (n = 0) && H6 p l (t.kids.headD ty0)
  else if (an p t.df).kind = 1 then decide (k = 3) && decide (0<=n/\n < (an p t.df).slots.length) && decide (l.length = 1) && H6 p l (((an p t.df).slots.map SlotT.ty).getD n.toNat ty0)
  else decide (k = 2) && decide (n = 0) && decide (l.length = (an p t.df).slots.length) && fitsZ p l ((an p t.df).slots.map SlotT.ty))
def H6 (p : ProgT) : List Val->Ty->Bool
 | [],_=>true
 | v::vs,t=>mT p v t && H6 p vs t
def fitsZ (p : ProgT) : List Val->List Ty->Bool
 | [],_=>true
 | _::_,[]=>false
 | v::vs,t::ts=>mT p v t && fitsZ p vs ts
end
def FP (p : ProgT) (t : Ty) (v : Val) : Prop:=A5 v/\mT p v t = true
instance (p : ProgT) (t : Ty) (v : Val) : Decidable (FP p t v):=by unfold FP;exact inferInstance

def v0 : Val:=.mk 0 0 []
def nd (m : Nat) : Nat:=if m = 0 then 0 else nd (m / 256)+1
 termination_by m
 decreasing_by exact Nat.div_lt_self Q0 Q0
def uc (h : Nat) : Nat:=if h < 128 then 255 else 0
def kOf (h : Nat) : Nat:=HW (uc h) h - 128
def AV (f : Nat) (l : List Nat) : Nat:=l.foldl (fun m c=>m * 256+HW f c) 0
def getI (b : List Nat) : Int×Int×Int:=match b with
 | []=>(0,0,3)
 | h::t=>if 8 < kOf h then (0,0,2) else if t.length < kOf h then (0,0,3)
  else if 0 < kOf h/\HW (uc h) (t.headD 0) = 0 then (0,0,2)
  else if 9223372036854775808<=AV (uc h) (t.take (kOf h)) then (0,0,2)
  else (if h < 128 then -1 - (AV (uc h) (t.take (kOf h)) : Int) else (AV (uc h) (t.take (kOf h)) : Int),(kOf h : Int)+1,0)

def nums (b : List Nat) : Nat->Nat->List Int->List Int×Int×Nat
 | 0,at_,acc=>(acc,0,at_)
 | j+1,at_,acc=>if (getI (b.drop at_)).2.2 ≠ 0 then (acc,(getI (b.drop at_)).2.2,at_) else nums b j (at_+(getI (b.drop at_)).2.1.toNat) (acc++[(getI (b.drop at_)).1])
def vnum (n : Int) : Val:=.mk 0 n []
def idK (n : Int) : IdT:=⟨0,1+n.tdiv 32,n.tmod 32⟩
def ofT (i : IdT) : Ty:=.mk 3 i []
def bN (t : Ty) : Ty:=.mk 2 id0 [t]
def SlotT.vs (s : SlotT) : List Value:=[bG s.id.shop,bG s.id.seq,bG s.id.index,.string s.name,bG s.ty.kind,bG s.ty.df.shop,bG s.ty.df.seq,bG s.ty.df.index,.slice none 0 0,bG s.most,bG s.place]
def DefT.vs (d : DefT) (u8 u13 u26 u27 u28 u30 : Value) : List Value:=[bG d.id.shop,bG d.id.seq,bG d.id.index,bG d.kind,bG d.mod.shop,bG d.mod.seq,bG d.mod.index,.string d.name,u8,bG d.result.kind,bG d.result.df.shop,bG d.result.df.seq,bG d.result.df.index,u13,bG d.body.id.shop,bG d.body.id.seq,bG d.body.id.index,bG d.body.kind,bG d.body.n,bG d.body.ref.shop,bG d.body.ref.seq,bG d.body.ref.index,bG d.body.ty.kind,bG d.body.ty.df.shop,bG d.body.ty.df.seq,bG d.body.ty.df.index,u26,u27,u28,bG d.place,u30]
def yE : Val:=.mk 2 0 [vnum 1,vnum (-2)]
abbrev MR:=Val×Int
def wfT (p : ProgT) : Nat->Ty->Prop
 | 0,_=>False
 | n+1,t=>t.kind = 0\/t.kind = 1\/(t.kind = 2/\0 < t.kids.length/\wfT p n (t.kids.headD ty0)) \/
  (t.kind ≠ 0/\t.kind ≠ 1/\t.kind ≠ 2/\(an p t.df).slots.length<=3/\((an p t.df).kind = 1->0 < (an p t.df).slots.length)/\∀ s∈(an p t.df).slots,wfT p n s.ty)
theorem sn {p : ProgT} {n : Nat} {t : Ty} (h : wfT p (n+1) t) (h2 : t.kind = 2) : 0 < t.kids.length/\wfT p n (t.kids.headD ty0):=by
 rw [wfT] at h
 rcases h with h | h | h | h
 ·omega
 ·omega
 ·exact h.2
 ·exact absurd h2 h.2.2.1
theorem lR {p : ProgT} {n : Nat} {t : Ty} (h : wfT p (n+1) t) (h0 : ¬ t.kind = 0) (h1 : ¬ t.kind = 1) (h2 : ¬ t.kind = 2) : (an p t.df).slots.length<=3/\((an p t.df).kind = 1->0 < (an p t.df).slots.length)/\∀ s∈(an p t.df).slots,wfT p n s.ty:=by
 rw [wfT] at h
 rcases h with h | h | h | h
 ·exact absurd h h0
 ·exact absurd h h1
 ·exact absurd h.1 h2
 ·exact h.2.2.2
inductive Val.Sm : Val->Prop
 | mk {v : Val} : -4611686018427387904<=v.n/\v.n<=4611686018427387904->(∀ k∈v.kids,Val.Sm k)->Val.Sm v
theorem Val.Sm.n {v : Val} (h : v.Sm) : -4611686018427387904<=v.n/\v.n<=4611686018427387904:=by cases h with | mk a b=>exact a
theorem Val.Sm.kid {v k : Val} (h : v.Sm) (hk : k∈v.kids) : k.Sm:=by cases h with | mk a b=>exact b k hk
theorem bh {p : ProgT} : ∀ {n m : Nat} {t : Ty},n<=m->wfT p n t->wfT p m t
 | 0,_,_,_,h=>h.elim
 | n+1,0,_,hm,_=>by omega
 | n+1,m+1,t,hm,h=>by
  rw [wfT] at h ⊢
  rcases h with h | h | h | h
  ·exact .inl h
  ·exact .inr (.inl h)
  ·exact .inr (.inr (.inl ⟨h.1,h.2.1,bh Q0 h.2.2⟩))
  ·exact .inr (.inr (.inr ⟨h.1,h.2.1,h.2.2.1,h.2.2.2.1,h.2.2.2.2.1,fun s hs=>bh Q0 (h.2.2.2.2.2 s hs)⟩))
theorem wY (p : ProgT) (n : Nat) : wfT p (n+1) ty0:=.inl rfl
theorem Ed {p : ProgT} {n : Nat} {t : Ty} (h : wfT p n t) : wfT p (n+1) (bN t):=.inr (.inr (.inl ⟨rfl,by simp [bN,Ty.kids],h⟩))
def intOf (h W : Nat) : Int:=if h < 128 then -1 - (W : Int) else (W : Int)
def InR (z : Int) : Prop:=-1099511627776<=z/\z<=1099511627776
instance (z : Int) : Decidable (InR z):=by unfold InR;exact inferInstance
def clipI (z : Int) : Int:=min (max z (-1099511627776)) 1099511627776
def absI (z : Int) : Int:=max z (-z)
def timesI (a b : Int) : Int:=if a = 0\/b = 0 then 0 else if Int.tdiv 1099511627776 (absI b) < absI a then (if (a < 0↔b < 0) then 1099511627776 else -1099511627776) else a * b
def divI (a b : Int) : Int:=if b = 0 then 0 else if a.tmod b ≠ 0/\¬ (a < 0↔b < 0) then a.tdiv b - 1 else a.tdiv b
def restI (a b : Int) : Int:=if b = 0 then 0 else a - b * divI a b
def numI (n a b : Int) : Int:=if n = 0 then clipI (a+b) else if n = 1 then clipI (a - b) else if n = 2 then timesI a b else if n = 3 then divI a b else restI a b
def pO (p : Prop) [Decidable p] : Val:=if p then .mk 1 1 [] else .mk 1 0 []
def op2V (n : Int) (x y : Val) : Option Val :=
 if 0<=n/\n < 5 then (if InR x.n/\InR y.n then some (.mk 0 (numI n x.n y.n) []) else none)
 else if n = 5 then some (pO (x.n < y.n))
 else if n = 6 then some (pO (cmpV x y = 0))
 else if n = 7 then some (pO (x.n ≠ 0/\y.n ≠ 0))
 else if n = 8 then some (pO (x.n ≠ 0\/y.n ≠ 0))
 else if n = 10 then some (.mk 4 0 (x.kids++y.kids))
 else some v0
def op1V (n : Int) (x : Val) : Val:=if n = 9 then pO (x.n = 0) else if n = 11 then .mk 0 x.kids.length [] else v0
def opV (n : Int) : List Val->Option Val
 | [x,y]=>op2V n x y
 | [x]=>if n = 9\/n = 11 then some (op1V n x) else none
 | _=>none
abbrev Env:=List (IdT×Int×Val)
def envFind (env : Env) (id : IdT) (n : Int) : Val:=match env.find? (fun x=>decide (x.1 = id/\x.2.1 = n)) with
 | some x=>x.2.2
 | none=>v0
inductive EO where
 | ok (v : Val) (s : Int)
 | err (e : Int)
 | bad
inductive AE where
 | ok (l : List Val) (s : Int)
 | err (e : Int)
 | bad
def EO.bind : EO->(Val->Int->EO)->EO
 | .ok v s,k=>k v s
 | .err e,_=>.err e
 | .bad,_=>.bad
def AE.bind : AE->(List Val->Int->EO)->EO
 | .ok v s,k=>k v s
 | .err e,_=>.err e
 | .bad,_=>.bad
def allF (g : Ex->Int->EO) : List Ex->Int->AE
 | [],s=>.ok [] s
 | e::es,s=>match g e s with
  | .ok v s1=>(match allF g es s1 with
   | .ok l s2=>.ok (v::l) s2
   | .err x=>.err x
   | .bad=>.bad)
  | .err x=>.err x
  | .bad=>.bad
def IP (g : Ex->Int->EO) (l : List Ex) (s : Int) : AE:=if 1000000 < l.length then .bad else allF g l s
def foldF (g : Val->Val->Int->EO) : List Val->Val->Int->EO
 | [],acc,s=>.ok acc s
 | x::xs,acc,s=>(g x acc s).bind fun a s1=>foldF g xs a s1
def IJ : List SlotT->List Val->Env->Option Env
 | [],_,env=>some env
 | _::_,[],_=>none
 | s::ss,a::al,env=>IJ ss al ((s.id,0,a)::env)
def okOpt (o : Option Val) (s : Int) : EO:=match o with
 | some v=>.ok v s
 | none=>.bad
def BR (g : Ex->Env->Int->EO) (l : List Ex) (k : Int) (env : Env) (s : Int) : EO:=if 0<=k then (match l[k.toNat]? with
  | some e=>g e env s
  | none=>.bad) else .bad
def branchF (g : Ex->Env->Int->EO) (e : Ex) (env : Env) (v : Val) (s : Int) : EO :=
 if e.kind = 5 then (if v.n ≠ 0 then BR g e.kids 1 env s else BR g e.kids 2 env s)
 else if e.kind = 6 then BR g e.kids 1 ((e.id,0,v)::env) s
 else if e.kind = 8 then (if 0<=e.n then okOpt v.kids[e.n.toNat]? s else .bad)
 else if e.kind = 10 then (match v.kids[0]? with
  | some x=>if -4611686018427387904<=v.n/\v.n<=4611686018427387904 then BR g e.kids (1+v.n) ((e.id,v.n,x)::env) s else .bad
  | none=>.bad)
 else (BR g e.kids 1 env s).bind fun acc s1=>foldF (fun x a s2=>BR g e.kids 2 ((e.id,1,a)::(e.id,0,x)::env) s2) v.kids acc s1
def valueF (p : ProgT) (g : Ex->Env->Int->EO) (e : Ex) (env : Env) (s : Int) : EO :=
 if e.kind = 0 then .ok (.mk 0 e.n []) s
 else if e.kind = 1 then .ok (pO (e.n ≠ 0)) s
 else if e.kind = 2 then .ok (envFind env e.ref e.n) s
 else if e.kind = 3 then (IP (fun x s=>g x env s) e.kids s).bind fun l s1=>(match IJ (an p e.ref).slots l [] with
  | some env2=>g (an p e.ref).body env2 s1
  | none=>.bad)
 else if e.kind = 4 then (IP (fun x s=>g x env s) e.kids s).bind fun l s1=>okOpt (opV e.n l) s1
 else if e.kind = 7 then (IP (fun x s=>g x env s) e.kids s).bind fun l s1=>.ok (.mk 2 0 l) s1
 else if e.kind = 9 then (IP (fun x s=>g x env s) e.kids s).bind fun l s1=>.ok (.mk 3 e.n l) s1
 else if e.kind = 11 then (IP (fun x s=>g x env s) e.kids s).bind fun l s1=>.ok (.mk 4 0 l) s1
 else (BR g e.kids 0 env s).bind fun v s1=>branchF g e env v s1
def chkV (v : Val) (s : Int) : EO:=if 1152921504606846976 < v.size then .bad else if 256 < v.size\/24 < v.depth then .err 4 else .ok v s
def DM (p : ProgT) (F : Int) : Nat->Ex->Env->Int->EO
 | 0,_,_,s=>if F<=s then .err 18 else .bad
 | g+1,e,env,s=>if F<=s then .err 18 else (valueF p (DM p F g) e env (s+1)).bind chkV
def NumsM (M : Mem) : Prop:=∀ k,k < 5->cz M (adr (some ⟨0,0,none⟩) k) = some (.func (.func (132+k)) #[] #[])
end Xe

namespace Pm
open Go Xe
def bs (l : List UInt8) : Value:=.string ⟨l.toArray⟩
def kwV : List Value:=[bs [109,111,100,117,108,101],bs [117,115,101],bs [114,101,99],bs [99,97,115,101],bs [102,117,110],bs [111,110],bs [116,101,115,116],bs [99,111,110,118],bs [116,114,117,101],bs [102,97,108,115,101],bs [110,111,116],bs [97,110,100],bs [111,114],bs [105,102],bs [116,104,101,110],bs [101,108,115,101],bs [108,101,116],bs [105,110],bs [109,97,116,99,104],bs [102,111,108,100],bs [111,118,101,114],bs [100,111],bs [108,101,110],bs [106,111,105,110],bs [76,105,115,116],bs [73,110,116],bs [66,111,111,108]]
def kidsV : List Value:=([0,0,0,-1,2,3,2,-1,1,1,-1,-1,3] : List Int).map (Value.int .i64)
def HE : List Value:=[195,286,287,287].map fun f=>.func (.func f) #[] #[]
def F8 : List Value:=[bs [61,61],bs [45,62],bs [40],bs [41],bs [123],bs [125],bs [91],bs [93],bs [44],bs [58],bs [46],bs [61],bs [43],bs [45],bs [42],bs [47],bs [37],bs [60]]
def DD : List (Nat×List Value):=[(1,kwV),(2,kidsV),(3,HE),(4,F8)]
def iF : List (Int×Int):=[(3,36),(7,1),(8,1),(9,2),(10,2)]
structure GrOk (M : Mem) : Prop where
 gl : ∀ p∈DD,∀ i u,p.2[i]? = some u->cz M (Addr.add ⟨p.1,0,none⟩ i) = some u
 gm : ∃ (m : Nat) (es : Array MapEntry) (c : Nat) (l : List (Int×Int)),cz M ⟨0,0,none⟩ = some (.map (some m))/\M m = some (.map es c)/\(es.toList.map fun e=>(e.key,e.val)) = (l : List (Int×Int)).map (fun p=>(Value.int .i64 p.1,Value.int .i64 p.2))/\l.Perm iF
theorem GrOk.mono {M M' : Mem} (h : GrOk M) (hs : Sub M M') : GrOk M':=⟨fun p hp i u hu=>iG hs (h.gl p hp i u hu),by
 obtain ⟨m,es,c,l,h1,h2,h3⟩:=h.gm
 exact ⟨m,es,c,l,iG hs h1,hs _ _ h2,h3⟩⟩
end Pm

namespace Go.Proofs.YtmbboaapillefaaGreatDoor
open Xe
set_option maxRecDepth 20000
theorem wt3 : Y.intB Tryz.prog 3 .i64 = true:=by kernel_rfl
theorem wt22 : slcB Tryz.prog 22 3 1 = true:=by kernel_rfl
theorem ints_of {n : Nat} {ds : List D} (h : WT Tryz.prog n 22 ds) : ∃ l : List Int,ds = [aY l]/\∀ x∈l,InI x:=by
 obtain ⟨m,rfl,els,rfl,_,he⟩:=h.elems wt22
 obtain ⟨l,e1,e2,e3⟩:=Aw (enc:=fun z=>[aj z]) (Q:=InI) fun x hx=>(he x hx).int wt3
 exact ⟨l,by rw [e1,e2,aY,List.map_eq_flatMap],e3⟩
theorem II {M : Mem} {ts : List TypeId} {vs : List Value} (h : ArgsW Tryz.prog M (22::ts) vs) : ∃ (l : List Int) (v : Value) (vs' : List Value),vs = v::vs'/\Rd M (aY l) v/\(∀ x∈l,InI x)/\ArgsW Tryz.prog M ts vs':=by
 obtain ⟨n,ds,us,v,vs',rfl,h1,h2,h3,h4⟩:=h.inv
 obtain ⟨l,rfl,hl⟩:=ints_of h2
 simp only [qp,Tryz.underlying22] at h3
 subst h3
 exact ⟨l,v,vs',rfl,h1.2 0 _ _ rfl rfl,hl,h4⟩
theorem yw {M : Mem} {ts : List TypeId} {vs : List Value} (h : ArgsW Tryz.prog M (3::ts) vs) : ∃ (z : Int) (vs' : List Value),vs = bG z::vs'/\InI z/\ArgsW Tryz.prog M ts vs':=by
 obtain ⟨n,ds,us,v,vs',rfl,h1,h2,h3,h4⟩:=h.inv
 obtain ⟨z,rfl,hz⟩:=h2.int wt3
 simp only [qp,Tryz.underlying3] at h3
 subst h3
 have h5:=h1.2 0 _ _ rfl rfl
 simp only [Rd] at h5
 rw [h5.1]
 exact ⟨z,vs',rfl,hz,h4⟩
open Xe Pm Go.ChangeShapes Go.WideShapes Go.ChangeAt Go.RowKit
set_option maxRecDepth 100000
abbrev kg : List (String × DataW Unit) := [("splicery/lex.signs", Rows.laid_splicery_lex_signs), ("splicery/lex.kinds", Rows.laid_splicery_lex_kinds), ("splicery/lex.keywords", Rows.laid_splicery_lex_keywords), ("splicery/whole.fits", Rows.laid_splicery_whole_fits), ("splicery/whole.kids", Rows.laid_splicery_whole_kids)]
theorem ownKn : ownKnob Tryz.prog.godebug = none:=by kernel_rfl
theorem gvar4 : Tryz.prog.globalNamed "splicery/lex.signs" = some 4 := by kernel_rfl
theorem tvar4 : (Tryz.prog.globals[4]?).map (·.type) = some 277:=by kernel_rfl
theorem gvar3 : Tryz.prog.globalNamed "splicery/lex.kinds" = some 3 := by kernel_rfl
theorem tvar3 : (Tryz.prog.globals[3]?).map (·.type) = some 276:=by kernel_rfl
theorem gvar1 : Tryz.prog.globalNamed "splicery/lex.keywords" = some 1 := by kernel_rfl
theorem tvar1 : (Tryz.prog.globals[1]?).map (·.type) = some 240:=by kernel_rfl
theorem gvar0 : Tryz.prog.globalNamed "splicery/whole.fits" = some 0 := by kernel_rfl
theorem tvar0 : (Tryz.prog.globals[0]?).map (·.type) = some 130:=by kernel_rfl
theorem gvar2 : Tryz.prog.globalNamed "splicery/whole.kids" = some 2 := by kernel_rfl
theorem tvar2 : (Tryz.prog.globals[2]?).map (·.type) = some 242:=by kernel_rfl
theorem uty240 : Tryz.prog.underlying 240 = some (.array 27 9):=by kernel_rfl
theorem uty242 : Tryz.prog.underlying 242 = some (.array 13 3):=by kernel_rfl
theorem uty277 : Tryz.prog.underlying 277 = some (.array 18 9):=by kernel_rfl
theorem uty276 : Tryz.prog.underlying 276 = some (.array 2 275):=by kernel_rfl
theorem FQ : Tryz.prog.underlying 275 = some (.array 2 238):=by kernel_rfl
theorem w5 : Tryz.prog.underlying 238 = some (.func #[5] #[4] false):=by kernel_rfl
theorem uty130 : Tryz.prog.underlying 130 = some (.map 3 3):=by kernel_rfl
theorem uty9 : Tryz.prog.underlying 9 = some .string:=by kernel_rfl
theorem uty3 : Tryz.prog.underlying 3 = some (.int .i64):=by kernel_rfl
theorem cty9 : Tryz.prog.cellsOf 9 = 1:=by kernel_rfl
theorem cty3 : Tryz.prog.cellsOf 3 = 1:=by kernel_rfl
theorem cty238 : Tryz.prog.cellsOf 238 = 1:=by kernel_rfl
theorem cty275 : Tryz.prog.cellsOf 275 = 2:=by kernel_rfl
theorem cty276 : Tryz.prog.cellsOf 276 = 4:=by kernel_rfl
theorem take1 {cs : List Value} {i : Nat} {v : Value} (h : (cs.drop i).take 1 = [v]) : cs[i]? = some v:=by
 have:=congrArg (·[0]?) h
 simpa [List.getElem?_take,List.getElem?_drop] using this
section
variable {H : Type} {enc : TypeId×Value->H} {P : Program} {w : World} {base : Nat} {sp : Nat->Bool} {held : Bool} {fuel t e n : Nat} {cs : List Value} {ds : List (DataW H)} {p : List MemPlace}
theorem uK (ht : P.underlying t = some (.array n e)) (h : DataW.trod enc P w base sp held fuel t cs = some (.agg ds,p)) :
  cs.length = P.cellsOf t/\∀ i d,ds[i]? = some d->∃ m q,DataW.trod enc P w base sp held m e ((cs.drop (i * P.cellsOf e)).take (P.cellsOf e)) = some (d,q):=by
 obtain ⟨xs,m,rfl,hx,hl,hxl,hf⟩:=DataW.trod_array ht h
 simp only [Prod.mk.injEq,DataW.agg.injEq] at hx
 refine ⟨hl,fun i d hd=>?_⟩
 rw [hx.1,List.getElem?_map,Option.map_eq_some_iff] at hd
 obtain ⟨y,hy,rfl⟩:=hd
 have hi : i < n:=by have:=(List.getElem?_eq_some_iff.1 hy).1;omega
 exact ⟨m,y.2,by rw [hf i hi,hy]⟩
theorem F2 (ht : P.underlying t = some (.array n e)) (he : P.underlying e = some .string) (hc : P.cellsOf e = 1) {l : List (List UInt8)} (h : DataW.trod enc P w base sp held fuel t cs = some (.agg (l.map fun b=>.lit (.string b)),p)) (i : Nat) (u : Value) (hu : (l.map bs)[i]? = some u) : cs[i]? = some u:=by
 rw [List.getElem?_map,Option.map_eq_some_iff] at hu
 obtain ⟨b,hb,rfl⟩:=hu
 obtain ⟨m,q,h1⟩:=(uK ht h).2 i (.lit (.string b)) (by rw [List.getElem?_map,hb];rfl)
 obtain ⟨s,hs,hx,_⟩:=DataW.trod_string he h1
 rw [hc,Nat.mul_one] at hs
 simp only [Prod.mk.injEq,DataW.lit.injEq,Lit.string.injEq] at hx
 rw [take1 hs,bs,hx.1]
theorem int_at (ht : P.underlying t = some (.array n e)) (he : P.underlying e = some (.int .i64)) (hc : P.cellsOf e = 1) {l : List Int} (h : DataW.trod enc P w base sp held fuel t cs = some (.agg (l.map fun z=>.lit (.int .i64 z)),p)) (i : Nat) (u : Value) (hu : (l.map (Value.int .i64))[i]? = some u) : cs[i]? = some u:=by
 rw [List.getElem?_map,Option.map_eq_some_iff] at hu
 obtain ⟨z,hz,rfl⟩:=hu
 obtain ⟨m,q,h1⟩:=(uK ht h).2 i (.lit (.int .i64 z)) (by rw [List.getElem?_map,hz];rfl)
 obtain ⟨s,hs,hx,_⟩:=DataW.trod_int he h1
 rw [hc,Nat.mul_one] at hs
 simp only [Prod.mk.injEq,DataW.lit.injEq,Lit.int.injEq,true_and] at hx
 rw [take1 hs,hx.1]
end
abbrev kwB : List (List UInt8):=[[109,111,100,117,108,101],[117,115,101],[114,101,99],[99,97,115,101],[102,117,110],[111,110],[116,101,115,116],[99,111,110,118],[116,114,117,101],[102,97,108,115,101],[110,111,116],[97,110,100],[111,114],[105,102],[116,104,101,110],[101,108,115,101],[108,101,116],[105,110],[109,97,116,99,104],[102,111,108,100],[111,118,101,114],[100,111],[108,101,110],[106,111,105,110],[76,105,115,116],[73,110,116],[66,111,111,108]]
abbrev sgB : List (List UInt8):=[[61,61],[45,62],[40],[41],[123],[125],[91],[93],[44],[58],[46],[61],[43],[45],[42],[47],[37],[60]]
abbrev kidsI : List Int:=[0,0,0,-1,2,3,2,-1,1,1,-1,-1,3]
theorem kwEq : (Rows.laid_splicery_lex_keywords : DataW Unit) = .agg (kwB.map fun b=>.lit (.string b)):=Q3
theorem sgEq : (Rows.laid_splicery_lex_signs : DataW Unit) = .agg (sgB.map fun b=>.lit (.string b)):=Q3
theorem kidsEq : (Rows.laid_splicery_whole_kids : DataW Unit) = .agg (kidsI.map fun z=>.lit (.int .i64 z)):=Q3
theorem fitsEq : (Rows.laid_splicery_whole_fits : DataW Unit) = .map (iF.map fun p=>(.int .i64 p.1,.lit (.int .i64 p.2))):=Q3
theorem kwVeq : kwV = kwB.map bs:=Q3
theorem sgVeq : F8 = sgB.map bs:=Q3
theorem kidsVeq : kidsV = kidsI.map (Value.int .i64):=Q3
theorem Gz {W : World} (h : laidMetH Tryz.prog kg W) : laidMet Tryz.prog (kg.filter fun x=>x.2.handleName?.isNone) W:=by
 have hm : ("splicery/lex.kinds", Rows.laid_splicery_lex_kinds) ∈ kg.filter fun x => x.2.handleName?.isSome := List.mem_filter.2 ⟨List.Mem.tail _ (List.Mem.head _), by kernel_rfl⟩
 unfold laidMetH at h
 generalize (kg.filter fun x=>x.2.handleName?.isSome) = fl at h hm
 cases fl with
 | nil=>cases hm
 | cons a r=>exact h.1
theorem oh {W : World} (h : laidMetH Tryz.prog kg W) {n : String} {d : DataW Unit} (hx : (n,d)∈kg) (hd : d.handleName?.isNone = true) {g t : Nat} (hg : Tryz.prog.globalNamed n = some g) (ht : (Tryz.prog.globals[g]?).map (·.type) = some t) :
  ∃ cs fuel p,W.var? Tryz.prog n = some cs/\DataW.trod (fun _=>()) Tryz.prog W 0 (fun _=>true) false fuel t cs.toList = some (d,p):=by
 obtain ⟨g',t',cs,fuel,p,hg',ht',hv,hd'⟩:=Go.Lib.laidMet.reads (Gz h) (List.mem_filter.2 ⟨hx,hd⟩)
 obtain rfl:=Option.some.inj (hg.symm.trans hg')
 obtain rfl:=Option.some.inj (ht.symm.trans ht')
 exact ⟨cs,fuel,p,hv,hd'⟩
theorem cell_of {W : World} {n : String} {g : Nat} {cs : Array Value} (hg : Tryz.prog.globalNamed n = some g) (hv : W.var? Tryz.prog n = some cs) {i : Nat} {u : Value} (hu : cs.toList[i]? = some u) : cz (cE W) (Addr.add ⟨g,0,none⟩ i) = some u:=by
 rw [qQ,show Addr.add ⟨g,0,none⟩ i = ⟨g,i,none⟩ by have:=bC g 0 i;rw [Nat.zero_add] at this;exact this,World.var?_cell hg hv i,<-Array.getElem?_toList,hu]
theorem list4 {cs : List Value} (h : cs.length = 4) : ∃ a b c d,cs = [a,b,c,d]:=by
 match cs,h with
 | [a,b,c,d],_=>exact ⟨a,b,c,d,rfl⟩
theorem HD {W : World} (h : laidMetH Tryz.prog kg W) (i : Nat) (u : Value) (hu : HE[i]? = some u) : cz (cE W) (Addr.add ⟨3,0,none⟩ i) = some u:=by
 obtain ⟨g, t, cs, fuel, p, hg, ht, hv, hd⟩ := h.funcs (n := "splicery/lex.kinds") (List.Mem.tail _ (List.Mem.head _))
 obtain rfl:=Option.some.inj (gvar3.symm.trans hg)
 obtain rfl:=Option.some.inj (tvar3.symm.trans ht)
 have hd1 : DataW.trod (funcToken Tryz.prog) Tryz.prog W 0 (fun _=>true) true fuel 276 cs.toList = some (.agg [.agg [.held [115,112,108,105,99,101,114,121,47,108,101,120,46,108,101,116,116,101,114],.held [115,112,108,105,99,101,114,121,47,108,101,120,46,101,105,116,104,101,114]],.agg [.held [115,112,108,105,99,101,114,121,47,108,101,120,46,100,105,103,105,116],.held [115,112,108,105,99,101,114,121,47,108,101,120,46,100,105,103,105,116]]],p):=hd
 refine cell_of gvar3 hv ?_
 obtain ⟨h1,h2⟩:=uK uty276 hd1
 rw [cty276] at h1
 obtain ⟨a,b,c,d,hcs⟩:=list4 h1
 rw [hcs] at h2 ⊢
 rw [cty275] at h2
 obtain ⟨m0,q0,e0⟩:=h2 0 _ rfl
 obtain ⟨m1,q1,e1⟩:=h2 1 _ rfl
 have f0:=(uK FQ e0).2
 have f1:=(uK FQ e1).2
 rw [cty238] at f0 f1
 obtain ⟨_,_,a0⟩:=f0 0 _ rfl
 obtain ⟨_,_,b0⟩:=f0 1 _ rfl
 obtain ⟨_,_,c0⟩:=f1 0 _ rfl
 obtain ⟨_,_,d0⟩:=f1 1 _ rfl
 obtain rfl:=func_of_trod (f0:=195) w5 (by kernel_rfl) a0
 obtain rfl:=func_of_trod (f0:=286) w5 (by kernel_rfl) b0
 obtain rfl:=func_of_trod (f0:=287) w5 (by kernel_rfl) c0
 obtain rfl:=func_of_trod (f0:=287) w5 (by kernel_rfl) d0
 exact hu
abbrev numOf (x : Value) : Int:=match x with
 | .int _ n=>n
 | _=>0
abbrev Hz (x : Lit×DataW Unit) : Int×Int:=(match x.1 with
 | .int _ n=>n
 | _=>0,match x.2 with
 | .lit (.int _ n)=>n
 | _=>0)
theorem insert_perm {H : Type} (x : Lit×DataW H) : ∀ l : List (Lit×DataW H),(DataW.insert x l).Perm (x::l)
 | []=>.refl _
 | y::r=>by
  unfold DataW.insert
  split
  ·exact .refl _
  ·exact ((insert_perm x r).cons y).trans (List.Perm.swap x y r)
theorem wk {H : Type} : ∀ l : List (Lit×DataW H),(l.foldr DataW.insert []).Perm l
 | []=>.refl _
 | x::l=>(insert_perm x _).trans ((wk l).cons x)
theorem Ds {v : Value} {l : Lit} (h : keyOf Tryz.prog 3 v = some l) : ∃ n,v = .int .i64 n/\l = .int .i64 n:=by
 unfold keyOf at h
 rw [uty3] at h
 simp only at h
 unfold mapKey at h
 rw [uty3] at h
 split at h
 ·rename_i e;cases e
 ·rename_i q q' n e
  obtain rfl : q = .i64:=by cases e;rfl
  split at h
  ·rename_i hq
   obtain ⟨rfl,_⟩:=hq
   exact ⟨n,rfl,(Option.some.inj h).symm⟩
  ·cases h
 ·rename_i e;cases e
 ·cases h
theorem fits_of {W : World} (h : laidMetH Tryz.prog kg W) : ∃ (m : Nat) (es : Array MapEntry) (c : Nat) (l : List (Int×Int)),cz (cE W) ⟨0,0,none⟩ = some (.map (some m))/\cE W m = some (.map es c)/\(es.toList.map fun e=>(e.key,e.val)) = l.map (fun p=>(Value.int .i64 p.1,Value.int .i64 p.2))/\l.Perm iF:=by
 obtain ⟨cs, fuel, p, hv, hd⟩ := oh h (n := "splicery/whole.fits") (List.Mem.tail _ (List.Mem.tail _ (List.Mem.tail _ (List.Mem.head _)))) rfl gvar0 tvar0
 rw [fitsEq] at hd
 obtain ⟨_,hx⟩ | ⟨m,es,c,hcs,hb,_,F,hx⟩:=Go.WideMaps.open_map uty130 uty3 hd
 ·simp at hx
 simp only [Prod.mk.injEq,DataW.map.injEq] at hx
 have hp:=wk (es.toList.map (Go.WideMaps.rg Unit Tryz.prog 3 .i64))
 rw [<-hx.1] at hp
 refine ⟨m,es,c,es.toList.map fun e=>(numOf e.key,numOf e.val),?_,hb,?_,?_⟩
 ·have:=cell_of (W:=W) gvar0 hv (i:=0) (u:=.map (some m)) (by rw [hcs];rfl)
  exact this
 ·rw [List.map_map]
  refine List.map_congr_left fun e he=>?_
  obtain ⟨y,hy⟩:=F.reads e he
  obtain ⟨n,hn,_⟩:=Ds (Go.WideMaps.rd_key hy)
  obtain ⟨k,hk,_⟩:=Go.WideMaps.rd_val hy
  simp [hn,hk]
 ·have h2:=hp.symm.map Hz
  rw [List.map_map,List.map_map] at h2
  have h3 : iF.map (Hz ∘ fun p=>(Lit.int .i64 p.1,DataW.lit (.int .i64 p.2))) = iF:=Q3
  rw [h3] at h2
  refine List.Perm.trans (List.Perm.of_eq (List.map_congr_left fun e he=>?_)) h2
  obtain ⟨y,hy⟩:=F.reads e he
  obtain ⟨n,hn,hn2⟩:=Ds (Go.WideMaps.rd_key hy)
  obtain ⟨k,hk,hk2,_⟩:=Go.WideMaps.rd_val hy
  simp [Go.WideMaps.rg_of hy,Hz,hn,hk,hn2,hk2]
theorem gr_of {W : World} (h : laidMetH Tryz.prog kg W) : GrOk (cE W):=by
 refine ⟨fun q hq i u hu=>?_,fits_of h⟩
 simp only [DD,List.mem_cons,List.not_mem_nil,or_false] at hq
 obtain rfl | rfl | rfl | rfl:=hq
 ·obtain ⟨cs, fuel, p, hv, hd⟩ := oh h (n := "splicery/lex.keywords") (List.Mem.tail _ (List.Mem.tail _ (List.Mem.head _))) rfl gvar1 tvar1
  rw [kwEq] at hd
  exact cell_of gvar1 hv (F2 uty240 uty9 cty9 hd i u (by rw [<-kwVeq];exact hu))
 ·obtain ⟨cs, fuel, p, hv, hd⟩ := oh h (n := "splicery/whole.kids") (List.Mem.tail _ (List.Mem.tail _ (List.Mem.tail _ (List.Mem.tail _ (List.Mem.head _))))) rfl gvar2 tvar2
  rw [kidsEq] at hd
  exact cell_of gvar2 hv (int_at uty242 uty3 cty3 hd i u (by rw [<-kidsVeq];exact hu))
 ·exact HD h i u hu
 ·obtain ⟨cs, fuel, p, hv, hd⟩ := oh h (n := "splicery/lex.signs") (List.Mem.head _) rfl gvar4 tvar4
  rw [sgEq] at hd
  exact cell_of gvar4 hv (F2 uty277 uty9 cty9 hd i u (by rw [<-sgVeq];exact hu))
theorem Ij (os : Os) (args : Array Value) : laidMetH Tryz.prog kg ((World.doorLaid Tryz.prog 3000 os).forCall (fun _ _=>0) ⟨#[],args,[]⟩).memory :=
 laidMetH_of_parts3 (fuel:=8) (laidMet_of_run' 8 (by kernel_rfl) (by kernel_rfl)) (by kernel_rfl) (by kernel_rfl)
end Go.Proofs.YtmbboaapillefaaGreatDoor

namespace Pm
open Go Xe
instance : Inhabited D:=⟨.v (.bool false)⟩
inductive C where
 | d (x : D)
 | n
 | l (sz : Nat)
 | p (b off : Nat)
 | q (b sz k j : Nat)
 | w (b : Nat)
 | m (b : Nat)
 | f (g : Nat) (cs : List C)
 | z
 | u
 | e (b i : Nat)
 | y (b q sz l n : Nat)
 | k (g : Nat)
 deriving Inhabited
inductive S where
 | c (x : C)
 | a (n : Nat) (ds : List D)
 | g (cs : List C)
 | r (n : Nat) (ds : List D) (o : Nat)
 | t (l : List S)
 deriving Inhabited
inductive O where
 | b (e : TypeId) (cs : List C)
 | a (e n : Nat) (ds : List D)
 | w (e sz n : Nat) (ds : List D)
 | v (e sz n : Nat) (cs : List C)
 | s (sz n : Nat) (ds : List D)
 | m (t : TypeId) (ag : Bool) (vs n : Nat) (ds : List D)
 | ms (t : TypeId) (ag : Bool) (vs n : Nat) (ds : List D)
 | it (ag : Bool) (vs : Nat) (cur : Option (List D)) (n : Nat) (ds : List D)
 | x (e sz n : Nat) (ds : List D)
 | gone
structure Fr where
 sl : Nat->S
 ob : Nat->Option O
 base : Nat
def su : S:=.c .u
def Fr.put (fr : Fr) (t : Nat) (v : S) : Fr:=⟨fun k=>match Nat.beq k t with
 | true=>v
 | false=>fr.sl k,fr.ob,fr.base⟩
def Fr.set (fr : Fr) (b : Nat) (o : O) : Fr:=⟨fr.sl,fun k=>match Nat.beq k b with
 | true=>some o
 | false=>fr.ob k,fr.base⟩
def cell (ds : List D) (i : Nat) : D:=ds.getD i default
def sub (ds : List D) (o n : Nat) : List D:=(ds.drop o).take n
def el (ds : List D) (sz k : Nat) : List D:=(ds.drop (k * sz)).take sz
def upd (ds : List D) (o : Nat) (vs : List D) : List D:=ds.take o++vs++ds.drop (o+vs.length)
def cells (n : Nat) (ds : List D) : List D:=(List.range n).map (cell ds)
def intOf : D->Int
 | .v (.int .i64 z)=>z
 | _=>0
def zT (a b c : Int) (ds : List D) : Bool:=decide (intOf (cell ds 0) = a/\intOf (cell ds 1) = b/\intOf (cell ds 2) = c)
def cI (sz : Nat) (a b c : Int) : Nat->List D->Option (List D)
 | 0,_=>none
 | n+1,ds=>match zT a b c ds with
  | true=>some ((ds.take sz).drop 3)
  | false=>cI sz a b c n (ds.drop sz)
def gD (sz : Nat) (a b c : Int) (vs : List D) : Nat->List D->List D
 | 0,ds=>.v (.int .i64 a)::.v (.int .i64 b)::.v (.int .i64 c)::vs++ds
 | n+1,ds=>match zT a b c ds with
  | true=>ds.take 3++vs++ds.drop sz
  | false=>ds.take sz++gD sz a b c vs n (ds.drop sz)
def ja (sz : Nat) (a b c : Int) (n : Nat) (ds : List D) : Nat:=match cI sz a b c n ds with
 | some _=>n
 | none=>n+1
inductive CSh where
 | d
 | i
 | bo
 | p (b off : Nat)
 | w (b : Nat)
 | m (b : Nat)
 | f (g : Nat) (cs : List CSh)
 | y (b sz : Nat)
inductive SSh where
 | c (x : CSh)
 | a (n : Nat)
 | g (cs : List CSh)
 | t (l : List SSh)
inductive OSh where
 | b (e : TypeId) (cs : List CSh)
 | a (e n : Nat)
 | w (e sz : Nat)
 | v (e sz n : Nat) (cs : List CSh)
 | m (t : TypeId) (ag : Bool) (vs : Nat)
 | ms (t : TypeId) (ag : Bool) (vs : Nat)
 | it (ag : Bool) (vs : Nat)
 | x (e sz : Nat)
structure Sh where
 sl : List (Nat×SSh)
 ob : List (Nat×OSh)
abbrev St':=List (List D)
structure Sig where
 f : Nat
 ins : Sh
 out : SSh
 oob : List (Nat×OSh)
 vh : Bool
structure Tb where
 sg : List Sig
 eq3 : List Nat
 deep : List Nat
 eqa : List Nat
 gl : List (Nat×List D)
 gm : List (Nat×List (Int×Int))
 hp : Bool
 eqs : List (Nat×Nat)
 nd : Bool
 ic : Bool
 cs : List Nat
structure Cx where
 is : Sig->St'->St'->Prop
 inl : Nat->List S->List (Nat×O)->S->List (Nat×O)->Prop
def ah (x : D) (k : Int->Prop) : Prop:=match x with
 | .v (.int .i64 z)=>k z
 | _=>False
def bU (x : D) (k : Bool->Prop) : Prop:=match x with
 | .v (.bool b)=>k b
 | _=>False
def yK (x : D) (k : ByteArray->Prop) : Prop:=match x with
 | .v (.string s)=>k s
 | _=>False
def aa (sz : Nat) (x : D) (k : Nat->List D->Prop) : Prop:=match x with
 | .sl n s cs=>(match Nat.beq s sz with
  | true=>k n cs
  | false=>False)
 | _=>False
def ikK (kd : IntKind) (x : D) (k : Int->Prop) : Prop:=match x with
 | .v (.int kd' z)=>kd' = kd/\k z
 | _=>False
def jb (kd : IntKind) : List D->Option (List Int)
 | []=>some []
 | .v (.int kd' z)::l=>(match decEq kd' kd with
  | .isTrue _=>(match jb kd l with
   | some b=>some (z::b)
   | none=>none)
  | .isFalse _=>none)
 | _=>none
def byK (kd : IntKind) (cs : List D) (k : List Int->Prop) : Prop:=match jb kd cs with
 | some b=>k b
 | none=>False
def strB (zs : List Int) : ByteArray:=⟨(zs.map fun z=>UInt8.ofNat z.toNat).toArray⟩
def pE (s : ByteArray) : List D:=s.data.toList.map fun b=>.v (.int .u8 (b.toNat : Int))
def ckK (p : Prop) (k : Prop) : Prop:=p/\k
def ifK (b : Bool) (k h : Prop) : Prop:=match b with
 | true=>k
 | false=>h
def aU : Option O->Option O
 | some (.w e sz n _)=>some (.w e sz n [])
 | some (.v e sz n _)=>some (.v e sz n [])
 | some (.s sz n _)=>some (.s sz n [])
 | some (.x e sz n _)=>some (.x e sz n [])
 | _=>none
inductive Prg where
 | no
 | ret (v : Option S) (ob : List (Nat×O))
 | rdS (t : Nat) (k : S->Prg)
 | rdO (b : Nat) (k : Option O->Prg)
 | rdL (b : Nat) (k : Option O->Prg)
 | i (x : D) (k : Int->Prg)
 | bo (x : D) (k : Bool->Prg)
 | st (x : D) (k : ByteArray->Prg)
 | ik (kd : IntKind) (x : D) (k : Int->Prg)
 | by_ (kd : IntKind) (cs : List D) (k : List Int->Prg)
 | sc (sz : Nat) (x : D) (k : Nat->List D->Prg)
 | if_ (b : Bool) (p q : Prg)
 | ck (p : Prop) (d : Decidable p) (k : Prg)
 | ca (s : Sig) (a : St') (k : St'->Prg)
 | inl (id f : Nat) (xs : List S) (ob : List (Nat×O)) (k : S->List (Nat×O)->Prg)
abbrev ckP (p : Prop) [d : Decidable p] (k : Prg) : Prg:=.ck p d k
structure Qs (α : Type) where
 i : D->(Int->α)->α
 bo : D->(Bool->α)->α
 sc : Nat->D->(Nat->List D->α)->α
def mH : Qs Prg:=⟨.i,.bo,.sc⟩
def aB : Qs Prop:=⟨ah,bU,aa⟩
inductive Tg where
 | ob (b : Nat)
 | nil (sz : Nat)
structure Pk where
 mp : List (Nat×Tg)
 fix : List Nat
def aS : List (Nat×Tg)->Nat->Option Tg
 | [],_=>none
 | (i,x)::l,j=>match Nat.beq j i with
  | true=>some x
  | false=>aS l j
def BZ : List (Nat×Tg)->Nat->Bool
 | [],_=>false
 | (_,.ob b)::l,j=>match Nat.beq j b with
  | true=>true
  | false=>BZ l j
 | (_,.nil _)::l,j=>BZ l j
def Pk.link (k : Pk) (i b : Nat) : Option Pk:=match aS k.mp i with
 | some (.ob b')=>(match Nat.beq b b' with
  | true=>some k
  | false=>none)
 | some (.nil _)=>none
 | none=>match BZ k.mp b with
  | true=>none
  | false=>some ⟨(i,.ob b)::k.mp,k.fix⟩
def Pk.xZ (k : Pk) (i sz : Nat) : Option Pk:=match aS k.mp i with
 | some _=>none
 | none=>some ⟨(i,.nil sz)::k.mp,k.fix⟩
abbrev Ob:=Nat->Option O
def oe (ob : Ob) : List C->Option (List D×List Nat)
 | []=>some ([],[])
 | .d x::l=>(match oe ob l with
  | some (ds,bs)=>some (x::ds,bs)
  | none=>none)
 | .l sz::l=>(match oe ob l with
  | some (ds,bs)=>some (.sl 0 sz []::ds,bs)
  | none=>none)
 | .w b::l=>(match ob b with
  | some (.w _ sz n xs)=>(match oe ob l with
   | some (ds,bs)=>some (.sl n sz xs::ds,b::bs)
   | none=>none)
  | some (.s sz n xs)=>(match oe ob l with
   | some (ds,bs)=>some (.sl n sz xs::ds,bs)
   | none=>none)
  | _=>none)
 | _::_=>none
def C9 (ob : Ob) (k : Pk) : CSh->C->Option (List D×Pk)
 | .d,.d x=>some ([x],k)
 | .d,.l sz=>some ([.sl 0 sz []],k)
 | .i,.d x=>some ([x],k)
 | .bo,.d x=>some ([x],k)
 | .d,.w b=>(match ob b with
  | some (.w _ sz n ds)=>some ([.sl n sz ds],⟨k.mp,b::k.fix⟩)
  | some (.s sz n ds)=>some ([.sl n sz ds],k)
  | some (.v _ sz n ws)=>(match oe ob ws with
   | some (ds,bs)=>some ([.sl n sz ds],⟨k.mp,bs++b::k.fix⟩)
   | none=>none)
  | _=>none)
 | .p i off,.p b off'=>(match Nat.beq off off' with
  | true=>(k.link i b).map fun k=>([],k)
  | false=>none)
 | .w i,.w b=>(k.link i b).map fun k=>([],k)
 | .w i,.l sz=>(k.xZ i sz).map fun k=>([],k)
 | .m i,.m b=>(k.link i b).map fun k=>([],k)
 | .y i sz,.y b q sz' l n=>(match Nat.beq q 0 && Nat.beq sz sz' with
  | true=>(k.link i b).map fun k=>([.v (.int .i64 (l : Int)),.v (.int .i64 (n : Int))],k)
  | false=>none)
 | _,_=>none
def nC (ob : Ob) : Pk->List CSh->List C->Option (List D×Pk)
 | k,[],[]=>some ([],k)
 | k,s::ss,c::cs=>(match C9 ob k s c with
  | some (d,k)=>(match nC ob k ss cs with
   | some (ds,k)=>some (d++ds,k)
   | none=>none)
  | none=>none)
 | _,_,_=>none
def C8 (ob : Ob) (k : Pk) : CSh->C->Option (List D×Pk)
 | .f g cs,.f g' cs'=>(match Nat.beq g g' with
  | true=>nC ob k cs cs'
  | false=>none)
 | s,c=>C9 ob k s c
def fU (ob : Ob) : Pk->List CSh->List C->Option (List D×Pk)
 | k,[],[]=>some ([],k)
 | k,s::ss,c::cs=>(match C8 ob k s c with
  | some (d,k)=>(match fU ob k ss cs with
   | some (ds,k)=>some (d++ds,k)
   | none=>none)
  | none=>none)
 | _,_,_=>none
def dsh : Nat->List CSh
 | 0=>[]
 | n+1=>.d::dsh n
def GB (ob : Ob) (k : Pk) : SSh->S->Option (List D×Pk)
 | .c s,.c x=>C8 ob k s x
 | .a n,.a m ds=>(match Nat.beq n m with
  | true=>some (ds,k)
  | false=>none)
 | .a n,.g cs=>fU ob k (dsh n) cs
 | .g ss,.g cs=>fU ob k ss cs
 | .g ss,.a n ds=>fU ob k ss ((cells n ds).map C.d)
 | _,_=>none
def isD : CSh->Bool
 | .d=>true
 | .i=>true
 | .bo=>true
 | .y _ _=>true
 | _=>false
def hasB : CSh->Bool
 | .d=>true
 | .i=>true
 | .bo=>true
 | .y _ _=>true
 | .f _ cs=>cs.any isD
 | _=>false
def qg : SSh->Bool
 | .c s=>hasB s
 | .a _=>true
 | .g cs=>cs.any hasB
 | .t _=>false
def kN (ob : Ob) (sl : Nat->S) : Pk->List (Nat×SSh)->Option (St'×Pk)
 | k,[]=>some ([],k)
 | k,(t,s)::l=>match GB ob k s (sl t) with
  | some (ds,k)=>(match kN ob sl k l with
   | some (r,k)=>(match qg s with
    | true=>some (ds::r,k)
    | false=>some (r,k))
   | none=>none)
  | none=>none
def GC (ob : Ob) (k : Pk) (i : Nat) (o : OSh) : Option (List D×Pk):=match aS k.mp i with
 | some (.ob b)=>(match o,ob b with
  | .b e cs,some (.b e' cs')=>(match Nat.beq e e' with
   | true=>fU ob k cs cs'
   | false=>none)
  | .b e cs,some (.a e' n ds)=>(match Nat.beq e e' with
   | true=>fU ob k cs ((cells n ds).map C.d)
   | false=>none)
  | .a e n,some (.a e' n' ds)=>(match Nat.beq e e' with
   | true=>(match Nat.beq n n' with
    | true=>some (ds,k)
    | false=>none)
   | false=>none)
  | .a e n,some (.b e' cs')=>(match Nat.beq e e' with
   | true=>fU ob k (dsh n) cs'
   | false=>none)
  | .w e sz,some (.w e' sz' n ds)=>(match Nat.beq e e' with
   | true=>(match Nat.beq sz sz' with
    | true=>some ([.sl n sz ds],k)
    | false=>none)
   | false=>none)
  | .v e sz n cs,some (.v e' sz' n' cs')=>(match Nat.beq e e' && Nat.beq sz sz' && Nat.beq n n' with
   | true=>fU ob k cs cs'
   | false=>none)
  | .m t ag vs,some (.m t' ag' vs' n ds)=>(match Nat.beq t t' && Bool.and (ag == ag') (Nat.beq vs vs') with
   | true=>some ([.sl n (3+vs) ds],k)
   | false=>none)
  | .ms t ag vs,some (.ms t' ag' vs' n ds)=>(match Nat.beq t t' && Bool.and (ag == ag') (Nat.beq vs vs') with
   | true=>some ([.sl n (3+vs) ds],k)
   | false=>none)
  | .x e sz,some (.x e' sz' n ds)=>(match Nat.beq e e' && Nat.beq sz sz' with
   | true=>some ([.sl n sz ds],k)
   | false=>none)
  | .x e sz,some (.w e' sz' n ds)=>(match Nat.beq e e' && Nat.beq sz sz' with
   | true=>some ([.sl n sz ds],k)
   | false=>none)
  | .it ag vs,some (.it ag' vs' _ n ds)=>(match Bool.and (ag == ag') (Nat.beq vs vs') with
   | true=>some ([.sl n (3+vs) ds],k)
   | false=>none)
  | _,_=>none)
 | some (.nil sz)=>(match o with
  | .w _ sz'=>(match Nat.beq sz sz' with
   | true=>some ([.sl 0 sz []],k)
   | false=>none)
  | _=>none)
 | none=>none
def x8 : OSh->Bool
 | .b _ cs=>cs.any hasB
 | .v _ _ _ cs=>cs.any hasB
 | _=>true
def kO (ob : Ob) : Pk->List (Nat×OSh)->Option (St'×Pk)
 | k,[]=>some ([],k)
 | k,(i,o)::l=>match GC ob k i o with
  | some (ds,k)=>(match kO ob k l with
   | some (r,k)=>(match x8 o with
    | true=>some (ds::r,k)
    | false=>some (r,k))
   | none=>none)
  | none=>none
def linked (obs : List (Nat×OSh)) : List (Nat×Tg)->Bool
 | []=>true
 | (i,_)::l=>match obs.any fun x=>Nat.beq x.1 i with
  | true=>linked obs l
  | false=>false
def nQ (mp : List (Nat×Tg)) : List Nat->Bool
 | []=>true
 | b::l=>match BZ mp b with
  | true=>false
  | false=>nQ mp l
def jR : List (Nat×OSh)->Bool
 | []=>true
 | (i,_)::l=>match l.any fun x=>Nat.beq x.1 i with
  | true=>false
  | false=>jR l
def pack (sh : Sh) (fr : Fr) : Option (St'×Pk):=match kN fr.ob fr.sl ⟨[],[]⟩ sh.sl with
 | some (r,k)=>(match kO fr.ob k sh.ob with
  | some (r',k)=>(match linked sh.ob k.mp && nQ k.mp k.fix && jR sh.ob with
   | true=>some (r++r',k)
   | false=>none)
  | none=>none)
 | none=>none
section
variable {α : Type} (Q : Qs α)
def unB (ds : List D) (j : Nat) (s : CSh) (k : C->Nat->α) : α:=match s with
 | .d=>k (.d (cell ds j)) (j+1)
 | .i=>Q.i (cell ds j) fun z=>k (.d (.v (.int .i64 z))) (j+1)
 | .bo=>Q.bo (cell ds j) fun z=>k (.d (.v (.bool z))) (j+1)
 | .p b off=>k (.p b off) j
 | .w b=>k (.w b) j
 | .m b=>k (.m b) j
 | .f _ _=>k .u j
 | .y b sz=>Q.i (cell ds j) fun l=>Q.i (cell ds (j+1)) fun n=>k (.y b 0 sz l.toNat n.toNat) (j+2)
def xe (ds : List D) : Nat->List CSh->(List C->Nat->α)->α
 | j,[],k=>k [] j
 | j,s::ss,k=>unB Q ds j s fun c j=>xe ds j ss fun cs j=>k (c::cs) j
def unC (ds : List D) (j : Nat) (s : CSh) (k : C->Nat->α) : α:=match s with
 | .f g cs=>xe Q ds j cs fun cs j=>k (.f g cs) j
 | s=>unB Q ds j s k
def sr (ds : List D) : Nat->List CSh->(List C->Nat->α)->α
 | j,[],k=>k [] j
 | j,s::ss,k=>unC Q ds j s fun c j=>sr ds j ss fun cs j=>k (c::cs) j
def unS (ds : List D) (s : SSh) (k : S->α) : α:=match s with
 | .c s=>unC Q ds 0 s fun c _=>k (.c c)
 | .a n=>k (.a n ds)
 | .g cs=>sr Q ds 0 cs fun cs _=>k (.g cs)
 | .t _=>k su
def ent (r : St') (j : Nat) : List D:=r.getD j []
def dh (s : Bool) (r : St') (j : Nat) : List D×Nat:=match s with
 | true=>(ent r j,j+1)
 | false=>([],j)
def nc (r : St') : Nat->List (Nat×SSh)->(Nat->S)->((Nat->S)->Nat->α)->α
 | j,[],f,k=>k f j
 | j,(t,s)::l,f,k=>unS Q (dh (qg s) r j).1 s fun x=>nc r (dh (qg s) r j).2 l (fun i=>match Nat.beq i t with
   | true=>x
   | false=>f i) k
def unO (ds : List D) (o : OSh) (k : O->α) : α:=match o with
 | .b e cs=>sr Q ds 0 cs fun cs _=>k (.b e cs)
 | .v e sz n cs=>sr Q ds 0 cs fun cs _=>k (.v e sz n cs)
 | .a e n=>k (.a e n ds)
 | .w e sz=>Q.sc sz (cell ds 0) fun n cs=>k (.w e sz n cs)
 | .m t ag vs=>Q.sc (3+vs) (cell ds 0) fun n cs=>k (.m t ag vs n cs)
 | .ms t ag vs=>Q.sc (3+vs) (cell ds 0) fun n cs=>k (.ms t ag vs n cs)
 | .x e sz=>Q.sc sz (cell ds 0) fun n cs=>k (.x e sz n cs)
 | .it ag vs=>Q.sc (3+vs) (cell ds 0) fun n cs=>k (.it ag vs none n cs)
def AT (b : Nat) (o : O) (f : Ob) : Ob:=fun k=>match Nat.beq k b with
 | true=>some o
 | false=>f k
def qW (r : St') : Nat->List (Nat×OSh)->Ob->(Ob->α)->α
 | _,[],f,k=>k f
 | j,(b,o)::l,f,k=>unO Q (dh (x8 o) r j).1 o fun x=>qW r (dh (x8 o) r j).2 l (AT b x f) k
def nP : List (Nat×OSh)->Nat
 | []=>0
 | (i,_)::l=>Nat.max (i+1) (nP l)
def unpack (sh : Sh) (r : St') (k : Fr->α) : α:=nc Q r 0 sh.sl (fun _=>su) fun sl j=>qW Q r j sh.ob (fun _=>none) fun ob=>k ⟨sl,ob,nP sh.ob⟩
end
def szT (P : Program) (t : TypeId) : Option Nat:=match P.info? t with
 | some i=>some i.size
 | none=>none
def vm (P : Program) (t : TypeId) : Option Nat:=match P.underlying t with
 | some (.struct _)=>szT P t
 | some (.array ..)=>szT P t
 | _=>none
def elT (P : Program) (t : TypeId) : Option (Nat×Nat):=match P.underlying t with
 | some (.slice e)=>(match szT P e with
   | some sz=>some (e,sz)
   | none=>none)
 | _=>none
def dU (P : Program) (t : TypeId) : Nat:=match P.info? t with
 | some i=>i.bytes
 | none=>0
def nK (P : Program) (s i : Nat) : Option (Nat×Nat):=match P.underlying s with
 | some (.struct fs)=>(match fs[i]? with
   | some f=>(match P.info? f.type with
     | some j=>(match j.size with
       | 0=>none
       | _+1=>some (f.offset,f.type))
     | none=>none)
   | none=>none)
 | _=>none
def Ch (P : Program) : Nat->TypeId->List TypeId
 | 0,t=>[t]
 | n+1,t=>match P.underlying t with
   | some (.struct fs)=>fs.toList.flatMap fun f=>Ch P n f.type
   | some (.array k e)=>(List.replicate k (Ch P n e)).flatten
   | _=>[t]
def zC (P : Program) (t : TypeId) (v : Value) : Option C:=match v,elT P t with
 | .slice none 0 0,some (_,sz)=>some (.l sz)
 | v,_=>match v.oneCell' with
   | true=>some (.d (.v v))
   | false=>none
def rY (P : Program) : List TypeId->List Value->Option (List C)
 | [],[]=>some []
 | t::ts,v::vs=>(match zC P t v,rY P ts vs with
   | some d,some ds=>some (d::ds)
   | _,_=>none)
 | _,_=>none
def fk (P : Program) (t : TypeId) : Option (List C):=match gG P t with
 | some v=>rY P (Ch P 4 t) v.cells.toList
 | none=>none
def zDs : List C->Option (List D)
 | []=>some []
 | .d x::l=>(match zDs l with
   | some ds=>some (x::ds)
   | none=>none)
 | .l sz::l=>(match zDs l with
   | some ds=>some (.sl 0 sz []::ds)
   | none=>none)
 | _::_=>none
def BS : Option Value->Bool
 | some (.agg _)=>true
 | _=>false
def conS : Value->S
 | .slice none 0 0=>.c .n
 | v=>match v.oneCell' with
   | true=>.c (.d (.v v))
   | false=>su
def evP (x : Operand) (k : S->Prg) : Prg:=match x with
 | .tmp t=>.rdS t k
 | .const v=>k (conS v)
 | .func f=>k (.c (.f f []))
 | .global _=>.no
def typed (P : Program) (t : TypeId) (s : S) : S:=match s with
 | .c .n=>(match elT P t with
   | some (_,sz)=>.c (.l sz)
   | none=>s)
 | s=>s
def nilC : C->C
 | .l _=>.d (.v (.slice none 0 0))
 | c=>c
def oD (hp : Bool) (s : S) : S:=match hp with
 | false=>s
 | true=>match s with
   | .c c=>.c (nilC c)
   | .g cs=>.g (cs.map nilC)
   | s=>s
def tF (P : Program) (t : TypeId) (s : S) : S:=match s with
 | .c (.d (.v v))=>(match v with
   | .slice none 0 0=>typed P t (.c .n)
   | .func (.func g) fs cs=>(match fs.toList,cs.toList with
     | [],[]=>.c (.f g [])
     | _,_=>s)
   | _=>s)
 | s=>s
def bn (v : S) : Prg:=.ret (some v) []
def vf : Option S->Prg
 | some v=>bn v
 | none=>.no
def fZ (id : Nat) (s : S) (os : List (Nat×O)) (o : O) : Prg:=.rdO id fun x=>match x with
 | none=>.ret (some s) (os++[(id,o)])
 | some _=>.no
def jc (s : S) (k : Int->Prg) : Prg:=match s with
 | .c (.d x)=>.i x k
 | _=>.no
def AK (s : S) (k : Bool->Prg) : Prg:=match s with
 | .c (.d x)=>.bo x k
 | _=>.no
def pP (s : S) (k : ByteArray->Prg) : Prg:=match s with
 | .c (.d x)=>.st x k
 | _=>.no
def jl (z : Int) : Prg:=bn (.c (.d (.v (.int .i64 z))))
def jm (b : Bool) : Prg:=bn (.c (.d (.v (.bool b))))
def okI (z : Int) : Prop:=-9223372036854775808<=z/\z<=9223372036854775807
instance (z : Int) : Decidable (okI z):=by unfold okI;exact inferInstance
def Er (sz : Nat) (s : S) (k : Nat->List D->Prg) : Prg:=match s with
 | .c (.l sz')=>(match Nat.beq sz' sz with
   | true=>k 0 []
   | false=>.no)
 | .c (.d x)=>.sc sz x k
 | .c (.w b)=>.rdO b fun o=>(match o with
   | some (.w _ sz' n ds)=>(match Nat.beq sz' sz with
     | true=>k n ds
     | false=>.no)
   | some (.s sz' n ds)=>(match Nat.beq sz' sz with
     | true=>k n ds
     | false=>.no)
   | some (.x _ sz' n ds)=>(match Nat.beq sz' sz with
     | true=>k n ds
     | false=>.no)
   | _=>.no)
 | _=>.no
def AB (c : C) (k : D->List (Nat×O)->Prg) : Prg:=match c with
 | .d x=>k x []
 | .l sz=>k (.sl 0 sz []) []
 | .w b=>.rdO b fun o=>(match o with
   | some (.w _ sz n ds)=>k (.sl n sz ds) [(b,.s sz n ds)]
   | some (.s sz n ds)=>k (.sl n sz ds) []
   | _=>.no)
 | _=>.no
def AA : List C->(List D->List (Nat×O)->Prg)->Prg
 | [],k=>k [] []
 | c::cs,k=>AB c fun d o=>AA cs fun ds os=>k (d::ds) (o++os)
def yE (s : S) (k : Nat->List D->List (Nat×O)->Prg) : Prg:=match s with
 | .c c=>AB c fun d os=>k 1 [d] os
 | .a n ds=>k n ds []
 | .g cs=>AA cs fun ds os=>k cs.length ds os
 | _=>.no
def okC : C->Bool
 | .u=>false
 | .z=>false
 | _=>true
def eR : S->Option (List C)
 | .c c=>(match okC c with
   | true=>some [c]
   | false=>none)
 | .a n ds=>some ((cells n ds).map C.d)
 | .g cs=>(match cs.all okC with
   | true=>some cs
   | false=>none)
 | _=>none
def kf (P : Program) (t : TypeId) (n : Nat) (ds : List D) (o : Nat) : Option S:=match iT P t with
 | true=>(match Nat.blt o n with
   | true=>some (.c (.d (cell ds o)))
   | false=>none)
 | false=>match vm P t with
   | some m=>(match Nat.beq o 0 && Nat.beq m n with
     | true=>some (.a n ds)
     | false=>(match Nat.ble (o+m) n with
       | true=>some (.a m (sub ds o m))
       | false=>none))
   | none=>none
def oP (P : Program) (t : TypeId) (cs : List C) (o : Nat) : Option S:=match iT P t with
 | true=>(match cs[o]? with
   | some c=>some (.c c)
   | none=>none)
 | false=>match vm P t with
   | some m=>(match Nat.ble (o+m) cs.length with
     | true=>some (.g ((cs.drop o).take m))
     | false=>none)
   | none=>none
def ko : List C->Option (List D)
 | []=>some []
 | .d x::l=>(match ko l with
   | some ds=>some (x::ds)
   | none=>none)
 | _::_=>none
def Dl (P : Program) (t : TypeId) (n : Nat) (ds : List D) (i : Nat) : Prg:=match iT P t with
 | true=>ckP (i < n) (bn (.c (.d (cell ds i))))
 | false=>match vm P t with
   | some m=>ckP (i+m<=n) (bn (.a m (sub ds i m)))
   | none=>.no
def Hv (P : Program) (t : TypeId) (s : S) : Prg:=match s with
 | .r n ds o=>vf (kf P t n ds o)
 | .c (.p b o)=>.rdO b fun x=>(match x with
   | some (.a _ n ds)=>vf (kf P t n ds o)
   | some (.b _ cs)=>vf (oP P t cs o)
   | _=>.no)
 | .c (.q b sz k j)=>.rdO b fun x=>(match x with
   | some (.w _ sz' _ ds)=>(match Nat.beq sz' sz with
     | true=>vf (kf P t sz (el ds sz k) j)
     | false=>.no)
   | some (.s sz' _ ds)=>(match Nat.beq sz' sz with
     | true=>vf (kf P t sz (el ds sz k) j)
     | false=>.no)
   | some (.x _ sz' _ ds)=>(match Nat.beq sz' sz with
     | true=>vf (kf P t sz (el ds sz k) j)
     | false=>.no)
   | some (.v _ sz' _ cs)=>(match Nat.beq sz' sz with
     | true=>vf (oP P t ((cs.drop (k * sz)).take sz) j)
     | false=>.no)
   | _=>.no)
 | .c (.e b i)=>.rdO b fun x=>(match x with
   | some (.a _ n ds)=>Dl P t n ds i
   | some (.b _ cs)=>(match ko cs with
     | some ds=>Dl P t cs.length ds i
     | none=>.no)
   | _=>.no)
 | _=>.no
def xw (cs : List C) (o : Nat) (vs : List C) : List C:=cs.take o++vs++cs.drop (o+vs.length)
def nN : O->Option (Nat×List C)
 | .a e n ds=>some (e,(cells n ds).map C.d)
 | .b e cs=>some (e,cs)
 | _=>none
def DG : S->Option (Nat×List D)
 | .a n ds=>some (n,ds)
 | .c (.d x)=>some (1,[x])
 | _=>none
def FK (m : Nat) (x : O) (o : Nat) (v : S) : Option O:=match x with
 | .a e n ds=>(match Nat.blt 40 n && Bool.not (Nat.beq m n),DG v with
   | true,some (m',vs)=>(match Nat.beq m m' && Nat.ble (o+m) n with
     | true=>some (.a e n (upd ds o vs))
     | false=>none)
   | _,_=>none)
 | _=>none
def nh (m : Nat) (x : O) (o : Nat) (v : S) : Option O:=match FK m x o v with
| some y=>some y
| none=>match nN x with
 | none=>none
 | some (e,us)=>match v with
   | .a m' vs=>(match Nat.beq o 0 && Nat.beq m' us.length && Nat.beq m m' with
     | true=>some (.a e m' vs)
     | false=>(match Nat.beq m' m && Nat.ble (o+m) us.length with
       | true=>some (.b e (xw us o ((cells m' vs).map C.d)))
       | false=>none))
   | v=>(match eR v with
     | some cs=>(match Nat.beq cs.length m && Nat.ble (o+m) us.length with
       | true=>some (.b e (xw us o cs))
       | false=>none)
     | none=>none)
def sA (P : Program) (t : TypeId) (s v : S) : Prg:=match szT P t with
 | none=>.no
 | some m=>match s with
   | .c (.p b o)=>.rdO b fun x=>(match x with
     | some x=>(match nh m x o v with
       | some y=>.ret none [(b,y)]
       | none=>.no)
     | none=>.no)
   | .c (.q b sz k j)=>.rdO b fun x0=>match x0 with
     | some (.v e sz' n us)=>(match eR v with
       | some cs=>(match Nat.beq cs.length m && Nat.beq sz sz' && Nat.ble (j+m) sz with
         | true=>.ret none [(b,.v e sz n (xw us (k * sz+j) cs))]
         | false=>.no)
       | none=>.no)
     | _=>yE v fun m' vs os=>(match Nat.beq m m' with
     | true=>.rdO b fun x=>(match x with
       | some (.w e sz' n ds)=>(match Nat.beq sz sz' && Nat.ble (j+m) sz with
         | true=>(match os.any fun p=>Nat.beq p.1 b with
           | true=>.no
           | false=>.ret none (os++[(b,.w e sz n (upd ds (k * sz+j) vs))]))
         | false=>.no)
       | _=>.no)
     | false=>.no)
   | .c (.e b i)=>yE v fun m' vs os=>(match Nat.beq m m' with
     | true=>.rdO b fun x=>(match os.any fun p=>Nat.beq p.1 b with
       | true=>.no
       | false=>match x with
         | some (.a e n ds)=>ckP (i+m<=n) (.ret none (os++[(b,.a e n (upd ds i vs))]))
         | some (.b e cs)=>(match ko cs with
           | some ds=>ckP (i+m<=cs.length) (.ret none (os++[(b,.a e cs.length (upd ds i vs))]))
           | none=>.no)
         | _=>.no)
     | false=>.no)
   | _=>.no
def B9 (P : Program) (t : TypeId) (s : S) (i : Nat) : Prg:=match nK P t i with
 | none=>.no
 | some (off,_)=>match s with
   | .r n ds o=>bn (.r n ds (o+off))
   | .c (.p b o)=>bn (.c (.p b (o+off)))
   | .c (.q b sz k j)=>bn (.c (.q b sz k (j+off)))
   | .c (.e b i)=>bn (.c (.e b (i+off)))
   | _=>.no
def ye (P : Program) (t : TypeId) (s : S) (i : Nat) : Prg:=match nK P t i with
 | none=>.no
 | some (off,ft)=>match s with
   | .a n ds=>vf (kf P ft n ds off)
   | .g cs=>vf (oP P ft cs off)
   | _=>.no
def GA : Nat->Nat->Int->(Nat->Prg)->Prg
 | 0,_,_,_=>.no
 | n+1,j,z,k=>.if_ (decide (z = (j : Int))) (k j) (GA n (j+1) z k)
def vl (P : Program) (t : TypeId) : Option (Nat×Nat×Nat):=match P.underlying t with
 | some (.array n e)=>(match szT P e with
   | some sz=>(match Nat.blt 0 sz && (Nat.blt 1 n && Nat.ble n 1000000) with
     | true=>some (n,e,sz)
     | false=>none)
   | none=>none)
 | _=>none
def D6 (s : S) (k : Nat->Nat->Prg) : Prg:=match s with
 | .c (.p b o)=>k b o
 | .c (.e b i)=>k b i
 | _=>.no
def BU (P : Program) (t : TypeId) (s i : S) : Prg:=match elT P t with
 | none=>(match vl P t with
   | some (n,_,sz)=>D6 s fun b o=>jc i fun z=>ckP (0<=z/\z < (n : Int)) (bn (.c (.e b (o+z.toNat * sz))))
   | none=>.no)
 | some (_,sz)=>match s with
   | .c (.d x)=>jc i fun z=>.sc sz x fun n cs=>ckP (0<=z/\z < n) (bn (.r sz (el cs sz z.toNat) 0))
   | .c (.w b)=>jc i fun z=>.rdL b fun o=>(match o with
     | some (.w _ sz' n _)=>(match Nat.beq sz' sz with
       | true=>ckP (0<=z/\z < n) (bn (.c (.q b sz z.toNat 0)))
       | false=>.no)
     | some (.s _ _ _)=>.rdO b fun o=>(match o with
       | some (.s sz' n ds)=>(match Nat.beq sz' sz with
         | true=>ckP (0<=z/\z < n) (bn (.r sz (el ds sz z.toNat) 0))
         | false=>.no)
       | _=>.no)
     | some (.x _ sz' n _)=>(match Nat.beq sz' sz with
       | true=>ckP (0<=z/\z < n) (bn (.c (.q b sz z.toNat 0)))
       | false=>.no)
     | some (.v _ sz' n _)=>(match Nat.beq sz' sz with
       | true=>ckP (0<=z/\z < n) (GA n 0 z fun k=>bn (.c (.q b sz k 0)))
       | false=>.no)
     | _=>.no)
   | .c (.y b q sz' l n)=>jc i fun z=>(match Nat.beq sz' sz with
     | true=>.rdO b fun o=>(match o with
       | some (.w _ _ _ _)=>ckP (0<=z/\z < (n : Int)) (bn (.c (.q b sz (l+z.toNat) 0)))
       | some (.x _ _ _ _)=>ckP (0<=z/\z < (n : Int)) (bn (.c (.q b sz (l+z.toNat) 0)))
       | some (.a _ _ _)=>ckP (0<=z/\z < (n : Int)) (bn (.c (.e b (q+(l+z.toNat) * sz))))
       | some (.b _ _)=>ckP (0<=z/\z < (n : Int)) (bn (.c (.e b (q+(l+z.toNat) * sz))))
       | _=>.no)
     | false=>.no)
   | _=>.no
def HH (P : Program) (t : TypeId) : Bool:=match P.underlying t with
 | some (.int .i64)=>true
 | _=>false
def EE (s : S) (k : List D->Prg) : Prg:=match s with
 | .a _ ds=>k ds
 | .g [.d a,.d b,.d c]=>k [a,b,c]
 | _=>.no
def CQ : S->Bool
 | .a n _=>Nat.beq n 3
 | _=>true
def mR (P : Program) (t : TypeId) : Option IntKind:=match P.underlying t with
 | some (.int k)=>some k
 | _=>none
def kP (kd : IntKind) (s : S) (k : Int->Prg) : Prg:=match s with
 | .c (.d x)=>.ik kd x k
 | _=>.no
def rK (kd : IntKind) (z : Int) : Prg:=bn (.c (.d (.v (.int kd z))))
def Cm (kd : IntKind) (op : BinOp) (a b : Int) : Prg:=match op with
 | .add=>rK kd (kd.wrap (a+b))
 | .sub=>rK kd (kd.wrap (a - b))
 | .mul=>rK kd (kd.wrap (a * b))
 | .quo=>ckP (b ≠ 0) (rK kd (kd.wrap (a.tdiv b)))
 | .rem=>ckP (b ≠ 0) (rK kd (a.tmod b))
 | .and=>rK kd (bits .and kd a b)
 | .or=>rK kd (bits .or kd a b)
 | .xor=>rK kd (bits .xor kd a b)
 | .andNot=>rK kd (bits .andNot kd a b)
 | .lss=>jm (decide (a < b))
 | .leq=>jm (decide (a<=b))
 | .gtr=>jm (decide (b < a))
 | .geq=>jm (decide (b<=a))
 | _=>.no
def isSh : BinOp->Bool
 | .shl=>true
 | .shr=>true
 | _=>false
def Be (P : Program) (op : BinOp) (t t' : TypeId) (x y : S) : Prg:=match mR P t,mR P t' with
 | some k,some k'=>kP k x fun a=>kP k' y fun b=>(match op with
   | .shl=>ckP (0<=b) (rK k (k.wrap (a * 2 ^ min b.toNat k.bits)))
   | .shr=>ckP (0<=b) (rK k (a / 2 ^ min b.toNat k.bits))
   | _=>.no)
 | _,_=>.no
def eqP (P : Program) (tb : Tb) (t : TypeId) (x y : S) (k : Bool->Prg) : Prg:=match P.underlying t with
 | some (.int .i64)=>jc x fun a=>jc y fun b=>k (decide (a = b))
 | some .string=>pP x fun a=>pP y fun b=>k (decide (a = b))
 | some .bool=>AK x fun a=>AK y fun b=>k (a == b)
 | some (.struct _)=>(match tb.eq3.any (Nat.beq t) && CQ x && CQ y with
   | true=>EE x fun a=>EE y fun b=>.i (cell a 0) fun a0=>.i (cell a 1) fun a1=>.i (cell a 2) fun a2 =>
       .i (cell b 0) fun b0=>.i (cell b 1) fun b1=>.i (cell b 2) fun b2=>k (decide (a0 = b0/\a1 = b1/\a2 = b2))
   | false=>.no)
 | some (.int kd)=>kP kd x fun a=>kP kd y fun b=>k (decide (a = b))
 | some (.array n e)=>(match tb.eqa.any (Nat.beq t),mR P e,x,y with
   | true,some kd,.a m ds,.a m' ds'=>(match Nat.beq m n && Nat.beq m' n with
     | true=>.by_ kd ds fun a=>.by_ kd ds' fun b=>k (decide (a = b))
     | false=>.no)
   | _,_,_,_=>.no)
 | _=>.no
def Cl (op : BinOp) (a b : Int) : Prg:=match op with
 | .add=>ckP (okI (a+b)) (jl (a+b))
 | .sub=>ckP (okI (a - b)) (jl (a - b))
 | .mul=>ckP (okI (a * b)) (jl (a * b))
 | .quo=>ckP (b ≠ 0/\okI (a.tdiv b)) (jl (a.tdiv b))
 | .rem=>ckP (b ≠ 0) (jl (a.tmod b))
 | .lss=>jm (decide (a < b))
 | .leq=>jm (decide (a<=b))
 | .gtr=>jm (decide (b < a))
 | .geq=>jm (decide (b<=a))
 | .and=>jl (bits .and .i64 a b)
 | .or=>jl (bits .or .i64 a b)
 | .xor=>jl (bits .xor .i64 a b)
 | _=>.no
def yt (P : Program) (tb : Tb) (op : BinOp) (t : TypeId) (x y : S) : Prg:=match op with
 | .eql=>eqP P tb t x y jm
 | .neq=>eqP P tb t x y fun b=>jm (!b)
 | _=>match P.underlying t with
   | some (.int .i64)=>jc x fun a=>jc y fun b=>Cl op a b
   | some .string=>pP x fun a=>pP y fun b=>(match op with
     | .add=>ckP (a.size+b.size<=1000000) (bn (.c (.d (.v (.string (a++b))))))
     | _=>.no)
   | some (.int kd)=>kP kd x fun a=>kP kd y fun b=>Cm kd op a b
   | _=>.no
def unP (P : Program) (op : UnOp) (t : TypeId) (x : S) : Prg:=match op with
 | .not=>AK x fun a=>jm (!a)
 | .neg=>(match HH P t with
   | true=>jc x fun a=>ckP (okI (-a)) (jl (-a))
   | false=>.no)
 | .xor=>(match mR P t with
   | some k=>kP k x fun a=>rK k (bits .xor k (match k.signed with
     | true=>-1
     | false=>k.max) a)
   | none=>.no)
 | _=>.no
def Ip (P : Program) (s t : TypeId) (x : S) : Prg:=match mR P s,mR P t with
 | some k,some k'=>kP k x fun z=>rK k' (k'.wrap z)
 | _,_=>match P.underlying t with
   | some .string=>(match P.underlying s with
     | some (.slice e)=>(match mR P e with
       | some .u8=>Er 1 x fun _ cs=>.by_ .u8 cs fun zs=>bn (.c (.d (.v (.string (strB zs)))))
       | _=>.no)
     | some .string=>pP x fun b=>bn (.c (.d (.v (.string b))))
     | _=>.no)
   | _=>.no
def oneB (P : Program) (t : TypeId) : Bool:=match szT P t with
 | some m=>Nat.beq m 1
 | none=>false
def yo (s : ByteArray) (i : Nat) : Int:=((s.data.toList.getD i 0).toNat : Int)
def mc (P : Program) (t : TypeId) (x i : S) : Prg:=match P.underlying t with
 | some .string=>pP x fun s=>jc i fun z=>ckP (0<=z/\z < (s.size : Int)) (rK .u8 (yo s z.toNat))
 | some (.array n e)=>(match x with
   | .a m ds=>(match Nat.beq n m && iT P e && oneB P e with
     | true=>jc i fun z=>ckP (0<=z/\z < (n : Int)) (bn (.c (.d (cell ds z.toNat))))
     | false=>.no)
   | _=>.no)
 | _=>.no
def x6 (P : Program) (t : TypeId) (x i : S) : Prg:=match P.underlying t,i with
 | some .string,.c (.d (.v (.int _ z)))=>pP x fun s=>ckP (0<=z/\z < (s.size : Int)) (rK .u8 (yo s z.toNat))
 | some (.array n e),.c (.d (.v (.int .i64 z)))=>(match iT P e,vm P e,x with
   | false,some sz,.a m ds=>(match Nat.beq m (n * sz) with
     | true=>ckP (0<=z/\z < (n : Int)) (bn (.a sz (sub ds (z.toNat * sz) sz)))
     | false=>.no)
   | _,_,_=>mc P t x i)
 | _,_=>mc P t x i
def C6 (P : Program) (t : TypeId) : Option (List (Nat×Nat)):=match vl P t with
 | some (n,_,sz)=>some ((List.range n).map fun i=>(i * sz,sz))
 | none=>xF P t
def partT (P : Program) (t i : Nat) : Option Nat:=match vl P t with
 | some (_,e,_)=>some e
 | none=>match nK P t i with
   | some (_,ft)=>some ft
   | none=>none
def xG (P : Program) (t : TypeId) (pl : List (Nat×Nat)) : List (Nat×Operand)->List C->(List C->Prg)->Prg
 | [],cs,k=>k cs
 | (i,x)::l,cs,k=>match pl[i]?,partT P t i with
   | some (off,m),some ft=>evP x fun s=>(match eR (typed P ft s) with
       | some vs=>(match Nat.beq vs.length m && Nat.ble (off+m) cs.length with
         | true=>xG P t pl l (xw cs off vs) k
         | false=>.no)
       | none=>.no)
   | _,_=>.no
def Ci (P : Program) (t : TypeId) (parts : List (Nat×Operand)) : Prg:=match C6 P t,fk P t,BS (gG P t) with
 | some pl,some zs,true=>xG P t pl parts zs fun cs=>bn (.g cs)
 | _,_,_=>.no
def xI (P : Program) (hp : Bool) (e sz : Nat) : Nat->List (Nat×Operand)->(List D->List (Nat×O)->Prg)->Prg
 | _,[],k=>k [] []
 | j,(i,x)::l,k=>match Nat.beq i j with
   | true=>evP x fun s=>yE (oD hp (typed P e s)) fun m ds os=>(match Nat.beq m sz with
     | true=>xI P hp e sz (j+1) l fun r os'=>k (ds++r) (os++os')
     | false=>.no)
   | false=>.no
def gR (P : Program) (e sz : Nat) : Bool:=match P.info? e with
 | some i=>Nat.beq i.size sz && (match i.zero with
   | some z=>Nat.beq z.cells.size sz
   | none=>false) && Nat.blt 0 sz
 | none=>false
def lH (P : Program) (hp : Bool) (id : Nat) (t : TypeId) (len : Nat) (parts : List (Nat×Operand)) : Prg:=match elT P t with
 | some (e,sz)=>(match Nat.beq parts.length len && Nat.ble (len * sz) 16777216 && gR P e sz with
   | true=>xI P hp e sz 0 parts fun ds os=>fZ id (.c (.w id)) os (.w e sz len ds)
   | false=>.no)
 | none=>.no
def wX (P : Program) (e sz : Nat) : Nat->List (Nat×Operand)->(List C->Prg)->Prg
 | _,[],k=>k []
 | j,(i,x)::l,k=>match Nat.beq i j with
   | true=>evP x fun s=>match eR (typed P e s) with
     | some cs=>(match Nat.beq cs.length sz with
       | true=>wX P e sz (j+1) l fun r=>k (cs++r)
       | false=>.no)
     | none=>.no
   | false=>.no
def qm (P : Program) (id : Nat) (t : TypeId) (len : Nat) (parts : List (Nat×Operand)) : Prg:=match elT P t with
 | some (e,sz)=>(match Nat.beq parts.length len && Nat.ble (len * sz) 16777216 && gR P e sz with
   | true=>wX P e sz 0 parts fun cs=>fZ id (.c (.w id)) [] (.v e sz len cs)
   | false=>.no)
 | none=>.no
def Cp (P : Program) (id : Nat) (t : TypeId) : Prg:=match fk P t with
 | some zs=>(match Nat.blt 40 zs.length,zDs zs with
   | true,some ds=>fZ id (.c (.p id 0)) [] (.a t zs.length ds)
   | _,_=>fZ id (.c (.p id 0)) [] (.b t zs))
 | none=>.no
def boxP (P : Program) (id : Nat) (t : TypeId) (s : S) : Prg:=match typed P t s with
 | .a n ds=>fZ id (.c (.p id 0)) [] (.a t n ds)
 | s=>(match eR s with
   | some cs=>fZ id (.c (.p id 0)) [] (.b t cs)
   | none=>.no)
def room (n bytes : Nat) : Prop:=n * bytes<=140737488355328
instance (n bytes : Nat) : Decidable (room n bytes):=by unfold room;exact inferInstance
def Gn (sz : Nat) (s : S) (k : Nat->Nat->Nat->Nat->Nat->List D->Prg) (nzz : Prg) : Prg:=match s with
 | .c (.w b)=>.rdO b fun o=>(match o with
   | some (.w e sz' N ds)=>(match Nat.beq sz' sz with
     | true=>k b 0 N N e ds
     | false=>.no)
   | some (.x e sz' N ds)=>(match Nat.beq sz' sz with
     | true=>k b 0 N N e ds
     | false=>.no)
   | _=>nzz)
 | .c (.y b q sz' l n)=>.rdO b fun o=>(match o with
   | some (.w e sz2 N ds)=>(match Nat.beq q 0 && (Nat.beq sz' sz && Nat.beq sz2 sz) with
     | true=>k b l n N e ds
     | false=>.no)
   | some (.x e sz2 N ds)=>(match Nat.beq q 0 && (Nat.beq sz' sz && Nat.beq sz2 sz) with
     | true=>k b l n N e ds
     | false=>.no)
   | _=>nzz)
 | _=>nzz
def yO (sz : Nat) (s : S) (k : Nat->List D->Prg) : Prg:=match s with
 | .c (.y b q sz' l n)=>Gn sz (.c (.y b q sz' l n)) (fun _ l n _ _ ds=>k n (sub ds (l * sz) (n * sz))) .no
 | s=>Er sz s k
def tW (e sz : Nat) (s : S) (k : Nat->List D->List (Nat×O)->Prg) : Prg:=match s with
 | .c .n=>k 0 [] []
 | .c (.l sz')=>(match Nat.beq sz' sz with
   | true=>k 0 [] []
   | false=>.no)
 | .c (.w b)=>.rdO b fun o=>(match o with
   | some (.w e' sz' n ds)=>(match Nat.beq e e' && Nat.beq sz sz' with
     | true=>k n ds [(b,.gone)]
     | false=>.no)
   | _=>.no)
 | _=>.no
def oW (e sz : Nat) (s : S) (k : Nat->List C->List (Nat×O)->Prg) : Prg:=match s with
 | .c .n=>k 0 [] []
 | .c (.l sz')=>(match Nat.beq sz' sz with
   | true=>k 0 [] []
   | false=>.no)
 | .c (.w b)=>.rdO b fun o=>(match o with
   | some (.v e' sz' n cs)=>(match Nat.beq e e' && Nat.beq sz sz' with
     | true=>k n cs [(b,.gone)]
     | false=>.no)
   | _=>.no)
 | _=>.no
def j7 (P : Program) (id : Nat) (t : TypeId) (s x : S) : Prg:=match elT P t with
 | none=>.no
 | some (e,sz)=>match gR P e sz with
   | false=>.no
   | true=>match x with
     | .c (.w b2)=>.rdO b2 fun o2=>(match o2 with
       | some (.v e2 sz2 m vs)=>(match Nat.beq e e2 && Nat.beq sz sz2 && vs.all okC with
         | true=>oW e sz s fun n cs os=>ckP (room (n+m) (dU P e+1)) (fZ id (.c (.w id)) os (.v e sz (n+m) (cs++vs)))
         | false=>.no)
       | _=>tW e sz s fun n ds os=>yO sz x fun m vs=>ckP (room (n+m) (dU P e+1)) (fZ id (.c (.w id)) os (.w e sz (n+m) (ds++vs))))
     | x=>tW e sz s fun n ds os=>yO sz x fun m vs=>ckP (room (n+m) (dU P e+1)) (fZ id (.c (.w id)) os (.w e sz (n+m) (ds++vs)))
def u8B (P : Program) (e : TypeId) : Bool:=match P.info? e with
 | some i=>Nat.beq i.size 1 && Nat.beq i.bytes 1 && (match i.zero with
   | some (.int .u8 z)=>decide (z = 0)
   | _=>false)
 | none=>false
def uM (P : Program) (id : Nat) (t t' : TypeId) (s x : S) : Prg:=match elT P t,P.underlying t' with
 | some (e,_),some .string=>(match u8B P e with
   | true=>tW e 1 s fun n ds os=>pP x fun z=>ckP (room (n+z.size) 2) (fZ id (.c (.w id)) os (.w e 1 (n+z.size) (ds++pE z)))
   | _=>.no)
 | _,_=>.no
def Io (P : Program) (t t' : TypeId) (s x : S) : Prg:=match elT P t,P.underlying t' with
 | some (e,_),some .string=>(match s,oneB P e with
   | .c (.y b q 1 l n),true=>pP x fun z=>.rdO b fun o=>(match o with
     | some (.a e' m ds)=>ckP (q+l * 1+min z.size n<=m) (.ret (some (.c (.d (.v (.int .i64 (min z.size n : Nat)))))) [(b,.a e' m (upd ds (q+l * 1) ((pE z).take (min z.size n))))])
     | _=>.no)
   | _,_=>.no)
 | _,_=>.no
def lenP (P : Program) (t : TypeId) (s : S) : Prg:=match P.underlying t with
 | some (.slice _)=>(match elT P t with
   | some (_,sz)=>(match s with
     | .c (.w b)=>.rdL b fun o=>(match o with
       | some (.v _ sz' n _)=>(match Nat.beq sz' sz with
         | true=>jl (n : Int)
         | false=>.no)
       | some (.w _ sz' n _)=>(match Nat.beq sz' sz with
         | true=>jl (n : Int)
         | false=>.no)
       | some (.s sz' n _)=>(match Nat.beq sz' sz with
         | true=>jl (n : Int)
         | false=>.no)
       | some (.x _ sz' n _)=>(match Nat.beq sz' sz with
         | true=>jl (n : Int)
         | false=>.no)
       | _=>.no)
     | .c (.y _ _ sz' _ n)=>(match Nat.beq sz' sz with
       | true=>jl (n : Int)
       | false=>.no)
     | s=>Er sz s fun n _=>jl (n : Int))
   | none=>.no)
 | some .string=>pP s fun a=>jl (a.size : Int)
 | _=>.no
def sameB : CSh->C->Bool
 | .d,.d _=>true
 | .i,.d _=>true
 | .bo,.d _=>true
 | .d,.w _=>true
 | .d,.l _=>true
 | .d,.y _ _ _ _ _=>true
 | .p _ o,.p _ o'=>Nat.beq o o'
 | .w _,.w _=>true
 | .w _,.l _=>true
 | .m _,.m _=>true
 | _,_=>false
def Gb : List CSh->List C->Bool
 | [],[]=>true
 | s::ss,c::cs=>sameB s c && Gb ss cs
 | _,_=>false
def sameC : CSh->C->Bool
 | .f g cs,.f g' cs'=>Nat.beq g g' && Gb cs cs'
 | s,c=>sameB s c
def Ga : List CSh->List C->Bool
 | [],[]=>true
 | s::ss,c::cs=>sameC s c && Ga ss cs
 | _,_=>false
def sameS : SSh->S->Bool
 | .c s,.c c=>sameC s c
 | .a n,.a m _=>Nat.beq n m
 | .a n,.g cs=>Nat.beq n cs.length
 | .g ss,.g cs=>Ga ss cs
 | .g ss,.a n _=>Nat.beq ss.length n
 | _,_=>false
def mT : List (Nat×SSh)->List S->Bool
 | [],[]=>true
 | (_,s)::l,x::xs=>sameS s x && mT l xs
 | _,_=>false
def Fz : List Operand->(List S->Prg)->Prg
 | [],k=>k []
 | x::xs,k=>evP x fun s=>Fz xs fun l=>k (s::l)
def hU (P : Program) : List TypeId->List S->List S
 | t::ts,s::l=>typed P t s::hU P ts l
 | _,l=>l
def s6 : C->List Nat
 | .p b _=>[b]
 | .q b _ _ _=>[b]
 | .w b=>[b]
 | .m b=>[b]
 | .e b _=>[b]
 | .y b _ _ _ _=>[b]
 | _=>[]
def zi : C->List Nat
 | .f _ cs=>cs.flatMap s6
 | c=>s6 c
def jK : S->List Nat
 | .c c=>zi c
 | .g cs=>cs.flatMap zi
 | .t l=>l.flatMap fun | .c c=>zi c | .g cs=>cs.flatMap zi | _=>[]
 | _=>[]
def Gt : O->List Nat
 | .b _ cs=>cs.flatMap zi
 | .v _ _ _ cs=>cs.flatMap zi
 | _=>[]
def iL : List (Nat×O)->Nat->Option O
 | [],_=>none
 | (i,o)::l,b=>match Nat.beq b i with
   | true=>some o
   | false=>iL l b
def bK : List (Nat×O)->Nat->Bool
 | [],_=>false
 | (i,_)::l,b=>match Nat.beq b i with
   | true=>true
   | false=>bK l b
def tc : Nat->List Nat->List (Nat×O)->(List (Nat×O)->Prg)->Prg
 | 0,_,_,_=>.no
 | _+1,[],acc,k=>k acc
 | n+1,b::l,acc,k=>match bK acc b with
   | true=>tc n l acc k
   | false=>.rdO b fun o=>match o with
     | some o=>tc n (Gt o++l) ((b,o)::acc) k
     | none=>.no
def ng (acc : List (Nat×O)) : List Nat->Bool
 | []=>true
 | b::l=>match bK acc b with
   | true=>ng acc l
   | false=>false
def mK (acc : List (Nat×O)) : List (Nat×O)->Bool
 | []=>true
 | (_,o)::l=>match ng acc (Gt o) with
   | true=>mK acc l
   | false=>false
def mN : List (Nat×O)->Bool
 | []=>true
 | (i,_)::l=>match bK l i with
   | true=>false
   | false=>mN l
def zH (id : Nat) (acc : List (Nat×O)) : List (Nat×O)->Prg->Prg
 | [],k=>k
 | (b,_)::l,k=>match bK acc b with
   | true=>zH id acc l k
   | false=>ckP (id<=b) (.rdO b fun x=>match x with
     | none=>zH id acc l k
     | some _=>.no)
def isT : S->Bool
 | .t _=>true
 | _=>false
def Iz (P : Program) (id f : Nat) (xs : List S) : Prg:=match P.funcs[f]?,tZ P f with
 | some fn,true=>tc 100000 ((hU P fn.params.toList xs).flatMap jK) [] fun acc=>match ng acc ((hU P fn.params.toList xs).flatMap jK) && (mK acc acc && mN acc) with
   | true=>.inl id f (hU P fn.params.toList xs) acc fun v os=>(match ng os (jK v) && (mK os os && (mN os && ng os (acc.map Prod.fst))) with
     | true=>zH id acc os (.ret (some v) os)
     | false=>.no)
   | false=>.no
 | _,_=>.no
def refC : C->List Nat
 | .p b _=>[b]
 | .w b=>[b]
 | .m b=>[b]
 | .e b _=>[b]
 | .y b _ _ _ _=>[b]
 | .f _ cs=>cs.flatMap fun | .p b _=>[b] | .w b=>[b] | .m b=>[b] | _=>[]
 | _=>[]
def refS : S->List Nat
 | .c c=>refC c
 | .g cs=>cs.flatMap refC
 | _=>[]
def refO : Option O->List Nat
 | some (.b _ cs)=>cs.flatMap refC
 | some (.v _ _ _ cs)=>cs.flatMap refC
 | _=>[]
def ta : Nat->List Nat->List Nat->(Ob->Prg)->Ob->Prg
 | 0,_,_,k,f=>k f
 | _+1,[],_,k,f=>k f
 | n+1,b::l,seen,k,f=>match seen.contains b with
   | true=>ta n l seen k f
   | false=>.rdO b fun o=>ta n (l++refO o) (b::seen) k (fun i=>match Nat.beq i b with
     | true=>o
     | false=>f i)
def bz : Nat->List S->(Nat->S)
 | _,[]=>fun _=>su
 | j,s::l=>fun k=>match Nat.beq k j with
   | true=>s
   | false=>bz (j+1) l k
def aK (mp : List (Nat×Tg)) (d i : Nat) : Nat:=match aS mp i with
 | some (.ob b)=>b
 | _=>d+10000 * (i+1)
def D7 (mp : List (Nat×Tg)) (d : Nat) : C->C
 | .p b o=>.p (aK mp d b) o
 | .w b=>.w (aK mp d b)
 | .m b=>.m (aK mp d b)
 | .q _ _ _ _=>.u
 | .e _ _=>.u
 | .y _ _ _ _ _=>.u
 | c=>c
def wN (mp : List (Nat×Tg)) (d : Nat) : C->C
 | .f g cs=>.f g (cs.map (D7 mp d))
 | c=>D7 mp d c
def AO (mp : List (Nat×Tg)) (d : Nat) : S->S
 | .c c=>.c (wN mp d c)
 | .g cs=>.g (cs.map (wN mp d))
 | s=>s
def wM (mp : List (Nat×Tg)) (d : Nat) : O->O
 | .b e cs=>.b e (cs.map (wN mp d))
 | .v e sz n cs=>.v e sz n (cs.map (wN mp d))
 | o=>o
def freeP (mp : List (Nat×Tg)) (d i : Nat) (k : Prg) : Prg:=match aS mp i with
 | some (.ob _)=>k
 | _=>.rdO (d+10000 * (i+1)) fun x=>match x with
   | none=>k
   | some _=>.no
def CI (mp : List (Nat×Tg)) (d : Nat) (r : St') : Nat->List (Nat×OSh)->List (Nat×O)->(List (Nat×O)->Prg)->Prg
 | _,[],l,k=>k l
 | j,(b,o)::os,l,k=>unO mH (dh (x8 o) r j).1 o fun x=>freeP mp d b (CI mp d r (dh (x8 o) r j).2 os (l++[(aK mp d b,wM mp d x)]) k)
def unRs (r : St') : Nat->List SSh->(List S->Nat->Prg)->Prg
 | j,[],k=>k [] j
 | j,s::l,k=>unS mH (dh (qg s) r j).1 s fun x=>unRs r (dh (qg s) r j).2 l fun xs j=>k (x::xs) j
def unR (r : St') (s : SSh) (k : S->Nat->Prg) : Prg:=match s with
 | .t l=>unRs r 0 l fun xs j=>k (.t xs) j
 | s=>unS mH (dh (qg s) r 0).1 s fun x=>k x (dh (qg s) r 0).2
def wL (mp : List (Nat×Tg)) (d : Nat) : S->S
 | .t l=>.t (l.map (AO mp d))
 | s=>AO mp d s
def fixed (ob : Ob) : List Nat->List (Nat×O)
 | []=>[]
 | b::l=>match ob b with
   | some (.w _ sz n ds)=>(b,.s sz n ds)::fixed ob l
   | _=>fixed ob l
def eO (ob : Ob) (fx : List Nat) : List Nat->List (Nat×O)
 | []=>[]
 | b::l=>match ob b with
   | some (.v _ sz n ws)=>(match oe ob ws with
     | some (ds,bs)=>(match bs.all fun x=>fx.any (Nat.beq x) with
       | true=>(b,.s sz n ds)::eO ob fx l
       | false=>eO ob fx l)
     | none=>eO ob fx l)
   | _=>eO ob fx l
def gone (oob : List (Nat×OSh)) : List (Nat×Tg)->List (Nat×O)
 | []=>[]
 | (i,.ob b)::l=>(match oob.any fun x=>Nat.beq x.1 i with
   | true=>gone oob l
   | false=>(b,.gone)::gone oob l)
 | _::l=>gone oob l
def sN : SSh->Bool
 | .c .i=>true
 | .c .bo=>true
 | _=>false
def lendB (s : Sig) : Bool:=s.ins.ob.isEmpty && s.oob.isEmpty && (match s.out with
 | .t l=>l.all sN
 | .a _=>true
 | s=>sN s)
def IN : List D->Bool
 | []=>true
 | .v _::l=>IN l
 | _::_=>false
def Bs (v : S) (k : Prg) : Prg:=match v with
 | .a _ ds=>ckP (IN ds = true) k
 | _=>k
def yS (ob : Ob) : S->S
 | .c (.y b q sz l n)=>(match ob b with
   | some (.a _ m ds)=>(match Nat.beq sz 1 && (Nat.ble (q+l * sz+n) m && Nat.ble n 1000000) with
     | true=>.c (.d (.sl n 1 (sub ds (q+l * sz) n)))
     | false=>.c (.y b q sz l n))
   | _=>.c (.y b q sz l n))
 | s=>s
def yBs : List S->List Nat
 | []=>[]
 | .c (.y b _ _ _ _)::l=>b::yBs l
 | _::l=>yBs l
def Dr (ln : Bool) (ob : Ob) (l : List S) : List S:=match ln with
 | true=>l.map (yS ob)
 | false=>l
def yd (tb : Tb) (ob : Ob) (f : Nat) (xs : List S) : Option Sig:=tb.sg.find? fun s=>Nat.beq s.f f && mT s.ins.sl xs && (pack s.ins ⟨bz 0 (Dr s.vh ob xs),ob,0⟩).isSome
def AI (P : Program) (tb : Tb) (id f : Nat) (xs : List S) : Prg:=match tb.ic with
| true=>Iz P id f xs
| false=>match P.funcs[f]?,tZ P f with
 | none,_=>.no
 | some _,false=>.no
 | some fn,true=>ta 12 (xs.flatMap refS) [] (fun ob=>match yd tb ob f (hU P fn.params.toList xs) with
   | none=>.no
   | some s=>match pack s.ins ⟨bz 0 (Dr s.vh ob (hU P fn.params.toList xs)),ob,0⟩ with
     | none=>.no
     | some (a,k)=>match eO ob k.fix k.fix with
      | _::_=>.no
      | []=>match s.vh with
       | true=>(match lendB s with
         | true=>.ca s a fun r=>unR r s.out fun v _=>Bs v (.ret (some v) [])
         | false=>.no)
       | false=>(match jR s.oob with
         | true=>.ca s a fun r=>unR r s.out fun v j=>CI k.mp id r j s.oob (fixed ob k.fix++gone s.oob k.mp) fun os=>.ret (some (wL k.mp id v)) os
         | false=>.no)) (fun _=>none)
def jT (n : Nat) (x : Option Operand) (k : Int->Prg) : Prg:=match x with
 | none=>k (n : Int)
 | some x=>evP x fun s=>jc s k
def pU (P : Program) (t : TypeId) (x : S) (lo hi mx : Option Operand) : Prg:=match mx with
 | some _=>.no
 | none=>match elT P t with
   | some (_,sz)=>(match x with
     | .c (.y b q sz' l0 n)=>(match Nat.beq sz' sz with
       | true=>jT 0 lo fun l=>jT n hi fun h=>ckP (0<=l/\l<=h/\h<=(n : Int)) (bn (.c (.y b q sz (l0+l.toNat) (h.toNat - l.toNat))))
       | false=>.no)
     | .c c=>AB c fun x os=>.sc sz x fun n cs=>jT 0 lo fun l=>jT n hi fun h =>
         ckP (0<=l/\l<=h/\h<=n) (.ret (some (.c (.d (.sl (h.toNat - l.toNat) sz (sub cs (l.toNat * sz) ((h.toNat - l.toNat) * sz)))))) os)
     | _=>.no)
   | none=>match vl P t with
    | some (n,_,sz)=>D6 x fun b o=>jT 0 lo fun l=>jT n hi fun h=>ckP (0<=l/\l<=h/\h<=(n : Int)) (bn (.c (.y b o sz l.toNat (h.toNat - l.toNat))))
    | none=>match P.underlying t with
     | some .string=>pP x fun s=>jT 0 lo fun l=>jT s.size hi fun h =>
         ckP (0<=l/\l<=h/\h<=(s.size : Int)) (bn (.c (.d (.v (.string (s.extract l.toNat h.toNat))))))
     | _=>.no
def rowH (sz : Nat) (s : S) (k : Nat->Nat->Nat->Nat->Nat->List D->Prg) (nzz : Prg) : Prg:=match s with
 | .c (.w b)=>.rdO b fun o=>(match o with
   | some (.w e sz' N ds)=>(match Nat.beq sz' sz with
     | true=>k b 0 N N e ds
     | false=>.no)
   | _=>nzz)
 | .c (.y b q sz' l n)=>.rdO b fun o=>(match o with
   | some (.w e sz2 N ds)=>(match Nat.beq q 0 && (Nat.beq sz' sz && Nat.beq sz2 sz) with
     | true=>k b l n N e ds
     | false=>.no)
   | _=>nzz)
 | _=>nzz
def xo (P : Program) (t : TypeId) (x : S) (lo hi mx : Option Operand) : Prg:=match elT P t with
 | none=>pU P t x lo hi mx
 | some (_,sz)=>match x with
   | .c (.l sz')=>(match mx,Nat.beq sz' sz with
     | none,true=>jT 0 lo fun l=>jT 0 hi fun h=>ckP (l = 0/\h = 0) (bn (.c (.l sz')))
     | _,_=>.no)
   | x=>Gn sz x (fun b l0 n N _ _=>jT 0 lo fun l=>jT n hi fun h=>match mx with
       | none=>ckP (0<=l/\l<=h/\(l0 : Int)+h<=(N : Int)) (bn (.c (.y b 0 sz (l0+l.toNat) (h.toNat - l.toNat))))
       | some m=>jT 0 (some m) fun m=>ckP (hi.isSome = true/\0<=l/\l<=h/\h<=m/\(l0 : Int)+m<=(N : Int)) (bn su)) (pU P t x lo hi mx)
def xm (P : Program) (id : Nat) (t : TypeId) (x : S) (lo hi : Option Operand) : Prg:=match elT P t,x with
 | some (_,sz),.c (.w b)=>.rdO b fun o=>jT 0 lo fun l=>(match o with
     | some (.w e sz' N ds)=>(match Nat.beq sz' sz with
       | true=>jT N hi fun h=>(match lo with
         | none=>ckP (0<=h/\h<=(N : Int)) (fZ id (.c (.w id)) [(b,.gone)] (.w e sz h.toNat (sub ds (0 * sz) (h.toNat * sz))))
         | some _=>ckP (0<=l/\l<=h/\h<=(N : Int)/\0 < N) (fZ id (.c (.w id)) [(b,.gone)] (.x e sz (h.toNat - l.toNat) (sub ds (l.toNat * sz) ((h.toNat - l.toNat) * sz)))))
       | false=>.no)
     | some (.x e sz' N ds)=>(match Nat.beq sz' sz with
       | true=>jT N hi fun h=>ckP (0<=l/\l<=h/\h<=(N : Int)/\0 < N) (fZ id (.c (.w id)) [(b,.gone)] (.x e sz (h.toNat - l.toNat) (sub ds (l.toNat * sz) ((h.toNat - l.toNat) * sz))))
       | false=>.no)
     | _=>.no)
 | _,_=>.no
def FZ (id : Nat) (s : S) : Prg:=match s with
 | .c (.y b q sz l n)=>.rdO b fun o=>(match o with
   | some (.w e sz' N ds)=>(match Nat.beq q 0 && (Nat.beq l 0 && Nat.beq sz' sz) with
     | true=>ckP (0 < N/\n<=N) (fZ id (.c (.w id)) [(b,.gone)] (.w e sz n (sub ds (0 * sz) (n * sz))))
     | false=>.no)
   | _=>.no)
 | s=>bn s
def noneH : S->Bool
 | .c (.l _)=>true
 | .c (.d (.sl n _ _))=>Nat.beq n 0
 | _=>false
def uN (P : Program) (id : Nat) (t : TypeId) (s x : S) : Prg:=match s with
 | .c (.y b q sz' l n)=>(match elT P t with
   | some (e0,sz)=>(match gR P e0 sz with
     | true=>Gn sz (.c (.y b q sz' l n)) (fun b l n N e ds=>yO sz x fun m vs=>.if_ (decide (m = 0)) (bn (.c (.y b 0 sz l n)))
         (.if_ (decide (l+n+m<=N)) (rowH sz (.c (.y b q sz' l n)) (fun _ _ _ _ _ _=>.ret (some (.c (.y b 0 sz l (n+m)))) [(b,.w e sz N (upd ds ((l+n) * sz) vs))]) .no)
           (ckP (l+n = N/\room (n+m) (dU P e0+1)) (match Nat.beq e e0 with
             | true=>fZ id (.c (.w id)) [(b,.gone)] (.x e sz (n+m) (sub ds (l * sz) (n * sz)++vs))
             | false=>.no)))) .no
     | false=>.no)
   | none=>.no)
 | .c (.l sz')=>(match noneH x,elT P t with
   | true,some (_,sz)=>(match Nat.beq sz sz' with
     | true=>bn (.c (.l sz'))
     | false=>.no)
   | _,_=>j7 P id t (.c (.l sz')) x)
 | .c (.w b)=>.rdO b fun o=>(match o with
   | some (.x e sz n ds)=>(match elT P t with
     | some (e0,sz0)=>(match gR P e0 sz0 && (Nat.beq e e0 && Nat.beq sz sz0) with
       | true=>yO sz x fun m vs=>.if_ (decide (m = 0)) (bn (.c (.w b))) (ckP (room (n+m) (dU P e0+1)) (fZ id (.c (.w id)) [(b,.gone)] (.x e sz (n+m) (ds++vs))))
       | false=>.no)
     | none=>.no)
   | _=>j7 P id t (.c (.w b)) x)
 | s=>j7 P id t s x
def uL (P : Program) (id : Nat) (t t' : TypeId) (s x : S) : Prg:=match s,elT P t,P.underlying t' with
 | .c (.l sz'),some (e,sz),some (.int _)=>(match (fk P e).bind zDs,gR P e sz && Nat.beq sz sz' with
   | some zs,true=>jc x fun z=>ckP (0 < z/\room z.toNat (dU P e+1)) (fZ id (.c (.w id)) [] (.w e sz z.toNat (List.replicate z.toNat zs).flatten))
   | _,_=>.no)
 | _,_,_=>.no
def ym (P : Program) (t : TypeId) (s : S) : Prg:=match s,elT P t with
 | .c (.y b q sz' l n),some (e0,sz)=>(match (fk P e0).bind zDs with
   | some zs=>rowH sz (.c (.y b q sz' l n)) (fun b l n N e ds=>ckP (zs.length = sz/\l+n<=N/\n<=1000000000000000) (.ret none [(b,.w e sz N (upd ds (l * sz) (List.replicate n zs).flatten))])) .no
   | none=>.no)
 | _,_=>.no
def Iv (P : Program) (t : TypeId) (s : S) : Prg:=match s,elT P t with
 | .c (.l sz'),some (_,sz)=>(match Nat.beq sz sz' with
   | true=>jl 0
   | false=>.no)
 | _,_=>.no
def G3 (P : Program) (t : TypeId) (x y : S) (k : Bool->Prg) (nzz : Prg) : Prg:=match elT P t,x,y with
 | some _,.c (.l _),.c .n=>k true
 | some _,.c .n,.c .n=>k true
 | some _,.c (.w b),.c .n=>.rdO b fun o=>(match o with
   | some (.w _ _ n _)=>(match n with
     | 0=>.no
     | _+1=>k false)
   | _=>.no)
 | some _,.c (.d (.sl n _ _)),.c .n=>(match n with
     | 0=>.no
     | _+1=>k false)
 | _,_,_=>nzz
def Al (t : Nat) : List (Nat×Nat)->Option Nat
 | []=>none
 | (i,n)::l=>match Nat.beq t i with
   | true=>some n
   | false=>Al t l
def Dh : S->Option (List D)
 | .a n ds=>(match Nat.beq n ds.length with
   | true=>some ds
   | false=>none)
 | .g cs=>ko cs
 | _=>none
def FB (P : Program) (tb : Tb) (t : TypeId) (x y : S) (k : Bool->Prg) (nzz : Prg) : Prg:=match Al t tb.eqs,Dh x,Dh y with
 | some n,some a,some b=>.by_ .i64 a fun a=>.by_ .i64 b fun b=>ckP (a.length = n/\b.length = n) (k (decide (a = b)))
 | _,_,_=>G3 P t x y k nzz
def uJ (P : Program) (t : TypeId) (x : S) : Prg:=match vl P t,x with
 | some (N,_,sz),.c (.y b q sz' l n)=>(match Nat.beq sz' sz with
   | true=>.rdO b fun o=>(match o with
     | some (.a _ _ _)=>ckP (N<=n) (bn (.c (.p b (q+l * sz))))
     | some (.b _ _)=>ckP (N<=n) (bn (.c (.p b (q+l * sz))))
     | _=>.no)
   | false=>.no)
 | _,_=>.no
def tX (g : Nat) : List (Nat×List D)->Option (List D)
 | []=>none
 | (i,ds)::l=>match Nat.beq g i with
   | true=>some ds
   | false=>tX g l
def DC (P : Program) (tb : Tb) (g : Nat) (t : TypeId) : Prg:=match tX g tb.gl,vm P t with
 | some ds,some m=>(match Nat.beq m ds.length with
   | true=>bn (.a m ds)
   | false=>.no)
 | _,_=>.no
def luS (cm : Bool) (v : S) (ok : Bool) : S:=match cm with
 | true=>.t [v,.c (.d (.v (.bool ok)))]
 | false=>v
def v8 (g : Nat) : List (Nat×List (Int×Int))->Option (List (Int×Int))
 | []=>none
 | (i,ds)::l=>match Nat.beq g i with
   | true=>some ds
   | false=>v8 g l
def isMap (P : Program) (t : TypeId) : Bool:=match P.underlying t with
 | some (.map _ _)=>true
 | _=>false
def B2 (P : Program) (tb : Tb) (g : Nat) (t : TypeId) : Prg:=match v8 g tb.gm,iT P t && isMap P t with
 | some _,true=>bn (.c (.k g))
 | _,_=>DC P tb g t
def B3 (P : Program) (tb : Tb) (g : Nat) (t : TypeId) (i : S) : Prg:=match tX g tb.gl,vl P t with
 | some ds,some (n,_,sz)=>(match Nat.beq ds.length (n * sz) with
   | true=>jc i fun z=>ckP (0<=z/\z < (n : Int)) (bn (.r ds.length ds (z.toNat * sz)))
   | false=>.no)
 | _,_=>.no
def B1 (P : Program) (tb : Tb) (g : Nat) (t : TypeId) (lo hi mx : Option Operand) : Prg:=match tX g tb.gl,vl P t,lo,hi,mx with
 | some ds,some (n,_,sz),none,none,none=>(match Nat.beq ds.length (n * sz) with
   | true=>bn (.c (.d (.sl n sz ds)))
   | false=>.no)
 | _,_,_,_,_=>.no
def lkI (z : Int) : List (Int×Int)->Option Int
 | []=>none
 | (a,b)::l=>match decide (z = a) with
   | true=>some b
   | false=>lkI z l
def HG (P : Program) (t : TypeId) : Bool:=match P.underlying t with
 | some (.map k e)=>HH P k && (match gG P e with
   | some (.int .i64 0)=>true
   | _=>false)
 | _=>false
def tM (P : Program) (tb : Tb) (t : TypeId) (g : Nat) (key : S) (cm : Bool) : Prg:=match v8 g tb.gm,HG P t with
 | some l,true=>jc key fun z=>bn (luS cm (.c (.d (.v (.int .i64 ((lkI z l).getD 0))))) (lkI z l).isSome)
 | _,_=>.no
def Hr (P : Program) (id : Nat) (t : TypeId) (x y : S) : Prg:=match elT P t with
 | some (e,sz)=>(match (fk P e).bind zDs,gR P e sz with
   | some zs,true=>jc x fun a=>jc y fun b=>ckP (0<=a/\a = b/\room a.toNat (dU P e+1)) (fZ id (.c (.w id)) [] (.w e sz a.toNat (List.replicate a.toNat zs).flatten))
   | _,_=>.no)
 | none=>.no
def rF (mx : Bool) (x y : S) : Prg:=jc x fun a=>jc y fun b=>jl (match mx with
 | true=>max a b
 | false=>min a b)
def AH : List S->Option (List C)
 | []=>some []
 | .c (.f _ _)::_=>none
 | .c c::l=>(match okC c,AH l with
   | true,some cs=>some (c::cs)
   | _,_=>none)
 | _::_=>none
def funP (g : Nat) (xs : List S) : Prg:=match AH xs with
 | some cs=>bn (.c (.f g cs))
 | none=>.no
def E8 (P : Program) (tb : Tb) (t : TypeId) : Option (Nat×Bool×Nat×List D):=match P.underlying t with
 | some (.map k e)=>(match tb.eq3.any (Nat.beq k),(fk P e).bind zDs with
   | true,some zs=>(match BS (gG P e) with
     | true=>some (e,true,zs.length,zs)
     | false=>(match zs with
       | [_]=>some (e,false,1,zs)
       | _=>none))
   | _,_=>none)
 | _=>none
def tL (P : Program) (tb : Tb) (id : Nat) (t : TypeId) : Prg:=match E8 P tb t with
 | some (_,ag,vs,_)=>fZ id (.c (.m id)) [] (.m t ag vs 0 [])
 | none=>.no
def vY (s : S) (k : Int->Int->Int->Prg) : Prg:=match CQ s with
 | true=>EE s fun ds=>.i (cell ds 0) fun a=>.i (cell ds 1) fun b=>.i (cell ds 2) fun c=>k a b c
 | false=>.no
def entR (t : TypeId) (ag : Bool) (vs : Nat) (s : S) (k : Nat->List D->Prg) : Prg:=match s with
 | .c (.m b)=>.rdO b fun o=>(match o with
   | some (.m t' ag' vs' n ds)=>(match Nat.beq t t' && Bool.and (ag == ag') (Nat.beq vs vs') with
     | true=>k n ds
     | false=>.no)
   | some (.ms t' ag' vs' n ds)=>(match Nat.beq t t' && Bool.and (ag == ag') (Nat.beq vs vs') with
     | true=>k n ds
     | false=>.no)
   | _=>.no)
 | _=>.no
def entP (t : TypeId) (ag : Bool) (vs : Nat) (s : S) (k : Nat->Nat->List D->Prg) : Prg:=match s with
 | .c (.m b)=>.rdO b fun o=>(match o with
   | some (.m t' ag' vs' n ds)=>(match Nat.beq t t' && Bool.and (ag == ag') (Nat.beq vs vs') with
     | true=>k b n ds
     | false=>.no)
   | _=>.no)
 | _=>.no
def HO (ag : Bool) (vs : Nat) (xs : List D) : S:=match ag with
 | true=>.a vs xs
 | false=>.c (.d (cell xs 0))
def rI (P : Program) (tb : Tb) (t : TypeId) (s key : S) (cm : Bool) : Prg:=match E8 P tb t with
 | some (_,ag,vs,zs)=>entR t ag vs s fun n ds=>vY key fun x y z=>bn (luS cm (HO ag vs ((cI (3+vs) x y z n ds).getD zs)) (cI (3+vs) x y z n ds).isSome)
 | none=>.no
def Hg (ag : Bool) (s : S) (k : Nat->List D->List (Nat×O)->Prg) : Prg:=match ag,s with
 | false,.c c=>AB c fun x os=>k 1 [x] os
 | true,.a n ds=>k n ds []
 | true,.g cs=>AA cs fun ds os=>k cs.length ds os
 | _,_=>.no
def nG (P : Program) (tb : Tb) (t : TypeId) (s key v : S) : Prg:=match E8 P tb t with
 | some (e,ag,vs,_)=>entP t ag vs s fun b n cur=>vY key fun x y z=>Hg ag (oD tb.hp (typed P e v)) fun m ds os=>match Nat.beq m vs && !(os.any fun p=>Nat.beq p.1 b) with
     | true=>.ret none (os++[(b,.m t ag vs (ja (3+vs) x y z n cur) (gD (3+vs) x y z ds n cur))])
     | false=>.no
 | none=>.no
def Bm (P : Program) (tb : Tb) (id : Nat) (t : TypeId) (s : S) : Prg:=match E8 P tb t,s with
 | some (_,ag,vs,_),.c (.m b)=>.rdO b fun o=>(match o with
   | some (.m t' ag' vs' n ds)=>(match Nat.beq t t' && Bool.and (ag == ag') (Nat.beq vs vs') with
     | true=>fZ id (.c (.p id 0)) [(b,.ms t ag vs n ds)] (.it ag vs none n ds)
     | false=>.no)
   | some (.ms t' ag' vs' n ds)=>(match Nat.beq t t' && Bool.and (ag == ag') (Nat.beq vs vs') with
     | true=>fZ id (.c (.p id 0)) [] (.it ag vs none n ds)
     | false=>.no)
   | _=>.no)
 | _,_=>.no
def Cc (s : S) : Prg:=match s with
 | .c (.p b 0)=>.rdO b fun o=>(match o with
   | some (.it ag vs (some kc) _ _)=>bn (.t [.a 3 (kc.take 3),HO ag vs (kc.drop 3)])
   | _=>.no)
 | _=>.no
def opP (P : Program) (tb : Tb) (base : Nat) (o : Oper) : Prg:=match o.dst with
 | none=>(match o.op with
   | .store t x y=>evP x fun s=>evP y fun v=>sA P t s (oD tb.hp (typed P t v))
   | .mapUpdate t x y z=>evP x fun s=>evP y fun k=>evP z fun v=>nG P tb t s k v
   | .call c=>(match c.callee with
     | .builtin .clear=>(match c.args.toList,c.argTypes.toList with
       | [x],[t]=>(match tb.hp with
         | true=>evP x fun s=>ym P t s
         | false=>.no)
       | _,_=>.no)
     | _=>.no)
   | _=>.no)
 | some d=>match o.op with
   | .move x=>(match tb.cs.any (Nat.beq d) with
     | true=>evP x fun s=>FZ (base+d) (typed P o.type s)
     | false=>evP x fun s=>bn (typed P o.type s))
   | .assign x=>evP x fun s=>bn (typed P o.type s)
   | .pick c a b=>evP c fun s=>AK s fun z=>.if_ z (evP a bn) (evP b bn)
   | .load t x=>(match x with
     | .global g=>(match tb.hp with
       | true=>B2 P tb g t
       | false=>DC P tb g t)
     | x=>evP x fun s=>Hv P t s)
   | .fieldAddr t x i=>evP x fun s=>B9 P t s i
   | .field t x i=>evP x fun s=>ye P t s i
   | .indexAddr t x i=>(match tb.hp,x with
     | true,.global g=>evP i fun z=>B3 P tb g t z
     | _,x=>evP x fun s=>evP i fun z=>BU P t s z)
   | .alloc t=>Cp P (base+d) t
   | .box t x=>evP x fun s=>boxP P (base+d) t s
   | .build t ps=>Ci P t ps.toList
   | .buildSlice t n ps=>(match tb.deep.any (Nat.beq t) with
     | true=>qm P (base+d) t n ps.toList
     | false=>lH P tb.hp (base+d) t n ps.toList)
   | .binOp op t x y t'=>(match isSh op with
     | true=>evP x fun a=>evP y fun b=>Be P op t t' a b
     | false=>match Nat.beq t t' with
       | true=>evP x fun a=>evP y fun b=>(match tb.hp,op with
         | true,.eql=>FB P tb t a b jm (yt P tb op t a b)
         | true,.neq=>FB P tb t a b (fun b=>jm (!b)) (yt P tb op t a b)
         | _,_=>yt P tb op t a b)
       | false=>.no)
   | .convert s t x=>evP x fun a=>Ip P s t a
   | .index t x i=>(match tb.hp with
     | true=>evP x fun a=>evP i fun z=>x6 P t a z
     | false=>evP x fun a=>evP i fun z=>mc P t a z)
   | .unOp op t x=>evP x fun a=>unP P op t a
   | .extract x i=>evP x fun s=>(match s with
     | .t l=>(match l[i]? with
       | some v=>bn v
       | none=>.no)
     | _=>.no)
   | .nilCheck x=>evP x fun s=>(match s with
     | .c (.p b o)=>bn (.c (.p b o))
     | .r n ds o=>bn (.r n ds o)
     | .c (.q b sz k j)=>bn (.c (.q b sz k j))
     | .c (.e b i)=>bn (.c (.e b i))
     | _=>.no)
   | .sliceToArrayPointer t x=>evP x fun s=>uJ P t s
   | .slice t x lo hi mx=>(match tb.cs.any (Nat.beq d) && mx.isNone with
     | true=>evP x fun s=>xm P (base+d) t s lo hi
     | false=>match tb.hp || tb.cs.any (Nat.beq (d+1000000)),x with
       | true,.global g=>B1 P tb g t lo hi mx
       | true,x=>evP x fun s=>xo P t s lo hi mx
       | false,x=>evP x fun s=>pU P t s lo hi mx)
   | .makeMap t none=>tL P tb (base+d) t
   | .lookup t x y cm=>evP x fun s=>evP y fun k=>(match s with
     | .c (.k g)=>tM P tb t g k cm
     | s=>rI P tb t s k cm)
   | .range t x=>(match tb.nd with
     | true=>evP x fun s=>Bm P tb (base+d) t s
     | false=>.no)
   | .entry x=>evP x fun s=>Cc s
   | .makeSlice t x y=>evP x fun a=>evP y fun b=>Hr P (base+d) t a b
   | .makeFunc (.func g) fs cs=>(match fs.toList with
     | []=>Fz cs.toList fun xs=>funP g xs
     | _=>.no)
   | .call c=>(match c.callee with
     | .value x=>evP x fun s=>(match s with
       | .c (.f g cs)=>Fz c.args.toList fun xs=>AI P tb (base+d) g (xs++cs.map S.c)
       | _=>.no)
     | .builtin .len=>(match c.args.toList,c.argTypes.toList with
       | [x],[t]=>evP x fun s=>lenP P t s
       | _,_=>.no)
     | .builtin .append=>(match c.args.toList,c.argTypes.toList with
       | [x,y],[t,t']=>(match Nat.beq t t' with
         | true=>(match tb.hp with
           | true=>evP x fun s=>evP y fun v=>uN P (base+d) t s v
           | false=>evP x fun s=>evP y fun v=>j7 P (base+d) t s v)
         | false=>(match tb.hp && (mR P t').isSome with
           | true=>evP x fun s=>evP y fun v=>uL P (base+d) t t' s v
           | false=>evP x fun s=>evP y fun v=>uM P (base+d) t t' s v))
       | _,_=>.no)
     | .builtin .copy=>(match c.args.toList,c.argTypes.toList with
       | [x,y],[t,t']=>evP x fun s=>evP y fun v=>Io P t t' s v
       | _,_=>.no)
     | .builtin .cap=>(match c.args.toList,c.argTypes.toList with
       | [x],[t]=>(match tb.hp with
         | true=>evP x fun s=>Iv P t s
         | false=>.no)
       | _,_=>.no)
     | .builtin .min=>(match c.args.toList with
       | [x,y]=>evP x fun a=>evP y fun b=>rF false a b
       | _=>.no)
     | .builtin .max=>(match c.args.toList with
       | [x,y]=>evP x fun a=>evP y fun b=>rF true a b
       | _=>.no)
     | _=>.no)
   | _=>.no
def caK (Is : Cx) (s : Sig) (a : St') (k : St'->Prop) : Prop:=∃ r,Is.is s a r/\k r
structure Fp where
 wr : Option Nat
 sl : List Nat
 ob : List Nat
 wo : List Nat
 kp : Bool
def qe (o : Oper) (ob : List (Nat×O)) : Bool:=match o.op,ob with
 | .store ..,[_]=>true
 | _,_=>false
def run (Is : Cx) (fr : Fr) : Prg->List Nat->List Nat->(Option S->List (Nat×O)->List Nat->List Nat->Prop)->Prop
 | .no,_,_,_=>False
 | .ret v ob,fs,fo,K=>K v ob fs fo
 | .rdS t k,fs,fo,K=>run Is fr (k (fr.sl t)) (t::fs) fo K
 | .rdO b k,fs,fo,K=>run Is fr (k (fr.ob b)) fs ((2 * b)::fo) K
 | .rdL b k,fs,fo,K=>run Is fr (k (aU (fr.ob b))) fs ((2 * b+1)::fo) K
 | .i x k,fs,fo,K=>ah x fun z=>run Is fr (k z) fs fo K
 | .bo x k,fs,fo,K=>bU x fun z=>run Is fr (k z) fs fo K
 | .st x k,fs,fo,K=>yK x fun z=>run Is fr (k z) fs fo K
 | .ik kd x k,fs,fo,K=>ikK kd x fun z=>run Is fr (k z) fs fo K
 | .by_ kd cs k,fs,fo,K=>byK kd cs fun z=>run Is fr (k z) fs fo K
 | .sc sz x k,fs,fo,K=>aa sz x fun n cs=>run Is fr (k n cs) fs fo K
 | .if_ b p q,fs,fo,K=>ifK b (run Is fr p fs fo K) (run Is fr q fs fo K)
 | .ck p _ k,fs,fo,K=>ckK p (run Is fr k fs fo K)
 | .ca s a k,fs,fo,K=>caK Is s a fun r=>run Is fr (k r) fs fo K
 | .inl _ f xs ob k,fs,fo,K=>∃ v os,Is.inl f xs ob v os/\run Is fr (k v os) fs fo K
def Prg.bind (h : Option S->List (Nat×O)->Prg) : Prg->Prg
 | .no=>.no
 | .ret v ob=>h v ob
 | .rdS t k=>.rdS t fun s=>(k s).bind h
 | .rdO b k=>.rdO b fun s=>(k s).bind h
 | .rdL b k=>.rdL b fun s=>(k s).bind h
 | .i x k=>.i x fun s=>(k s).bind h
 | .bo x k=>.bo x fun s=>(k s).bind h
 | .st x k=>.st x fun s=>(k s).bind h
 | .ik kd x k=>.ik kd x fun s=>(k s).bind h
 | .by_ kd cs k=>.by_ kd cs fun s=>(k s).bind h
 | .sc sz x k=>.sc sz x fun n s=>(k n s).bind h
 | .if_ b p q=>.if_ b (p.bind h) (q.bind h)
 | .ck p d k=>.ck p d (k.bind h)
 | .ca s a k=>.ca s a fun r=>(k r).bind h
 | .inl id f xs ob k=>.inl id f xs ob fun v os=>(k v os).bind h
def tellP (v : Option S) (ob : List (Nat×O)) : Prg:=match v with
 | some (.c (.d x))=>.bo x fun b=>.if_ b (.ret (some (.c (.d (.v (.bool true))))) ob) (.ret (some (.c (.d (.v (.bool false))))) ob)
 | v=>.ret v ob
def oV (ops : Array Oper) : List Oper->List Nat
 | []=>[]
 | o::l=>match o.guard with
   | some (j,_)=>(match (ops[j]?).bind (·.dst) with
     | some t=>t::oV ops l
     | none=>oV ops l)
   | none=>oV ops l
def vt (gs : List Nat) (o : Oper) (p : Prg) : Prg:=match o.dst with
 | some d=>(match gs.any (Nat.beq d) with
   | true=>p.bind tellP
   | false=>p)
 | none=>p
def opH (P : Program) (tb : Tb) (base : Nat) (o : Oper) : Prg:=match tb.ic with
 | true=>(opP P tb base o).bind fun v ob=>.ret (match v with
   | some s=>some (tF P o.type s)
   | none=>none) ob
 | false=>opP P tb base o
def opG (P : Program) (tb : Tb) (base : Nat) (ops : Array Oper) (gs : List Nat) (o : Oper) : Prg:=match o.guard with
 | none=>vt gs o (opH P tb base o)
 | some (j,want)=>match (ops[j]?).bind (·.dst) with
   | none=>.no
   | some t=>.rdS t fun s=>match s with
     | .c .z=>.ret (match o.dst with
       | some _=>some (.c .z)
       | none=>none) []
     | s=>AK s fun b=>.if_ (b == want) (vt gs o (opH P tb base o)) (.ret (match o.dst with
       | some _=>some (.c .z)
       | none=>none) [])
def Fr.au (fr : Fr) : List (Nat×O)->Fr
 | []=>fr
 | (b,o)::l=>(fr.set b o).au l
def Fr.aC (fr : Fr) (d : Option Nat) (v : Option S) : Fr:=match d,v with
 | some d,some v=>fr.put d v
 | _,_=>fr
def fits (n : Nat) (d : Option Nat) (v : Option S) : Bool:=match d,v with
 | some d,some _=>Nat.blt d n
 | none,none=>true
 | _,_=>false
def B4 : C->(C->Prop)->Prop
 | .d x,k=>k (.d x)
 | .n,k=>k .n
 | .l sz,k=>k (.l sz)
 | .p b o,k=>k (.p b o)
 | .q b sz i j,k=>k (.q b sz i j)
 | .w b,k=>k (.w b)
 | .m b,k=>k (.m b)
 | .f g cs,k=>k (.f g cs)
 | .z,k=>k .z
 | .u,k=>k .u
 | .e b i,k=>k (.e b i)
 | .y b q sz l n,k=>k (.y b q sz l n)
 | .k g,k=>k (.k g)
def mh : List C->(List C->Prop)->Prop
 | [],k=>k []
 | c::cs,k=>B4 c fun c=>mh cs fun cs=>k (c::cs)
def HT : S->(S->Prop)->Prop
 | .c x,k=>B4 x fun x=>k (.c x)
 | .a n ds,k=>k (.a n ds)
 | .g cs,k=>mh cs fun cs=>k (.g cs)
 | .r n ds o,k=>k (.r n ds o)
 | .t l,k=>k (.t l)
def HS : Option S->(Option S->Prop)->Prop
 | none,k=>k none
 | some v,k=>HT v fun v=>k (some v)
def HU : O->(O->Prop)->Prop
 | .b e cs,k=>mh cs fun cs=>k (.b e cs)
 | .a e n ds,k=>k (.a e n ds)
 | .w e sz n ds,k=>k (.w e sz n ds)
 | .v e sz n cs,k=>mh cs fun cs=>k (.v e sz n cs)
 | .s sz n ds,k=>k (.s sz n ds)
 | .m t ag vs n ds,k=>k (.m t ag vs n ds)
 | .ms t ag vs n ds,k=>k (.ms t ag vs n ds)
 | .it ag vs c n ds,k=>k (.it ag vs c n ds)
 | .x e sz n ds,k=>k (.x e sz n ds)
 | .gone,k=>k .gone
def rR : List (Nat×O)->(List (Nat×O)->Prop)->Prop
 | [],k=>k []
 | (b,o)::l,k=>HU o fun o=>rR l fun l=>k ((b,o)::l)
theorem wj (c : C) (k : C->Prop) : B4 c k = k c:=by cases c <;> rfl
theorem jY : ∀ (l : List C) (k : List C->Prop),mh l k = k l
 | [],_=>rfl
 | c::l,k=>by rw [mh,wj,jY l]
theorem Fq (s : S) (k : S->Prop) : HT s k = k s:=by
 cases s with
 | c x=>exact wj x _
 | g cs=>exact jY cs _
 | _=>rfl
theorem mg (v : Option S) (k : Option S->Prop) : HS v k = k v:=by
 cases v with
 | none=>rfl
 | some v=>exact Fq v _
theorem Fs (o : O) (k : O->Prop) : HU o k = k o:=by
 cases o with
 | b e cs=>exact jY cs _
 | v e sz n cs=>exact jY cs _
 | _=>rfl
theorem iE : ∀ (l : List (Nat×O)) (k : List (Nat×O)->Prop),rR l k = k l
 | [],_=>rfl
 | (b,o)::l,k=>by rw [rR,Fs,iE l]
def sV (Is : Cx) (P : Program) (tb : Tb) (n : Nat) (ops : Array Oper) (gs : List Nat) : List Oper->Nat->Fr->List (Nat×Fp)->(Fr->List (Nat×Fp)->Prop)->Prop
 | [],_,fr,l,K=>K fr l
 | o::os,i,fr,l,K=>run Is fr (opG P tb fr.base ops gs o) [] [] fun v ob fs fo=>match fits n o.dst v with
   | true=>HS v fun v=>rR ob fun ob=>sV Is P tb n ops gs os (i+1) ((fr.aC o.dst v).au ob) ((i,⟨o.dst,fs,fo,ob.map Prod.fst,qe o ob⟩)::l) K
   | false=>False
def wH (a b : Fp) : Bool :=
 (match a.wr with
 | some d=>b.sl.any (Nat.beq d) || (match b.wr with
   | some d'=>Nat.beq d d'
   | none=>false)
 | none=>false) || (match b.wr with
 | some d=>a.sl.any (Nat.beq d)
 | none=>false) || a.wo.any (fun x=>b.ob.any (Nat.beq (2 * x)) || ((!a.kp && b.ob.any (Nat.beq (2 * x+1))) || b.wo.any (Nat.beq x))) || b.wo.any (fun x=>a.ob.any (Nat.beq (2 * x)) || (!b.kp && a.ob.any (Nat.beq (2 * x+1))))
def calm (bf : Array Nat) : List (Nat×Fp)->Bool
 | []=>true
 | (j,x)::l=>l.all (fun y=>!wH y.2 x || Nat.testBit (bf.getD j 0) y.1) && calm bf l
def lF : List Oper->Nat->Bool
 | [],_=>true
 | o::l,i=>o.after.toList.all (fun e=>!Region.binds .any e || Nat.blt e.on i) && lF l (i+1)
def Fr.past (fr : Fr) : Fr:=⟨fr.sl,fr.ob,fr.base+1000000⟩
structure Kt where
 n : Fr->Prop
 x : Nat->Fr->Prop
 r : Fr->Prop
def Lp (B : (St'->Prop)->St'->Prop) (s : St') : Prop:=∃ I : Nat->St'->Prop,(∃ m,I m s)/\∀ m s,I m s->B (fun s'=>∃ m',m' < m/\I m' s') s
def jn (X : (St'->Prop)->Prop) (k : St'->Prop) : Prop:=∃ I : St'->Prop,X I/\∀ s,I s->k s
def v7 (mp : List (Nat×Tg)) : List Nat->Bool
 | []=>true
 | i::l=>(match aS mp i with
   | some (.ob b)=>Nat.beq b i
   | _=>false) && v7 mp l
def j9 (kp : List Nat) (sh : Sh) (fr : Fr) (k : St'->Prop) : Prop:=match pack sh fr with
 | some (st,x)=>(match v7 x.mp kp with
   | true=>k st
   | false=>False)
 | none=>False
def eP : Code->Option Nat
 | .region id _ _=>some id
 | .seq a b=>(match eP a with
   | some i=>some i
   | none=>eP b)
 | .block _ c=>eP c
 | .loop c=>eP c
 | .scope c=>eP c
 | _=>none
structure Hint where
 lp : List (Nat×Sh)
 jn : List (Nat×Sh)
 un : List (Nat×Nat)
def getU : List (Nat×Nat)->Option Nat->Option Nat
 | _,none=>none
 | [],_=>none
 | (i,s)::l,some j=>match Nat.beq i j with
   | true=>some s
   | false=>getU l (some j)
def unr (B : Fr->(Fr->Prop)->Prop) : Nat->Fr->Prop
 | 0,_=>False
 | n+1,fr=>B fr fun fr'=>unr B n fr'
def getH : List (Nat×Sh)->Option Nat->Option Sh
 | _,none=>none
 | [],_=>none
 | (i,s)::l,some j=>match Nat.beq i j with
   | true=>some s
   | false=>getH l (some j)
def Ac : List (Nat×Sh)->Option Nat->List Sh
 | _,none=>[]
 | [],_=>[]
 | (i,s)::l,some j=>match Nat.beq i j with
   | true=>s::Ac l (some j)
   | false=>Ac l (some j)
def xH (fr : Fr) : List Sh->Option Sh
 | []=>none
 | sh::l=>match pack sh fr with
   | some _=>some sh
   | none=>xH fr l
def evB (fr : Fr) (t : Operand) (k : Bool->Prop) : Prop:=match t with
 | .tmp t=>(match fr.sl t with
   | .c (.d x)=>bU x k
   | _=>False)
 | .const v=>(match v with
   | .bool b=>k b
   | _=>False)
 | _=>False
def vU (tb : Tb) (n : Nat) (draw : Bool) (ops : List Oper) : Option (Nat×Nat×Nat):=match draw,tb.nd,ops with
 | false,true,[⟨some d,.next (.tmp t) false,_,_,_,none⟩,⟨some e,.extract (.tmp d') 0,_,_,_,none⟩]=>(match Nat.beq d d' && (Nat.blt d n && Nat.blt e n) with
   | true=>some (d,t,e)
   | false=>none)
 | _,_,_=>none
def nM (ds : List D) (sz i : Nat) : List D:=ds.take (i * sz)++ds.drop ((i+1) * sz)
def vb (b : Bool) : S:=.c (.d (.v (.bool b)))
def zD (fr : Fr) (d t e : Nat) (K : Fr->Prop) : Prop:=match fr.sl t with
 | .c (.p b 0)=>(match fr.ob b with
   | some (.it ag vs _ n ds)=>(n = 0->K ((fr.put d (.t [vb false])).put e (vb false))) /\
       ∀ i,i < n->K (((fr.set b (.it ag vs (some (el ds (3+vs) i)) (n - 1) (nM ds (3+vs) i))).put d (.t [vb true,su,su])).put e (vb true))
   | _=>False)
 | _=>False
def ex (Is : Cx) (P : Program) (tb : Tb) (n : Nat) (H : Hint) (kp : List Nat) : Code->Fr->Kt->Prop
 | .skip,fr,K=>K.n fr
 | .label _,fr,K=>K.n fr
 | .region _ ops draw,fr,K=>(match vU tb n draw ops.toList with
  | some (d,t,e)=>zD fr d t e fun fr=>K.n fr.past
  | none=>sV Is P tb n ops (oV ops ops.toList) ops.toList 0 fr [] fun fr l=>(match draw with
   | true=>(match calm (Region.before ops) l && lF ops.toList 0 with
     | true=>K.n fr.past
     | false=>False)
   | false=>K.n fr.past))
 | .seq a b,fr,K=>(match getH H.jn (eP b) with
   | none=>ex Is P tb n H kp a fr ⟨fun fr=>ex Is P tb n H kp b fr K,K.x,K.r⟩
   | some sh=>jn (fun k=>ex Is P tb n H kp a fr ⟨fun fr=>j9 kp sh fr k,K.x,K.r⟩) fun st=>unpack aB sh st fun fr=>ex Is P tb n H kp b fr K)
 | .cond t a b,fr,K=>evB fr t fun z=>ifK z (ex Is P tb n H kp a fr K) (ex Is P tb n H kp b fr K)
 | .block i c,fr,K=>ex Is P tb n H kp c fr ⟨K.n,fun j fr=>(match Nat.beq j i with
   | true=>K.n fr
   | false=>K.x j fr),K.r⟩
 | .loop c,fr,K=>(match getU H.un (eP c) with
  | some k=>unr (fun fr next=>ex Is P tb n H kp c fr ⟨next,K.x,K.r⟩) k fr
  | none=>match xH fr (Ac H.lp (eP c)) with
   | none=>False
   | some sh=>j9 kp sh fr (Lp fun next st=>unpack aB sh st fun fr=>ex Is P tb n H kp c fr ⟨fun fr=>j9 kp sh fr next,K.x,K.r⟩))
 | .exit i,fr,K=>K.x i fr
 | .scope c,fr,K=>ex Is P tb n H kp c fr K
 | .ret,fr,K=>K.r fr
 | _,_,_=>False
def Ir (P : Program) (fr : Fr) (t ty : Nat) : Option S:=match fr.sl t with
 | .c (.p b o)=>(match fr.ob b with
   | some (.a _ n ds)=>kf P ty n ds o
   | some (.b _ cs)=>oP P ty cs o
   | _=>none)
 | _=>none
def ve (P : Program) (fr : Fr) : List ResultVar->Option (List S)
 | []=>some []
 | .tmp t::l=>(match ve P fr l with
   | some xs=>some (fr.sl t::xs)
   | none=>none)
 | .cell t ty::l=>(match Ir P fr t ty with
   | some s=>(match ve P fr l with
     | some xs=>some (s::xs)
     | none=>none)
   | none=>none)
def outs : SSh->List SSh
 | .t l=>l
 | s=>[s]
def o8 {α : Type} : Nat->List α->List (Nat×α)
 | _,[]=>[]
 | j,x::l=>(j,x)::o8 (j+1) l
def start (ins oob : List (Nat×OSh)) : List (Nat×Tg):=match ins with
 | []=>[]
 | (i,_)::l=>match oob.any fun x=>Nat.beq x.1 i with
   | true=>(i,.ob i)::start l oob
   | false=>start l oob
def rB (s : Sig) (fr : Fr) : Option St':=match kN fr.ob fr.sl ⟨start s.ins.ob s.oob,[]⟩ (o8 0 (outs s.out)) with
 | some (r,k)=>(match kO fr.ob k s.oob with
   | some (r',k)=>(match linked s.oob k.mp && nQ k.mp k.fix && jR s.oob with
     | true=>some (r++r')
     | false=>none)
   | none=>none)
 | none=>none
def xB (P : Program) (s : Sig) (rs : List ResultVar) (fr : Fr) (K : St'->Prop) : Prop:=match ve P fr rs with
 | some xs=>(match rB s ⟨bz 0 xs,fr.ob,fr.base⟩ with
   | some st=>K st
   | none=>False)
 | none=>False
def fnB (s : Sig) (fn : Func) : Bool:=Nat.ble s.ins.sl.length fn.ntmps && (match s.out with
 | .t l=>Nat.beq fn.results.toList.length l.length && !Nat.beq l.length 1
 | _=>Nat.beq fn.results.toList.length 1)
def vZ (l : List (Nat×Tg)) : List Nat:=l.map Prod.fst
def fnX (Is : Cx) (P : Program) (tb : Tb) (H : Hint) (s : Sig) (a : St') (K : St'->Prop) : Prop:=match P.funcs[s.f]? with
 | none=>False
 | some fn=>match fn.body with
   | none=>False
   | some c=>match fnB s fn with
     | true=>unpack aB s.ins a fun fr=>ex Is P tb fn.ntmps H (vZ (start s.ins.ob s.oob)) c fr ⟨fun fr=>xB P s fn.results.toList fr K,fun _ _=>False,fun fr=>xB P s fn.results.toList fr K⟩
     | false=>False
abbrev ptr (k : Nat) : Value:=.pointer (some ⟨k,0,none⟩)
def CB (M : Mem) (ρ : Nat->Option Value) : C->Value->Prop
 | .d x,u=>Rd M x u
 | .n,u=>u = .slice none 0 0
 | .l _,u=>u = .slice none 0 0
 | .p b o,u=>∃ k,ρ b = some (ptr k)/\u = .pointer (some (adr (some ⟨k,0,none⟩) o))
 | .q b sz k j,u=>∃ a n c,ρ b = some (.slice a n c)/\k < n/\u = .pointer (some (adr a (k * sz+j)))
 | .w b,u=>ρ b = some u/\∃ a n c,u = .slice a n c
 | .m b,u=>∃ k,ρ b = some (.map (some k))/\u = .map (some k)
 | .z,u=>u = undef
 | .u,_=>True
 | .e b i,u=>∃ k,ρ b = some (ptr k)/\u = .pointer (some (adr (some ⟨k,0,none⟩) i))
 | .y b q sz l n,u=>∃ ad c,u = .slice ad n c/\(n<=c/\c<=maxLen)/\((∃ k,ρ b = some (ptr k)/\(0 < n->ad = some (adr (some ⟨k,0,none⟩) (q+l * sz)))) \/
   ∃ a N C,ρ b = some (.slice a N C)/\q = 0/\l+n<=N/\l+c = C/\(0 < c->ad = some (adr a (l * sz))))
 | .k g,u=>(∃ m,u = .map (some m))/\cz M ⟨g,0,none⟩ = some u
 | .f _ _,_=>False
def CBs (M : Mem) (ρ : Nat->Option Value) : List C->List Value->Prop
 | [],[]=>True
 | c::cs,u::us=>CB M ρ c u/\CBs M ρ cs us
 | _,_=>False
def CR (M : Mem) (ρ : Nat->Option Value) : C->Value->Prop
 | .f g cs,u=>∃ us,u = .func (.func g) #[] us.toArray/\CBs M ρ cs us
 | c,u=>CB M ρ c u
def CRs (M : Mem) (ρ : Nat->Option Value) : List C->List Value->Prop
 | [],[]=>True
 | c::cs,u::us=>CR M ρ c u/\CRs M ρ cs us
 | _,_=>False
def Seen (M : Mem) (a : Option Addr) (q : Nat) (ds : List D) : Prop:=∀ i d,ds[i]? = some d->∃ u,cz M (adr a (q+i)) = some u/\Rd M d u
def SB (M : Mem) (ρ : Nat->Option Value) : S->Value->Prop
 | .c c,v=>CR M ρ c v
 | .a n ds,v=>ds.length = n/\∃ us,v = .agg us.toArray/\RdL M ds us
 | .g cs,v=>∃ us,v = .agg us.toArray/\CRs M ρ cs us
 | .r n ds o,v=>ds.length = n/\∃ a q,v = .pointer (some (adr a (q+o)))/\Seen M a q ds
 | .t _,_=>False
def SBs (M : Mem) (ρ : Nat->Option Value) : List S->List Value->Prop
 | [],[]=>True
 | c::cs,u::us=>SB M ρ c u/\SBs M ρ cs us
 | _,_=>False
def SR (M : Mem) (ρ : Nat->Option Value) : S->Value->Prop
 | .t l,v=>∃ vs,v = .tuple vs.toArray/\SBs M ρ l vs
 | s,v=>SB M ρ s v
abbrev idV (i : IdT) : Value:=.agg i.vals.toArray
def VR (M : Mem) : Bool->List D->Value->Prop
 | true,xs,v=>∃ us,v = .agg us.toArray/\RdL M xs us
 | false,xs,v=>∃ d,xs = [d]/\Rd M d v
def MR (M : Mem) (ag : Bool) (vs : Nat) : List (IdT×Value)->List D->Prop
 | [],ds=>ds = []
 | (i,v)::l,ds=>∃ xs rest,ds = .v (.int .i64 i.shop)::.v (.int .i64 i.seq)::.v (.int .i64 i.index)::(xs++rest)/\xs.length = vs/\VR M ag xs v/\MR M ag vs l rest
def MsR (M : Mem) (ag : Bool) (vs n : Nat) (ds : List D) (k : Nat) : Prop:=∃ es clock l,M k = some (.map es clock)/\kj es clock/\es.toList.map (fun e=>(e.key,e.val)) = kvs idV l/\MR M ag vs l ds/\l.length = n
def CurR (M : Mem) (ag : Bool) (vs : Nat) (es : Array MapEntry) (clock c0 : Nat) (seen : Array Nat) (kc : List D) : Prop:=c0 = clock/\∃ (e : MapEntry) (i : IdT) (xs : List D),e∈es.toList/\(∃ s',seen = Array.push s' e.born)/\e.key = idV i /\
 kc = .v (.int .i64 i.shop)::.v (.int .i64 i.seq)::.v (.int .i64 i.index)::xs/\xs.length = vs/\VR M ag xs e.val
def iR (es : Array MapEntry) (seen : Array Nat) : List MapEntry:=es.toList.filter fun e=>!seen.contains e.born
def ItR (M : Mem) (ag : Bool) (vs : Nat) (cur : Option (List D)) (n : Nat) (ds : List D) (o : Obj) : Prop:=∃ kb es clock seen c0 since l,o = .mapIter (some kb) since seen c0/\M kb = some (.map es clock)/\kj es clock/\(since<=c0/\since<=clock)/\(∀ x∈es.toList,x.born < since) /\
 (iR es seen).map (fun e=>(e.key,e.val)) = kvs idV l/\MR M ag vs l ds/\l.length = n/\∀ kc,cur = some kc->CurR M ag vs es clock c0 seen kc
def pI (lst : List (Nat×As)) (b e sz n : Nat) (a : Option Addr) (c : Nat) (us : List Value) : Prop:=(b,As.acc (.slice a n c) e sz n us)∈lst \/
 (n<=c/\c<=maxLen/\∃ g l0 cur,(0 < c->a = some ⟨g,l0 * sz,none⟩)/\(b,As.raw g (.cells cur e (0,0)))∈lst/\cur.size = (l0+c) * sz/\(cur.toList.drop (l0 * sz)).take (n * sz) = us)
theorem pI.mono {lst lst' : List (Nat×As)} {b b' e sz n : Nat} {a : Option Addr} {c : Nat} {us : List Value} (hl : ∀ x,(b,x)∈lst->(b',x)∈lst') (h : pI lst b e sz n a c us) : pI lst' b' e sz n a c us:=by
 rcases h with h5 | ⟨h5,h6,g,l0,cur,h7,h8,h9⟩
 ·exact .inl (hl _ h5)
 ·exact .inr ⟨h5,h6,g,l0,cur,h7,hl _ h8,h9⟩
theorem pI.src {lst : List (Nat×As)} {b e sz n : Nat} {a : Option Addr} {c : Nat} {us : List Value} (h : pI lst b e sz n a c us) : ∃ x,(b,x)∈lst/\∀ b' lst',(b',x)∈lst'->pI lst' b' e sz n a c us:=by
 rcases h with h5 | ⟨h5,h6,g,l0,cur,h7,h8,h9⟩
 ·exact ⟨_,h5,fun _ _ hm=>.inl hm⟩
 ·exact ⟨_,h8,fun _ _ hm=>.inr ⟨h5,h6,g,l0,cur,h7,hm,h9⟩⟩
theorem pI.cap {w0 w : World} {M : Mem} {Γ0 : List As} {lst : List (Nat×As)} {b e sz n : Nat} {a : Option Addr} {c : Nat} {us : List Value} (h : pI lst b e sz n a c us) (hw : St w0 M (lst.map Prod.snd++Γ0) w) : n<=c/\c<=maxLen:=by
 rcases h with h5 | ⟨h5,h6,_⟩
 ·obtain ⟨⟨hl,hh⟩,_⟩:=hw.all _ (List.mem_append_left _ (List.mem_map_of_mem h5))
  rcases hh with ⟨e1,rfl⟩ | ⟨b,cap,cur,e1,_,hb,hnc,hcm,hcs,htk⟩
  ·simp only [Value.slice.injEq] at e1;omega
  ·simp only [Value.slice.injEq] at e1;omega
 ·exact ⟨h5,h6⟩
theorem pI.cell {w0 w : World} {M : Mem} {Γ0 : List As} {lst : List (Nat×As)} {b e sz n : Nat} {a : Option Addr} {c : Nat} {us : List Value} (h : pI lst b e sz n a c us) (hw : St w0 M (lst.map Prod.snd++Γ0) w) (hl : us.length = n * sz) {q : Nat} {v : Value} (hq : us[q]? = some v) :
  a.isSome = true/\w.cell? (adr a q) = some v:=by
 rcases h with h5 | ⟨h5,h6,g,l0,cur,h7,h8,h9,h10⟩
 ·exact hw.lM (List.mem_append_left _ (List.mem_map_of_mem h5)) hq
 ·obtain ⟨_,hb⟩:=hw.all _ (List.mem_append_left _ (List.mem_map_of_mem h8))
  have hq':=(List.getElem?_eq_some_iff.1 hq).1
  have hn0 : 0 < n:=by
   rcases Nat.eq_zero_or_pos n with e0 | e0
   ·subst e0;simp at hl;rw [hl] at hq';simp at hq'
   ·exact e0
  obtain rfl:=h7 Q0
  refine ⟨rfl,?_⟩
  have e1 : adr (some ⟨g,l0 * sz,none⟩) q = ⟨g,l0 * sz+q,none⟩:=by
   rw [bC]
  rw [e1,cell_of_row w g _ cur e (0,0) hb]
  rw [<-h10,List.getElem?_take,List.getElem?_drop] at hq
  split at hq
  ·simpa using hq
  ·cases hq
def OR (M : Mem) (ρ : Nat->Option Value) (lst : List (Nat×As)) (b : Nat) : O->Prop
 | .b e cs=>∃ k us,ρ b = some (ptr k)/\(b,As.own k e us)∈lst/\CRs M ρ cs us
 | .a e n ds=>∃ k us,ρ b = some (ptr k)/\(b,As.own k e us)∈lst/\RdL M ds us/\ds.length = n
 | .w e sz n ds=>∃ a c us,ρ b = some (.slice a n c)/\(b,As.acc (.slice a n c) e sz n us)∈lst/\RdL M ds us/\us.length = n * sz/\n<=lim
 | .v e sz n cs=>∃ a c us,ρ b = some (.slice a n c)/\(b,As.acc (.slice a n c) e sz n us)∈lst/\CRs M ρ cs us/\us.length = n * sz/\n<=lim
 | .s sz n ds=>∃ v,ρ b = some v/\Rd M (.sl n sz ds) v
 | .m _ ag vs n ds=>∃ k l,ρ b = some (.map (some k))/\(b,As.mp k (kvs idV l))∈lst/\MR M ag vs l ds/\l.length = n
 | .ms _ ag vs n ds=>∃ k,ρ b = some (.map (some k))/\(b,As.rds [] [])∈lst/\MsR M ag vs n ds k
 | .it ag vs cur n ds=>∃ k o,ρ b = some (ptr k)/\(b,As.raw k o)∈lst/\ItR M ag vs cur n ds o
 | .x e sz n ds=>∃ a c us,ρ b = some (.slice a n c)/\RdL M ds us/\us.length = n * sz/\n<=lim/\pI lst b e sz n a c us
 | .gone=>True
structure Rel (w0 : World) (Γ0 : List As) (fr : Fr) (ρ : Nat->Option Value) (M : Mem) (lst : List (Nat×As)) (val : Nat->Option Value) (w : World) : Prop where
 sl : ∀ t,fr.sl t = su\/∃ v,val t = some v/\SR M ρ (fr.sl t) v
 ob : ∀ b o,fr.ob b = some o->OR M ρ lst b o
 rho : ∀ b v,ρ b = some v->b < fr.base\/(fr.ob b).isSome = true
 keys : ∀ p,p∈lst->(ρ p.1).isSome = true
 nd : (lst.map Prod.fst).Nodup
 st : St w0 M (lst.map Prod.snd++Γ0) w
 gr : GrOk M
def Ext (ρ ρ' : Nat->Option Value) : Prop:=∀ b v,ρ b = some v->ρ' b = some v
theorem Ext.refl (ρ : Nat->Option Value) : Ext ρ ρ:=fun _ _ h=>h
theorem Ext.trans {a b c : Nat->Option Value} (h : Ext a b) (k : Ext b c) : Ext a c:=fun x v hx=>k x v (h x v hx)
section
variable {M M' : Mem} {ρ ρ' : Nat->Option Value} (hM : Sub M M') (hr : Ext ρ ρ')
theorem CB.mono (hM : Sub M M') (hr : Ext ρ ρ') : ∀ {c : C} {v : Value},CB M ρ c v->CB M' ρ' c v
 | .d _,_,h=>Rd.mono hM _ _ h
 | .n,_,h=>h
 | .l _,_,h=>h
 | .p _ _,_,⟨k,h1,h2⟩=>⟨k,hr _ _ h1,h2⟩
 | .q _ _ _ _,_,⟨a,n,c,h1,h2⟩=>⟨a,n,c,hr _ _ h1,h2⟩
 | .w _,_,h=>⟨hr _ _ h.1,h.2⟩
 | .m _,_,⟨k,h1,h2⟩=>⟨k,hr _ _ h1,h2⟩
 | .z,_,h=>h
 | .u,_,_=>trivial
 | .e _ _,_,⟨k,h1,h2⟩=>⟨k,hr _ _ h1,h2⟩
 | .y _ _ _ _ _,_,⟨ad,c,h1,h2,.inl ⟨k,h3,h4⟩⟩=>⟨ad,c,h1,h2,.inl ⟨k,hr _ _ h3,h4⟩⟩
 | .y _ _ _ _ _,_,⟨ad,c,h1,h2,.inr ⟨a,N,C,h3,h4⟩⟩=>⟨ad,c,h1,h2,.inr ⟨a,N,C,hr _ _ h3,h4⟩⟩
 | .k _,_,h=>⟨h.1,iG hM h.2⟩
 | .f _ _,_,h=>h
theorem CBs.mono (hM : Sub M M') (hr : Ext ρ ρ') : ∀ {c : List C} {v : List Value},CBs M ρ c v->CBs M' ρ' c v
 | [],[],_=>trivial
 | _::_,_::_,h=>⟨CB.mono hM hr h.1,CBs.mono hM hr h.2⟩
 | [],_::_,h=>h
 | _::_,[],h=>h
theorem CR.mono (hM : Sub M M') (hr : Ext ρ ρ') : ∀ {c : C} {v : Value},CR M ρ c v->CR M' ρ' c v
 | .f _ _,_,⟨us,h1,h2⟩=>⟨us,h1,CBs.mono hM hr h2⟩
 | .d x,_,h=>CB.mono hM hr (c:=.d x) h
 | .n,_,h=>CB.mono hM hr (c:=.n) h
 | .l sz,_,h=>CB.mono hM hr (c:=.l sz) h
 | .p b o,_,h=>CB.mono hM hr (c:=.p b o) h
 | .q b s k j,_,h=>CB.mono hM hr (c:=.q b s k j) h
 | .w b,_,h=>CB.mono hM hr (c:=.w b) h
 | .m b,_,h=>CB.mono hM hr (c:=.m b) h
 | .z,_,h=>CB.mono hM hr (c:=.z) h
 | .u,_,_=>trivial
 | .e b i,_,h=>CB.mono hM hr (c:=.e b i) h
 | .y b q sz l n,_,h=>CB.mono hM hr (c:=.y b q sz l n) h
 | .k g,_,h=>CB.mono hM hr (c:=.k g) h
theorem CRs.mono (hM : Sub M M') (hr : Ext ρ ρ') : ∀ {c : List C} {v : List Value},CRs M ρ c v->CRs M' ρ' c v
 | [],[],_=>trivial
 | _::_,_::_,h=>⟨CR.mono hM hr h.1,CRs.mono hM hr h.2⟩
 | [],_::_,h=>h
 | _::_,[],h=>h
theorem Seen.mono (hM : Sub M M') {a : Option Addr} {q : Nat} {ds : List D} (h : Seen M a q ds) : Seen M' a q ds:=fun i d hi =>
 let ⟨u,h1,h2⟩:=h i d hi;⟨u,iG hM h1,Rd.mono hM _ _ h2⟩
theorem SB.mono (hM : Sub M M') (hr : Ext ρ ρ') {s : S} {v : Value} (h : SB M ρ s v) : SB M' ρ' s v:=by
 cases s with
 | c c=>exact CR.mono hM hr h
 | a n ds=>obtain ⟨h0,us,h1,h2⟩:=h;exact ⟨h0,us,h1,h2.mono hM⟩
 | g cs=>obtain ⟨us,h1,h2⟩:=h;exact ⟨us,h1,CRs.mono hM hr h2⟩
 | r n ds o=>obtain ⟨h0,a,q,h1,h2⟩:=h;exact ⟨h0,a,q,h1,h2.mono hM⟩
 | t l=>exact h
theorem SBs.mono (hM : Sub M M') (hr : Ext ρ ρ') : ∀ {c : List S} {v : List Value},SBs M ρ c v->SBs M' ρ' c v
 | [],[],_=>trivial
 | _::_,_::_,h=>⟨SB.mono hM hr h.1,SBs.mono hM hr h.2⟩
 | [],_::_,h=>h
 | _::_,[],h=>h
theorem SR.mono (hM : Sub M M') (hr : Ext ρ ρ') : ∀ {s : S} {v : Value},SR M ρ s v->SR M' ρ' s v
 | .t _,_,⟨vs,h1,h2⟩=>⟨vs,h1,SBs.mono hM hr h2⟩
 | .c c,_,h=>SB.mono hM hr (s:=.c c) h
 | .a n ds,_,h=>SB.mono hM hr (s:=.a n ds) h
 | .g cs,_,h=>SB.mono hM hr (s:=.g cs) h
 | .r n ds o,_,h=>SB.mono hM hr (s:=.r n ds o) h
theorem VR.mono (hM : Sub M M') {ag : Bool} {xs : List D} {v : Value} (h : VR M ag xs v) : VR M' ag xs v:=by
 cases ag with
 | true=>obtain ⟨us,h1,h2⟩:=h;exact ⟨us,h1,h2.mono hM⟩
 | false=>obtain ⟨d,h1,h2⟩:=h;exact ⟨d,h1,Rd.mono hM _ _ h2⟩
theorem MR.mono (hM : Sub M M') {ag : Bool} {vs : Nat} : ∀ {l : List (IdT×Value)} {ds : List D},MR M ag vs l ds->MR M' ag vs l ds
 | [],_,h=>h
 | (_,_)::_,_,⟨xs,rest,h1,h2,h3,h4⟩=>⟨xs,rest,h1,h2,VR.mono hM h3,MR.mono hM h4⟩
theorem MsR.mono (hM : Sub M M') {ag : Bool} {vs n : Nat} {ds : List D} {k : Nat} (h : MsR M ag vs n ds k) : MsR M' ag vs n ds k:=by
 obtain ⟨es,clock,l,h1,h2,h3,h4,h5⟩:=h
 exact ⟨es,clock,l,hM _ _ h1,h2,h3,h4.mono hM,h5⟩
theorem ItR.mono (hM : Sub M M') {ag : Bool} {vs n : Nat} {cur : Option (List D)} {ds : List D} {o : Obj} (h : ItR M ag vs cur n ds o) : ItR M' ag vs cur n ds o:=by
 obtain ⟨kb,es,clock,seen,c0,since,l,h1,h2,h3,h4,h5,h6,h7,h8,h9⟩:=h
 refine ⟨kb,es,clock,seen,c0,since,l,h1,hM _ _ h2,h3,h4,h5,h6,h7.mono hM,h8,fun kc hk=>?_⟩
 obtain ⟨e1,e,i,xs,e2,e3,e4,e5,e6,e7⟩:=h9 kc hk
 exact ⟨e1,e,i,xs,e2,e3,e4,e5,e6,e7.mono hM⟩
theorem ItR.less {ag : Bool} {vs n : Nat} {cur : Option (List D)} {ds : List D} {o : Obj} (h : ItR M ag vs cur n ds o) : ItR M ag vs none n ds o:=by
 obtain ⟨kb,es,clock,seen,c0,since,l,h1,h2,h3,h4,h5,h6,h7,h8,h9⟩:=h
 exact ⟨kb,es,clock,seen,c0,since,l,h1,h2,h3,h4,h5,h6,h7,h8,fun kc hk=>by cases hk⟩
theorem OR.mono (hM : Sub M M') (hr : Ext ρ ρ') {lst lst' : List (Nat×As)} {b : Nat} (hl : ∀ x,(b,x)∈lst->(b,x)∈lst') {o : O} (h : OR M ρ lst b o) : OR M' ρ' lst' b o:=by
 cases o with
 | b e cs=>obtain ⟨k,us,h1,h2,h3⟩:=h;exact ⟨k,us,hr _ _ h1,hl _ h2,CRs.mono hM hr h3⟩
 | a e n ds=>obtain ⟨k,us,h1,h2,h3,h4⟩:=h;exact ⟨k,us,hr _ _ h1,hl _ h2,h3.mono hM,h4⟩
 | w e sz n ds=>obtain ⟨a,c,us,h1,h2,h3,h4⟩:=h;exact ⟨a,c,us,hr _ _ h1,hl _ h2,h3.mono hM,h4⟩
 | v e sz n cs=>obtain ⟨a,c,us,h1,h2,h3,h4⟩:=h;exact ⟨a,c,us,hr _ _ h1,hl _ h2,CRs.mono hM hr h3,h4⟩
 | s sz n ds=>obtain ⟨v,h1,h2⟩:=h;exact ⟨v,hr _ _ h1,Rd.mono hM _ _ h2⟩
 | m t ag vs n ds=>obtain ⟨k,l,h1,h2,h3,h4⟩:=h;exact ⟨k,l,hr _ _ h1,hl _ h2,h3.mono hM,h4⟩
 | ms t ag vs n ds=>obtain ⟨k,h1,h2,h3⟩:=h;exact ⟨k,hr _ _ h1,hl _ h2,h3.mono hM⟩
 | it ag vs cur n ds=>obtain ⟨k,o,h1,h2,h3⟩:=h;exact ⟨k,o,hr _ _ h1,hl _ h2,h3.mono hM⟩
 | x e sz n ds=>obtain ⟨a,c,us,h1,h2,h3,h4,h5⟩:=h;exact ⟨a,c,us,hr _ _ h1,h2.mono hM,h3,h4,h5.mono hl⟩
 | gone=>trivial
end
def upV (val : Nat->Option Value) (d : Nat) (v : Value) : Nat->Option Value:=fun t=>match Nat.beq t d with
 | true=>some v
 | false=>val t
theorem xE (fr : Fr) (d : Nat) (s : S) (t : Nat) : (fr.put d s).sl t = if t = d then s else fr.sl t:=by
 show (match Nat.beq t d with
  | true=>s
  | false=>fr.sl t) = _
 by_cases e : t = d
 ·subst e;rw [Nat.beq_refl];simp
 ·rw [if_neg e]
  have : Nat.beq t d = false:=by
   cases hb : Nat.beq t d with
   | false=>rfl
   | true=>exact absurd (Nat.eq_of_beq_eq_true hb) e
  rw [this]
theorem FU (val : Nat->Option Value) (d : Nat) (v : Value) (t : Nat) : upV val d v t = if t = d then some v else val t:=by
 unfold upV
 by_cases e : t = d
 ·subst e;rw [Nat.beq_refl];simp
 ·rw [if_neg e]
  have : Nat.beq t d = false:=by
   cases hb : Nat.beq t d with
   | false=>rfl
   | true=>exact absurd (Nat.eq_of_beq_eq_true hb) e
  rw [this]
theorem bq (fr : Fr) (b : Nat) (o : O) (k : Nat) : (fr.set b o).ob k = if k = b then some o else fr.ob k:=by
 show (match Nat.beq k b with
  | true=>some o
  | false=>fr.ob k) = _
 by_cases e : k = b
 ·subst e;rw [Nat.beq_refl];simp
 ·rw [if_neg e]
  have : Nat.beq k b = false:=by
   cases hb : Nat.beq k b with
   | false=>rfl
   | true=>exact absurd (Nat.eq_of_beq_eq_true hb) e
  rw [this]
section
variable {w0 : World} {Γ0 : List As} {fr : Fr} {ρ : Nat->Option Value} {M : Mem} {lst : List (Nat×As)} {val : Nat->Option Value} {w : World}
theorem Rel.put (h : Rel w0 Γ0 fr ρ M lst val w) (d : Nat) {s : S} {v : Value} (hs : SR M ρ s v) : Rel w0 Γ0 (fr.put d s) ρ M lst (upV val d v) w:=by
 refine ⟨fun t=>?_,h.ob,h.rho,h.keys,h.nd,h.st,h.gr⟩
 rw [xE,FU]
 by_cases e : t = d
 ·rw [if_pos e,if_pos e];exact .inr ⟨v,rfl,hs⟩
 ·rw [if_neg e,if_neg e];exact h.sl t
theorem Rel.mem (h : Rel w0 Γ0 fr ρ M lst val w) {b : Nat} {x : As} (hm : (b,x)∈lst) : List.Perm (lst.map Prod.snd++Γ0) (x::((lst.filter fun p=>!Nat.beq p.1 b).map Prod.snd++Γ0)):=by
 obtain ⟨l1,l2,rfl⟩:=List.append_of_mem hm
 have hnd:=h.nd
 rw [List.map_append,List.map_cons] at hnd
 have hn1 : ∀ p∈l1,Nat.beq p.1 b = false:=fun p hp=>by
  cases hb : Nat.beq p.1 b with
  | false=>rfl
  | true =>
   have e:=Nat.eq_of_beq_eq_true hb
   exact absurd e ((List.nodup_append.1 hnd).2.2 p.1 (List.mem_map_of_mem hp) b (List.mem_cons_self ..))
 have hn2 : ∀ p∈l2,Nat.beq p.1 b = false:=fun p hp=>by
  cases hb : Nat.beq p.1 b with
  | false=>rfl
  | true =>
   have e:=Nat.eq_of_beq_eq_true hb
   have:=(List.nodup_cons.1 (List.nodup_append.1 hnd).2.1).1
   exact absurd (show b∈l2.map Prod.fst by rw [<-e];exact List.mem_map_of_mem hp) this
 have f1 : l1.filter (fun p=>!Nat.beq p.1 b) = l1:=List.filter_eq_self.2 fun p hp=>by rw [hn1 p hp];rfl
 have f2 : l2.filter (fun p=>!Nat.beq p.1 b) = l2:=List.filter_eq_self.2 fun p hp=>by rw [hn2 p hp];rfl
 rw [List.filter_append,List.filter_cons,f1,f2,Nat.beq_refl]
 simp only [Bool.not_true,Bool.false_eq_true,if_false,List.map_append,List.map_cons,List.append_assoc,List.cons_append]
 exact List.perm_middle
end
end Pm
