/- Va, Vd, Ve, PureB, Ev0, Ev1, Ea, Ec, Ev2, Ed, Ee, XeZ, Ev3, Ef, Ev4, Eg, Eh, Ei, Ej, Ek, El, Em, Ev5, En, Ev6, put together. -/
import Derived.Test.YtanbipbiblikbaaDoorPk1
namespace Go.Proofs.YtanbipbiblikbaaDoor
open Xe

theorem id35_eql {w0 : World} {L : Lm} {M : Mem} {Γ : List As} {d : Option Nat} {ty : TypeId} {pos : String} {af : Array Edge} {g : Option (Nat×Bool)} {x y : Operand} {a b c a' b' c' : Int} (hx : evL L x = some (.agg [vint a,vint b,vint c].toArray)) (hy : evL L y = some (.agg [vint a',vint b',vint c'].toArray)) :
   Yq Tryd.prog w0 L M Γ ⟨d,.binOp .eql 35 x y 35,ty,pos,af,g⟩ (.bool (decide ((⟨a,b,c⟩ : IdT) = ⟨a',b',c'⟩))):=fun n ac w ha _=>by
 simp only [execOp,ha.ev hx,ha.ev hy]
 simp [go_sem,run_eql_struct,run_eqGuard_agg]
 by_cases h1 : a = a' <;> by_cases h2 : b = b' <;> by_cases h3 : c = c' <;> simp [h1,h2,h3]

theorem def1_ok (w0 : World) (M : Mem) (Γ : List As) (d : DefT) (id : IdT) (us : List Value) (p : Addr) (hd : RdL M d.enc us) (hb : CellsK w0 M Γ p id.vals) :
   CallOk Tryd.prog w0 M Γ 89 #[.agg us.toArray,.pointer (some p)] (Is M Γ (.bool (decide (d.id = id)))):=by
 rw [DefT.enc_eq] at hd
 refine enter (f:=89) Tryd.func89 rfl Tryd.ntmps89 rfl rfl fun w1 hw1=>?_
 refine CW.addRds hd ?_
 refine CW.seq fun K1 hK1=>?_
 refine CW.region ?_
 refine RL.box _ rfl rfl rfl fun b2=>?_
 refine RL.q (Y.assign rfl) rfl ?_
 refine RL.nil ?_
 refine hK1 _ _ _ ?_
 refine CW.kp [1,2] rfl ?_
 refine CW.seq fun K2 hK2=>?_
 refine CW.region ?_
 refine RL.q (Y.field rfl field52_0) rfl ?_
 first | refine RL.q (Y.loadAggV [_,_,_] rfl MM MM (by rfl) agg35) rfl ?_ | refine RL.q (Y.loadAll rfl MM (by rfl) agg35) rfl ?_
 refine RL.q (Y.loadK (vs:=id.vals) rfl (hb.mono fun _ hw=>hw.sub SB) agg35) rfl ?_
 refine RL.q (id35_eql rfl rfl) rfl ?_
 refine RL.q (Y.assign rfl) rfl ?_
 refine RL.nil ?_
 refine hK2 _ _ _ ?_
 refine CW.kp [3] rfl ?_
 refine CW.ret ?_
 exact ⟨_,rfl,Turn.drop ⟨by rfl,rfl,rfl⟩ SB⟩

theorem idxDef_ok (w0 : World) (M : Mem) (Γ : List As) (xs : List DefT) (u : Value) (fn : FuncId) (cap : Array Value) (q : DefT→Bool) (hfn : funcB Tryd.prog fn = true) (hu : Kn w0 M Γ (Rd M (.sl xs.length 31 (xs.flatMap DefT.enc)) u))
   (hq : ∀ x∈xs,∀ us Γ',(∀ w,St w0 M Γ' w→St w0 M Γ w)→RdL M x.enc us→CallOk Tryd.prog w0 M Γ' fn (#[]++#[.agg us.toArray]++cap) (Is M Γ' (.bool (decide (q x = true))))) :
   CallOk Tryd.prog w0 M Γ 88 #[u,.func (.func fn) #[] cap] (Is M Γ (vint (idxL q xs))):=by
 refine CallOk.kn hu fun hu=>?_
 obtain ⟨a1,c1,rfl,hc1,hlim1,hlen1⟩:=hu.slice
 refine enter (f:=88) Tryd.func88 rfl Tryd.ntmps88 rfl rfl fun w1 hw1=>?_
 refine CW.addRd hu ?_
 refine CW.seq fun K1 hK1=>?_
 refine CW.region ?_
 refine RL.q (Y.assign rfl) rfl ?_
 refine RL.nil ?_
 refine hK1 _ _ _ ?_
 refine CW.kp [0,1] rfl ?_
 refine CW.seq fun K2 hK2=>?_
 refine CW.seq fun K3 hK3=>?_
 refine CW.region ?_
 refine RL.q (Y.move rfl) rfl ?_
 refine RL.q (Y.len rfl Tryd.underlying30) rfl ?_
 refine RL.q (Y.move rfl) rfl ?_
 refine RL.nil ?_
 refine hK3 _ _ _ ?_
 refine CW.kp [0,1,7,8] rfl ?_
 refine CW.block ?_
 -- LOOP 1: live [0,1,7,8] changed [8]
 refine CW.kp [8,0,1,7] rfl ?_
 refine CW.loopF (fun m Lc M1 Γc=>∃ k : Nat,m = xs.length - k∧k≤xs.length∧Lc = [(8,vint k)]∧Γc = []∧M1 = M∧∀ j (hj : j < xs.length),j < k→q xs[j] ≠ true) (xs.length) [(8,_)] _ rfl rfl ⟨0,rfl,Nat.zero_le _,rfl,rfl,rfl,fun _ _ h=>absurd h (Nat.not_lt_zero _)⟩ ?_
 rintro m Lc M Γc hs ⟨k,rfl,hk,rfl,rfl,rfl,hF0⟩
 refine CW.seq fun K4 hK4=>?_
 refine CW.region ?_
 refine RL.q (Y.lss rfl rfl) rfl ?_
 refine RL.nil ?_
 refine hK4 _ _ _ ?_
 refine CW.kp [0,1,7,8,9] rfl ?_
 refine CW.seq fun K5 hK5=>?_
 refine CW.ite rfl (fun h1=>?_) (fun h1=>?_)
 ·have hka : k < xs.length:=by omega
  refine CW.skip ?_
  refine hK5 _ _ _ ?_
  refine CW.seq fun K6 hK6=>?_
  refine CW.block ?_
  refine CW.seq fun K7 hK7=>?_
  refine CW.region ?_
  refine RL.q (Y.move rfl) rfl ?_
  refine RL.q (Y.assign rfl) rfl ?_
  refine RL.nil ?_
  refine hK7 _ _ _ ?_
  refine CW.kp [0,1,5,7,8] rfl ?_
  refine CW.seq fun K8 hK8=>?_
  refine CW.region ?_
  refine RL.q (Y.move rfl) rfl ?_
  refine RL.q (Y.move rfl) rfl ?_
  refine RL.q (Y.move rfl) rfl ?_
  refine RL.q (Y.index _ rfl rfl rfl AO slice30 SM) rfl ?_
  refine RL.loadAgg rfl rfl MM (Eq.trans (flat_take DefT.enc_len _ _ _ (List.getElem?_eq_getElem AO)) (DefT.enc_eq _)) (by rfl) agg52 rfl fun us15 hul15 hur15=>?_
  refine RL.callfv rfl hfn rfl rfl rfl (hq _ (List.getElem_mem hka) _ _ (fun _ hw=>hw.sub SB) (by rw [DefT.enc_eq];exact hur15)) ?_
  refine RL.nil ?_
  refine hK8 _ _ _ ?_
  refine CW.kp [0,1,5,7,8,16] rfl ?_
  refine CW.ite rfl (fun h2=>?_) (fun h2=>?_)
  ·refine CW.seq fun K9 hK9=>?_
   refine CW.region ?_
   refine RL.q (Y.move rfl) rfl ?_
   refine RL.q (Y.assign rfl) rfl ?_
   refine RL.nil ?_
   refine hK9 _ _ _ ?_
   refine CW.kp [4] rfl ?_
   refine CW.ret ?_
   exact ⟨_,rfl,Turn.drop ⟨by rw [idxL_hit hka hF0 h2],rfl,rfl⟩ SB⟩
  refine CW.skip ?_
  refine hK6 _ _ _ ?_
  refine CW.region ?_
  refine RL.q (Y.add rfl rfl OM) rfl ?_
  refine RL.q (Y.move rfl) rfl ?_
  refine RL.nil ?_
  refine ⟨xs.length - (k+1),[(8,_)],?_,(KP [8,0,1,7]),?_⟩
  · omega
  · exact Turn.drop ⟨[],rfl,hs,k+1,rfl,by omega,rfl,rfl,rfl,all_step (p:=fun x=>q x ≠ true) hF0 hka h2⟩ SB
 refine CW.exit ?_
 refine hK2 _ _ _ ?_
 refine CW.seq fun K10 hK10=>?_
 refine CW.region ?_
 refine RL.q (Y.assign rfl) rfl ?_
 refine RL.nil ?_
 refine hK10 _ _ _ ?_
 refine CW.kp [4] rfl ?_
 refine CW.ret ?_
 exact ⟨_,rfl,Turn.drop ⟨by rw [idxL_miss fun j hj=>hF0 j hj OM],rfl,rfl⟩ SB⟩

theorem def_ok (w0 : World) (M : Mem) (Γ : List As) (p : ProgT) (usp : List Value) (id : IdT)  (hp : Kn w0 M Γ (RdL M p.enc usp))  :
   CallOk Tryd.prog w0 M Γ 57 #[.agg usp.toArray,.agg id.vals.toArray] (Has M Γ fun v=>∃ us,v = .tuple #[.agg us.toArray,.bool (decide (hasDef p id))]∧RdL M (theDef p id).enc us):=by
 refine CallOk.kn hp fun hp=>?_
 rw [ProgT.enc_eq] at hp
 refine enterCell2 (f:=57) Tryd.func57 rfl Tryd.ntmps57 rfl rfl fun w1 hw1=>?_
 refine CW.addRds hp ?_
 refine CW.seq fun K1 hK1=>?_
 refine CW.region ?_
 refine RL.box _ rfl rfl rfl fun b2=>?_
 refine RL.box _ rfl rfl rfl fun b3=>?_
 refine RL.alloc _ zero52 rfl rfl fun b4=>?_
 refine RL.q (Y.assign rfl) rfl ?_
 refine RL.nil ?_
 refine hK1 _ _ _ ?_
 refine CW.kp [2,3,4] rfl ?_
 refine CW.seq fun K2 hK2=>?_
 refine CW.region ?_
 refine RL.q (Y.field rfl field32_1) rfl ?_
 first | refine RL.q (Y.loadOwnV rfl MM MM (by rfl) flat30) rfl ?_ | refine RL.q (Y.loadOwn rfl MM (by rfl) flat30) rfl ?_ | refine RL.loadOwnSl rfl rfl MM MM (by rfl) flat30 rfl fun a8 c8 hu8 hc8 hl8=>?_
 refine RL.q (Y.makeFunc rfl rfl) rfl ?_
 refine RL.callv rfl func88 rfl rfl (by exact idxDef_ok _ _ _ p.defs _ 89 _ (fun d=>decide (d.id = id)) func89 KK (fun x hx us Γ2 hG hus=>by simpa using def1_ok _ _ _ x id us _ hus (CellsK.mono (CellsK.own MM) hG))) ?_
 refine RL.q (Y.assign rfl) rfl ?_
 refine RL.nil ?_
 refine hK2 _ _ _ ?_
 refine CW.kp [2,4,6] rfl ?_
 refine CW.seq fun K3 hK3=>?_
 refine CW.seq fun K4 hK4=>?_
 refine CW.region ?_
 refine RL.q (Y.move rfl) rfl ?_
 refine RL.q (Y.lss rfl rfl) rfl ?_
 refine RL.nil ?_
 refine hK4 _ _ _ ?_
 refine CW.kp [2,4,6,12] rfl ?_
 refine CW.ite rfl (fun h1=>?_) (fun h1=>?_)
 ·refine CW.seq fun K5 hK5=>?_
  refine CW.region ?_
  refine RL.q (Y.build [_,_,_,_,_,_,_,_,_,_,_,_,_,_,_,_,_,_,_,_,_,_,_,_,_,_,_,_,_,_,_] rfl zero52 places52 (by rfl)) rfl ?_
  first | refine RL.storeRds 31 rfl rfl RP MM EL (by first | exact Kn.lenRds MM EL | exact Kn.lenLit rfl) size52 ?_ | refine RL.storeAgg _ rfl rfl RP (by rfl) (by first | (simp;done) | simp [IdT.vals]) (by first | (simp [Value.oneCell'];done) | simp [Value.oneCell',IdT.vals]) size52 ?_
  refine RL.q (Y.assign rfl) rfl ?_
  refine RL.nil ?_
  refine hK5 _ _ _ ?_
  refine CW.kp [4,5] rfl ?_
  refine CW.ret ?_
  obtain ⟨e1,e2⟩:=theDef_miss (p:=p) (id:=id) (fun j hj=>by simpa using idxL_neg h1 j hj)
  refine ⟨_,rfl,?_⟩
  exact CellAt.mk rfl MM (by first | rfl | assumption) agg52 (Turn.drop ⟨rfl,rfl,_,by rw [decide_eq_false e1],by rw [e2];exact (by repeat (first | exact RdL.nil _ | refine RdL.cons (by first | exact Rd.i _ | exact Rd.nilS | exact Rd.str _ | assumption) ?_))⟩ SB)
 refine CW.skip ?_
 refine hK3 _ _ _ ?_
 refine CW.seq fun K6 hK6=>?_
 obtain ⟨k,hka,hi,hq1,hq2⟩:=idxL_nn h1
 rw [hi]
 obtain ⟨e1,e2⟩:=theDef_hit hka (fun j hj hlt=>by simpa using hq2 j hj hlt) (by simpa using hq1)
 refine CW.region ?_
 refine RL.q (Y.field rfl field32_1) rfl ?_
 first | refine RL.q (Y.loadOwnV rfl MM MM (by rfl) flat30) rfl ?_ | refine RL.q (Y.loadOwn rfl MM (by rfl) flat30) rfl ?_ | refine RL.loadOwnSl rfl rfl MM MM (by rfl) flat30 rfl fun a15 c15 hu15 hc15 hl15=>?_
 refine RL.q (Y.move rfl) rfl ?_
 refine RL.q (Y.index _ rfl rfl rfl AO slice30 SM) rfl ?_
 refine RL.loadAgg rfl rfl MM (Eq.trans (flat_take DefT.enc_len _ _ _ (List.getElem?_eq_getElem AO)) (DefT.enc_eq _)) (by rfl) agg52 rfl fun us18 hul18 hur18=>?_
 first | refine RL.storeRds 31 rfl rfl RP MM EL (by first | exact Kn.lenRds MM EL | exact Kn.lenLit rfl) size52 ?_ | refine RL.storeAgg _ rfl rfl RP (by rfl) (by first | (simp;done) | simp [IdT.vals]) (by first | (simp [Value.oneCell'];done) | simp [Value.oneCell',IdT.vals]) size52 ?_
 refine RL.q (Y.assign rfl) rfl ?_
 refine RL.nil ?_
 refine hK6 _ _ _ ?_
 refine CW.kp [4,5] rfl ?_
 refine CW.ret ?_
 refine ⟨_,rfl,?_⟩
 exact CellAt.mk rfl MM (by first | rfl | assumption) agg52 (Turn.drop ⟨rfl,rfl,_,by rw [decide_eq_true e1],by rw [e2];exact hur18⟩ SB)

end Go.Proofs.YtanbipbiblikbaaDoor

namespace Go.Proofs.YtanbipbiblikbaaDoor
open Xe

theorem size_ok (N : Nat) : ∀ (w0 : World) (M : Mem) (Γ : List As) (v : Val) (usv : List Value) ,v.size = N→Kn w0 M Γ (RdL M v.enc usv) → 
   CallOk Tryd.prog w0 M Γ 103 #[.agg usv.toArray] (Is M Γ (vint (w64 (v.size : Nat)))):=by
 induction N using Nat.strongRecOn
 rename_i N ih
 intro w0 M Γ v usv hN hv 
 refine CallOk.kn hv fun hv=>?_
 rw [Val.enc_eq] at hv
 refine enter (f:=103) Tryd.func103 rfl Tryd.ntmps103 rfl rfl fun w1 hw1=>?_
 refine CW.addRds hv ?_
 refine CW.seq fun K1 hK1=>?_
 refine CW.region ?_
 refine RL.box _ rfl rfl rfl fun b1=>?_
 refine RL.q (Y.assign rfl) rfl ?_
 refine RL.nil ?_
 refine hK1 _ _ _ ?_
 refine CW.kp [1] rfl ?_
 refine CW.seq fun K2 hK2=>?_
 refine CW.region ?_
 refine RL.q (Y.assign rfl) rfl ?_
 refine RL.nil ?_
 refine hK2 _ _ _ ?_
 refine CW.kp [1,3] rfl ?_
 refine CW.seq fun K3 hK3=>?_
 refine CW.seq fun K4 hK4=>?_
 refine CW.region ?_
 refine RL.q (Y.field rfl field26_2) rfl ?_
 first | refine RL.q (Y.loadOwnV rfl MM MM (by rfl) flat24) rfl ?_ | refine RL.q (Y.loadOwn rfl MM (by rfl) flat24) rfl ?_ | refine RL.loadOwnSl rfl rfl MM MM (by rfl) flat24 rfl fun a7 c7 hu7 hc7 hl7=>?_
 refine RL.q (Y.len rfl Tryd.underlying24) rfl ?_
 refine RL.q (Y.move rfl) rfl ?_
 refine RL.nil ?_
 refine hK4 _ _ _ ?_
 refine CW.kp [3,7,8,9] rfl ?_
 refine CW.block ?_
 -- LOOP 1: live [3,7,8,9] changed [3,9]
 refine CW.kp [3,9,7,8] rfl ?_
 refine CW.loopF (fun m Lc M1 Γc=>∃ k : Nat,m = v.kids.length - k∧k≤v.kids.length∧Lc = [(3,vint (w64 (1+Val.sizes (v.kids.take k) : Nat))),(9,vint k)]∧Γc = []∧M1 = M) (v.kids.length) [(3,_),(9,_)] _ rfl rfl ⟨0,rfl,Nat.zero_le _,rfl,rfl,rfl⟩ ?_
 rintro m Lc M Γc hs ⟨k,rfl,hk,rfl,rfl,rfl⟩
 refine CW.seq fun K5 hK5=>?_
 refine CW.region ?_
 refine RL.q (Y.lss rfl rfl) rfl ?_
 refine RL.nil ?_
 refine hK5 _ _ _ ?_
 refine CW.kp [3,7,8,9,10] rfl ?_
 refine CW.seq fun K6 hK6=>?_
 refine CW.ite rfl (fun h1=>?_) (fun h1=>?_)
 ·have hka : k < v.kids.length:=by omega
  have hss:=Val.sizes_succ v.kids k hka
  refine CW.skip ?_
  refine hK6 _ _ _ ?_
  refine CW.seq fun K7 hK7=>?_
  refine CW.block ?_
  refine CW.seq fun K8 hK8=>?_
  refine CW.region ?_
  refine RL.q (Y.index _ rfl rfl rfl AO slice24 SM) rfl ?_
  refine RL.loadAgg rfl rfl MM (Eq.trans (flat_take Val.enc_len _ _ _ (List.getElem?_eq_getElem AO)) (Val.enc_eq _)) (by rfl) agg26 rfl fun us12 hul12 hur12=>?_
  refine RL.alloc _ zero26 rfl rfl fun b5=>?_
  first | refine RL.storeRds 3 rfl rfl RP MM EL (by first | exact Kn.lenRds MM EL | exact Kn.lenLit rfl) size26 ?_ | refine RL.storeAgg _ rfl rfl RP (by rfl) (by first | (simp;done) | simp [IdT.vals]) (by first | (simp [Value.oneCell'];done) | simp [Value.oneCell',IdT.vals]) size26 ?_
  refine RL.nil ?_
  refine hK8 _ _ _ ?_
  refine CW.kp [3,5,7,8,9] rfl ?_
  refine CW.region ?_
  refine RL.q (Y.move rfl) rfl ?_
  first | refine RL.q (Y.loadAllR rfl MM MM EL agg26) rfl ?_ | refine RL.q (Y.loadAll rfl MM (by rfl) agg26) rfl ?_ | refine RL.loadPart rfl rfl MM MM (by rfl) (by rfl) agg26 rfl fun us14 hul14 hur14=>?_
  refine RL.callv rfl func103 rfl rfl (by exact ih _ (by rw [←hN];exact Val.size_kid (List.getElem_mem hka)) _ _ _ v.kids[k] _ rfl KK) ?_
  refine RL.q (Y.addW rfl rfl) rfl ?_
  refine RL.q (Y.assign rfl) rfl ?_
  refine RL.nil ?_
  refine hK7 _ _ _ ?_
  refine CW.kp [3,7,8,9] rfl ?_
  refine CW.region ?_
  refine RL.q (Y.add rfl rfl OM) rfl ?_
  refine RL.q (Y.move rfl) rfl ?_
  refine RL.nil ?_
  refine ⟨v.kids.length - (k+1),[(3,_),(9,_)],?_,(KP [3,9,7,8]),?_⟩
  · omega
  · exact Turn.drop ⟨[],rfl,hs,k+1,rfl,by omega,by rw [hss,←Nat.add_assoc,w64_nat];rfl,rfl,rfl⟩ SB
 refine CW.exit ?_
 refine hK3 _ _ _ ?_
 refine CW.seq fun K9 hK9=>?_
 refine CW.region ?_
 refine RL.q (Y.move rfl) rfl ?_
 refine RL.q (Y.assign rfl) rfl ?_
 refine RL.nil ?_
 refine hK9 _ _ _ ?_
 refine CW.kp [2] rfl ?_
 refine CW.ret ?_
 rw [show k = v.kids.length from by omega,List.take_length,←Val.size_eq]
 exact ⟨_,rfl,Turn.drop ⟨rfl,rfl,rfl⟩ SB⟩

end Go.Proofs.YtanbipbiblikbaaDoor

namespace Go.Proofs.YtanbipbiblikbaaDoor
open Xe

theorem isNaN_ok (w0 : World) (M : Mem) (Γ : List As) (n : Int)    :
   CallOk Tryd.prog w0 M Γ 100 #[vint n] (Is M Γ (.bool false)):=by
 refine enter (f:=100) Tryd.func100 rfl Tryd.ntmps100 rfl rfl fun w1 hw1=>?_
 refine CW.seq fun K1 hK1=>?_
 refine CW.region ?_
 refine RL.q (Y.assign rfl) rfl ?_
 refine RL.nil ?_
 refine hK1 _ _ _ ?_
 refine CW.kp [0] rfl ?_
 refine CW.seq fun K2 hK2=>?_
 refine CW.region ?_
 refine RL.q (Y.move rfl) rfl ?_
 refine RL.q (Y.move rfl) rfl ?_
 refine RL.q (Y.neq rfl rfl) rfl ?_
 refine RL.q (Y.assign rfl) rfl ?_
 refine RL.nil ?_
 refine hK2 _ _ _ ?_
 refine CW.kp [2] rfl ?_
 refine CW.ret ?_
 exact ⟨_,rfl,Turn.drop ⟨by simp,rfl,rfl⟩ SB⟩

theorem cmpI_ok (w0 : World) (M : Mem) (Γ : List As) (a : Int) (b : Int)    :
   CallOk Tryd.prog w0 M Γ 69 #[vint a,vint b] (Is M Γ (vint (cmpI a b))):=by
 refine enter (f:=69) Tryd.func69 rfl Tryd.ntmps69 rfl rfl fun w1 hw1=>?_
 refine CW.seq fun K1 hK1=>?_
 refine CW.region ?_
 refine RL.q (Y.assign rfl) rfl ?_
 refine RL.nil ?_
 refine hK1 _ _ _ ?_
 refine CW.kp [0,1] rfl ?_
 refine CW.seq fun K2 hK2=>?_
 refine CW.region ?_
 refine RL.q (Y.move rfl) rfl ?_
 refine RL.callv rfl func100 rfl rfl (by exact isNaN_ok _ _ _ _) ?_
 refine RL.q (Y.assign rfl) rfl ?_
 refine RL.nil ?_
 refine hK2 _ _ _ ?_
 refine CW.kp [0,1,5] rfl ?_
 refine CW.seq fun K3 hK3=>?_
 refine CW.region ?_
 refine RL.q (Y.move rfl) rfl ?_
 refine RL.callv rfl func100 rfl rfl (by exact isNaN_ok _ _ _ _) ?_
 refine RL.q (Y.assign rfl) rfl ?_
 refine RL.nil ?_
 refine hK3 _ _ _ ?_
 refine CW.kp [0,1,5,6] rfl ?_
 refine CW.seq fun K4 hK4=>?_
 refine CW.seq fun K5 hK5=>?_
 refine CW.region ?_
 refine RL.q (Y.move rfl) rfl ?_
 refine RL.nil ?_
 refine hK5 _ _ _ ?_
 refine CW.kp [0,1,6,11] rfl ?_
 refine CW.no rfl ?_
 refine CW.skip ?_
 refine hK4 _ _ _ ?_
 refine CW.seq fun K6 hK6=>?_
 refine CW.seq fun K7 hK7=>?_
 refine CW.region ?_
 refine RL.q (Y.move rfl) rfl ?_
 refine RL.nil ?_
 refine hK7 _ _ _ ?_
 refine CW.kp [0,1,13] rfl ?_
 refine CW.no rfl ?_
 refine CW.skip ?_
 refine hK6 _ _ _ ?_
 refine CW.seq fun K8 hK8=>?_
 refine CW.seq fun K9 hK9=>?_
 refine CW.region ?_
 refine RL.q (Y.move rfl) rfl ?_
 refine RL.q (Y.move rfl) rfl ?_
 refine RL.q (Y.lss rfl rfl) rfl ?_
 refine RL.nil ?_
 refine hK9 _ _ _ ?_
 refine CW.kp [0,1,16] rfl ?_
 refine CW.ite rfl (fun h4=>?_) (fun h4=>?_)
 ·refine CW.seq fun K10 hK10=>?_
  refine CW.region ?_
  refine RL.q (Y.assign rfl) rfl ?_
  refine RL.nil ?_
  refine hK10 _ _ _ ?_
  refine CW.kp [4] rfl ?_
  refine CW.ret ?_
  rw [cmpI_lt h4]
  exact ⟨_,rfl,Turn.drop ⟨rfl,rfl,rfl⟩ SB⟩
 refine CW.skip ?_
 refine hK8 _ _ _ ?_
 refine CW.seq fun K11 hK11=>?_
 refine CW.seq fun K12 hK12=>?_
 refine CW.region ?_
 refine RL.q (Y.move rfl) rfl ?_
 refine RL.q (Y.move rfl) rfl ?_
 refine RL.q (Y.gtr rfl rfl) rfl ?_
 refine RL.nil ?_
 refine hK12 _ _ _ ?_
 refine CW.kp [19] rfl ?_
 refine CW.ite rfl (fun h5=>?_) (fun h5=>?_)
 ·refine CW.seq fun K13 hK13=>?_
  refine CW.region ?_
  refine RL.q (Y.assign rfl) rfl ?_
  refine RL.nil ?_
  refine hK13 _ _ _ ?_
  refine CW.kp [4] rfl ?_
  refine CW.ret ?_
  rw [cmpI_gt h5]
  exact ⟨_,rfl,Turn.drop ⟨rfl,rfl,rfl⟩ SB⟩
 refine CW.skip ?_
 refine hK11 _ _ _ ?_
 refine CW.seq fun K14 hK14=>?_
 refine CW.region ?_
 refine RL.q (Y.assign rfl) rfl ?_
 refine RL.nil ?_
 refine hK14 _ _ _ ?_
 refine CW.kp [4] rfl ?_
 refine CW.ret ?_
 rw [show cmpI a b = 0 from by unfold cmpI;rw [if_neg h4,if_neg h5]]
 exact ⟨_,rfl,Turn.drop ⟨rfl,rfl,rfl⟩ SB⟩

theorem or_ok (w0 : World) (M : Mem) (Γ : List As) (l : List Int) (p : Addr) (hc : CellsK w0 M Γ p (ints l)) (hl : l.length≤1000) :
   CallOk Tryd.prog w0 M Γ 68 #[.slice (some p) l.length l.length] (Is M Γ (vint (orI l))):=by
 refine enter (f:=68) Tryd.func68 rfl Tryd.ntmps68 rfl rfl fun w1 hw1=>?_
 refine CW.seq fun K1 hK1=>?_
 refine CW.region ?_
 refine RL.q (Y.assign rfl) rfl ?_
 refine RL.nil ?_
 refine hK1 _ _ _ ?_
 refine CW.kp [0] rfl ?_
 refine CW.seq fun K2 hK2=>?_
 refine CW.region ?_
 refine RL.q (Y.assign rfl) rfl ?_
 refine RL.nil ?_
 refine hK2 _ _ _ ?_
 refine CW.kp [0,3] rfl ?_
 refine CW.seq fun K3 hK3=>?_
 refine CW.seq fun K4 hK4=>?_
 refine CW.region ?_
 refine RL.q (Y.move rfl) rfl ?_
 refine RL.q (Y.len rfl Tryd.underlying22) rfl ?_
 refine RL.q (Y.move rfl) rfl ?_
 refine RL.nil ?_
 refine hK4 _ _ _ ?_
 refine CW.kp [3,6,7,8] rfl ?_
 refine CW.block ?_
 -- LOOP 1: live [3,6,7,8] changed [8]
 refine CW.kp [8,3,6,7] rfl ?_
 refine CW.loopF (fun m Lc M1 Γc=>∃ k : Nat,m = l.length - k∧k≤l.length∧Lc = [(8,vint k)]∧Γc = []∧M1 = M∧∀ j (hj : j < l.length),j < k→¬ l[j] ≠ 0) (l.length) [(8,_)] _ rfl rfl ⟨0,rfl,Nat.zero_le _,rfl,rfl,rfl,fun _ _ h=>absurd h (Nat.not_lt_zero _)⟩ ?_
 rintro m Lc M Γc hs ⟨k,rfl,hk,rfl,rfl,rfl,hF0⟩
 refine CW.seq fun K5 hK5=>?_
 refine CW.region ?_
 refine RL.q (Y.lss rfl rfl) rfl ?_
 refine RL.nil ?_
 refine hK5 _ _ _ ?_
 refine CW.kp [3,6,7,8,9] rfl ?_
 refine CW.seq fun K6 hK6=>?_
 refine CW.ite rfl (fun h1=>?_) (fun h1=>?_)
 ·have hka : k < l.length:=by omega
  refine CW.skip ?_
  refine hK6 _ _ _ ?_
  refine CW.seq fun K7 hK7=>?_
  refine CW.block ?_
  refine CW.seq fun K8 hK8=>?_
  refine CW.region ?_
  refine RL.q (Y.index k rfl rfl rfl hka slice22 (fun _ _=>rfl)) rfl ?_
  refine RL.q (Y.load rfl flat3 (fun w hw=>hc w hw _ _ (ints_get (List.getElem?_eq_getElem hka) (Nat.mul_one _)))) rfl ?_
  refine RL.q (Y.assign rfl) rfl ?_
  refine RL.nil ?_
  refine hK8 _ _ _ ?_
  refine CW.kp [3,5,6,7,8] rfl ?_
  refine CW.seq fun K9 hK9=>?_
  refine CW.region ?_
  refine RL.q (Y.move rfl) rfl ?_
  refine RL.q (Y.move rfl) rfl ?_
  refine RL.q (Y.neq rfl rfl) rfl ?_
  refine RL.nil ?_
  refine hK9 _ _ _ ?_
  refine CW.kp [3,5,6,7,8,14] rfl ?_
  refine CW.ite rfl (fun h2=>?_) (fun h2=>?_)
  ·refine CW.seq fun K10 hK10=>?_
   refine CW.region ?_
   refine RL.q (Y.move rfl) rfl ?_
   refine RL.q (Y.assign rfl) rfl ?_
   refine RL.nil ?_
   refine hK10 _ _ _ ?_
   refine CW.kp [2] rfl ?_
   refine CW.ret ?_
   rw [orI_hit hka hF0 h2]
   exact ⟨_,rfl,Turn.drop ⟨rfl,rfl,rfl⟩ SB⟩
  refine CW.skip ?_
  refine hK7 _ _ _ ?_
  refine CW.region ?_
  refine RL.q (Y.add rfl rfl OM) rfl ?_
  refine RL.q (Y.move rfl) rfl ?_
  refine RL.nil ?_
  refine ⟨l.length - (k+1),[(8,_)],?_,(KP [8,3,6,7]),?_⟩
  · omega
  · exact Turn.drop ⟨[],rfl,hs,k+1,rfl,by omega,rfl,rfl,rfl,all_step (p:=fun x=>¬ x ≠ 0) hF0 hka h2⟩ SB
 refine CW.exit ?_
 refine hK3 _ _ _ ?_
 refine CW.seq fun K11 hK11=>?_
 refine CW.region ?_
 refine RL.q (Y.move rfl) rfl ?_
 refine RL.q (Y.assign rfl) rfl ?_
 refine RL.nil ?_
 refine hK11 _ _ _ ?_
 refine CW.kp [2] rfl ?_
 refine CW.ret ?_
 rw [orI_miss fun j hj=>hF0 j hj OM]
 exact ⟨_,rfl,Turn.drop ⟨rfl,rfl,rfl⟩ SB⟩

theorem cmpVs_ok (N : Nat) (ih : ∀ (w0 : World) (M : Mem) (Γ : List As) (a : Val) (usa : List Value) (b : Val) (usb : List Value),a.size < N→Kn w0 M Γ (RdL M a.enc usa)→Kn w0 M Γ (RdL M b.enc usb)→CallOk Tryd.prog w0 M Γ 32 #[.agg usa.toArray,.agg usb.toArray] (Is M Γ (vint (cmpV a b))))
   (w0 : World) (M : Mem) (Γ : List As) (xs ys : List Val) (u v : Value) (hs : ∀ a∈xs,a.size < N) (hu : Kn w0 M Γ (Rd M (.sl xs.length 3 (xs.flatMap Val.enc)) u)) (hv : Kn w0 M Γ (Rd M (.sl ys.length 3 (ys.flatMap Val.enc)) v)) :
   CallOk Tryd.prog w0 M Γ 70 #[u,v,.func (.func 32) #[] #[]] (Is M Γ (vint (cmpVs xs ys))):=by
 refine CallOk.kn hu fun hu=>?_
 refine CallOk.kn hv fun hv=>?_
 obtain ⟨a1,c1,rfl,hc1,hlim1,hlen1⟩:=hu.slice
 obtain ⟨a2,c2,rfl,hc2,hlim2,hlen2⟩:=hv.slice
 refine enter (f:=70) Tryd.func70 rfl Tryd.ntmps70 rfl rfl fun w1 hw1=>?_
 refine CW.addRd hu ?_
 refine CW.addRd hv ?_
 refine CW.seq fun K1 hK1=>?_
 refine CW.region ?_
 refine RL.q (Y.assign rfl) rfl ?_
 refine RL.nil ?_
 refine hK1 _ _ _ ?_
 refine CW.kp [0,1,2] rfl ?_
 refine CW.seq fun K2 hK2=>?_
 refine CW.seq fun K3 hK3=>?_
 refine CW.region ?_
 refine RL.q (Y.move rfl) rfl ?_
 refine RL.q (Y.len rfl Tryd.underlying24) rfl ?_
 refine RL.q (Y.move rfl) rfl ?_
 refine RL.nil ?_
 refine hK3 _ _ _ ?_
 refine CW.kp [0,1,2,11,12,13] rfl ?_
 refine CW.block ?_
 -- LOOP 1: live [0,1,2,11,12,13] changed [13]
 refine CW.kp [13,0,1,2,11,12] rfl ?_
 refine CW.loopF (fun m Lc M1 Γc=>∃ k : Nat,m = xs.length - k∧k≤xs.length∧Lc = [(13,vint k)]∧Γc = []∧M1 = M∧k≤ys.length∧∀ j (hj : j < xs.length) (hj2 : j < ys.length),j < k→cmpV xs[j] ys[j] = 0) (xs.length) [(13,_)] _ rfl rfl ⟨0,rfl,Nat.zero_le _,rfl,rfl,rfl,Nat.zero_le _,fun _ _ _ h=>absurd h (Nat.not_lt_zero _)⟩ ?_
 rintro m Lc M Γc hsub ⟨k,rfl,hk,rfl,rfl,rfl,hF0,hF1⟩
 refine CW.seq fun K4 hK4=>?_
 refine CW.region ?_
 refine RL.q (Y.lss rfl rfl) rfl ?_
 refine RL.nil ?_
 refine hK4 _ _ _ ?_
 refine CW.kp [0,1,2,11,12,13,14] rfl ?_
 refine CW.seq fun K5 hK5=>?_
 refine CW.ite rfl (fun h1=>?_) (fun h1=>?_)
 ·have hka : k < xs.length:=by omega
  refine CW.skip ?_
  refine hK5 _ _ _ ?_
  refine CW.seq fun K6 hK6=>?_
  refine CW.block ?_
  refine CW.seq fun K7 hK7=>?_
  refine CW.region ?_
  refine RL.q (Y.move rfl) rfl ?_
  refine RL.q (Y.index _ rfl rfl rfl AO slice24 SM) rfl ?_
  refine RL.loadAgg rfl rfl MM (Eq.trans (flat_take Val.enc_len _ _ _ (List.getElem?_eq_getElem AO)) (Val.enc_eq _)) (by rfl) agg26 rfl fun us17 hul17 hur17=>?_
  refine RL.alloc _ zero26 rfl rfl fun b8=>?_
  refine RL.q (Y.assign rfl) rfl ?_
  first | refine RL.storeRds 3 rfl rfl RP MM EL (by first | exact Kn.lenRds MM EL | exact Kn.lenLit rfl) size26 ?_ | refine RL.storeAgg _ rfl rfl RP (by rfl) (by first | (simp;done) | simp [IdT.vals]) (by first | (simp [Value.oneCell'];done) | simp [Value.oneCell',IdT.vals]) size26 ?_
  refine RL.nil ?_
  refine hK7 _ _ _ ?_
  refine CW.kp [0,1,2,7,8,11,12,13] rfl ?_
  refine CW.seq fun K8 hK8=>?_
  refine CW.seq fun K9 hK9=>?_
  refine CW.region ?_
  refine RL.q (Y.move rfl) rfl ?_
  refine RL.q (Y.move rfl) rfl ?_
  refine RL.q (Y.len rfl Tryd.underlying24) rfl ?_
  refine RL.q (Y.geq rfl rfl) rfl ?_
  refine RL.nil ?_
  refine hK9 _ _ _ ?_
  refine CW.kp [0,1,2,7,8,11,12,13,21] rfl ?_
  refine CW.ite rfl (fun h2=>?_) (fun h2=>?_)
  ·refine CW.seq fun K10 hK10=>?_
   refine CW.region ?_
   refine RL.q (Y.assign rfl) rfl ?_
   refine RL.nil ?_
   refine hK10 _ _ _ ?_
   refine CW.kp [6] rfl ?_
   refine CW.ret ?_
   rw [cmpVs_long OM (fun j hj hj2=>hF1 j hj hj2 OM)]
   exact ⟨_,rfl,Turn.drop ⟨rfl,rfl,rfl⟩ SB⟩
  have hkb : k < ys.length:=by omega
  refine CW.skip ?_
  refine hK8 _ _ _ ?_
  refine CW.seq fun K11 hK11=>?_
  refine CW.region ?_
  refine RL.q (Y.move rfl) rfl ?_
  refine RL.q (Y.move rfl) rfl ?_
  refine RL.q (Y.index _ rfl rfl rfl AO slice24 SM) rfl ?_
  refine RL.loadAgg rfl rfl MM (Eq.trans (flat_take Val.enc_len _ _ _ (List.getElem?_eq_getElem AO)) (Val.enc_eq _)) (by rfl) agg26 rfl fun us25 hul25 hur25=>?_
  refine RL.alloc _ zero26 rfl rfl fun b9=>?_
  first | refine RL.storeRds 3 rfl rfl RP MM EL (by first | exact Kn.lenRds MM EL | exact Kn.lenLit rfl) size26 ?_ | refine RL.storeAgg _ rfl rfl RP (by rfl) (by first | (simp;done) | simp [IdT.vals]) (by first | (simp [Value.oneCell'];done) | simp [Value.oneCell',IdT.vals]) size26 ?_
  refine RL.nil ?_
  refine hK11 _ _ _ ?_
  refine CW.kp [0,1,2,8,9,11,12,13] rfl ?_
  refine CW.seq fun K12 hK12=>?_
  refine CW.region ?_
  refine RL.q (Y.move rfl) rfl ?_
  first | refine RL.q (Y.loadAllR rfl MM MM EL agg26) rfl ?_ | refine RL.q (Y.loadAll rfl MM (by rfl) agg26) rfl ?_ | refine RL.loadPart rfl rfl MM MM (by rfl) (by rfl) agg26 rfl fun us27 hul27 hur27=>?_
  first | refine RL.q (Y.loadAllR rfl MM MM EL agg26) rfl ?_ | refine RL.q (Y.loadAll rfl MM (by rfl) agg26) rfl ?_ | refine RL.loadPart rfl rfl MM MM (by rfl) (by rfl) agg26 rfl fun us28 hul28 hur28=>?_
  refine RL.callfv rfl func32 rfl rfl rfl (by simpa using ih _ _ _ xs[k] _ ys[k] _ (hs _ (List.getElem_mem hka)) (by first | exact Kn.val MM | fail) (by first | exact Kn.val MM | fail)) ?_
  refine RL.q (Y.assign rfl) rfl ?_
  refine RL.nil ?_
  refine hK12 _ _ _ ?_
  refine CW.kp [0,1,2,10,11,12,13] rfl ?_
  refine CW.seq fun K13 hK13=>?_
  refine CW.region ?_
  refine RL.q (Y.move rfl) rfl ?_
  refine RL.q (Y.neq rfl rfl) rfl ?_
  refine RL.nil ?_
  refine hK13 _ _ _ ?_
  refine CW.kp [0,1,2,10,11,12,13,31] rfl ?_
  refine CW.ite rfl (fun h3=>?_) (fun h3=>?_)
  ·refine CW.seq fun K14 hK14=>?_
   refine CW.region ?_
   refine RL.q (Y.move rfl) rfl ?_
   refine RL.q (Y.assign rfl) rfl ?_
   refine RL.nil ?_
   refine hK14 _ _ _ ?_
   refine CW.kp [6] rfl ?_
   refine CW.ret ?_
   rw [cmpVs_hit hka hkb (fun j hj hj2 hlt=>hF1 j hj hj2 hlt) h3]
   exact ⟨_,rfl,Turn.drop ⟨rfl,rfl,rfl⟩ SB⟩
  refine CW.skip ?_
  refine hK6 _ _ _ ?_
  refine CW.region ?_
  refine RL.q (Y.add rfl rfl OM) rfl ?_
  refine RL.q (Y.move rfl) rfl ?_
  refine RL.nil ?_
  refine ⟨xs.length - (k+1),[(13,_)],?_,(KP [13,0,1,2,11,12]),?_⟩
  · omega
  · exact Turn.drop ⟨[],rfl,hsub,k+1,rfl,by omega,rfl,rfl,rfl,by omega,fun j hj hj2 hlt=>by by_cases e : j = k;subst e;exact Decidable.not_not.1 h3;exact hF1 j hj hj2 OM⟩ SB
 refine CW.exit ?_
 refine hK2 _ _ _ ?_
 refine CW.seq fun K15 hK15=>?_
 refine CW.seq fun K16 hK16=>?_
 refine CW.region ?_
 refine RL.q (Y.move rfl) rfl ?_
 refine RL.q (Y.len rfl Tryd.underlying24) rfl ?_
 refine RL.q (Y.move rfl) rfl ?_
 refine RL.q (Y.len rfl Tryd.underlying24) rfl ?_
 refine RL.q (Y.lss rfl rfl) rfl ?_
 refine RL.nil ?_
 refine hK16 _ _ _ ?_
 refine CW.kp [38] rfl ?_
 refine CW.ite rfl (fun h4=>?_) (fun h4=>?_)
 ·refine CW.seq fun K17 hK17=>?_
  refine CW.region ?_
  refine RL.q (Y.assign rfl) rfl ?_
  refine RL.nil ?_
  refine hK17 _ _ _ ?_
  refine CW.kp [6] rfl ?_
  refine CW.ret ?_
  rw [cmpVs_short OM (fun j hj hj2=>hF1 j hj hj2 OM)]
  exact ⟨_,rfl,Turn.drop ⟨rfl,rfl,rfl⟩ SB⟩
 refine CW.skip ?_
 refine hK15 _ _ _ ?_
 refine CW.seq fun K18 hK18=>?_
 refine CW.region ?_
 refine RL.q (Y.assign rfl) rfl ?_
 refine RL.nil ?_
 refine hK18 _ _ _ ?_
 refine CW.kp [6] rfl ?_
 refine CW.ret ?_
 rw [cmpVs_zero OM (fun j hj hj2=>hF1 j hj hj2 OM)]
 exact ⟨_,rfl,Turn.drop ⟨rfl,rfl,rfl⟩ SB⟩

theorem cmpV_ok (N : Nat) : ∀ (w0 : World) (M : Mem) (Γ : List As) (a : Val) (usa : List Value) (b : Val) (usb : List Value) ,a.size = N→Kn w0 M Γ (RdL M a.enc usa)→Kn w0 M Γ (RdL M b.enc usb) → 
   CallOk Tryd.prog w0 M Γ 32 #[.agg usa.toArray,.agg usb.toArray] (Is M Γ (vint (cmpV a b))):=by
 induction N using Nat.strongRecOn
 rename_i N ih
 intro w0 M Γ a usa b usb hN ha hb 
 refine CallOk.kn ha fun ha=>?_
 rw [Val.enc_eq] at ha
 refine CallOk.kn hb fun hb=>?_
 rw [Val.enc_eq] at hb
 refine enter (f:=32) Tryd.func32 rfl Tryd.ntmps32 rfl rfl fun w1 hw1=>?_
 refine CW.addRds ha ?_
 refine CW.addRds hb ?_
 refine CW.seq fun K1 hK1=>?_
 refine CW.region ?_
 refine RL.box _ rfl rfl rfl fun b2=>?_
 refine RL.box _ rfl rfl rfl fun b3=>?_
 refine RL.q (Y.assign rfl) rfl ?_
 refine RL.nil ?_
 refine hK1 _ _ _ ?_
 refine CW.kp [2,3] rfl ?_
 refine CW.seq fun K2 hK2=>?_
 refine CW.seq fun K3 hK3=>?_
 refine CW.regionH mix _ _ (fun _ hw=>hw) ?_
 refine HL.take 0 rfl KR KR KR rfl (Y.field rfl field26_0) rfl ?_
 first | refine HL.take 1 rfl KR KR KR rfl (Y.loadOwnV rfl MM MM (by rfl) flat3) rfl ?_ | refine HL.take 1 rfl KR KR KR rfl (Y.loadOwn rfl MM (by rfl) flat3) rfl ?_ | refine HL.loadOwnSl 1 rfl KR KR KR rfl rfl MM MM (by rfl) flat3 rfl fun a7 c7 hu7 hc7 hl7=>?_
 refine HL.take 2 rfl KR KR KR rfl (Y.field rfl field26_0) rfl ?_
 first | refine HL.take 3 rfl KR KR KR rfl (Y.loadOwnV rfl MM MM (by rfl) flat3) rfl ?_ | refine HL.take 3 rfl KR KR KR rfl (Y.loadOwn rfl MM (by rfl) flat3) rfl ?_ | refine HL.loadOwnSl 3 rfl KR KR KR rfl rfl MM MM (by rfl) flat3 rfl fun a9 c9 hu9 hc9 hl9=>?_
 refine HL.take 5 rfl KR KR KR rfl (Y.field rfl field26_1) rfl ?_
 first | refine HL.take 6 rfl KR KR KR rfl (Y.loadOwnV rfl MM MM (by rfl) flat3) rfl ?_ | refine HL.take 6 rfl KR KR KR rfl (Y.loadOwn rfl MM (by rfl) flat3) rfl ?_ | refine HL.loadOwnSl 6 rfl KR KR KR rfl rfl MM MM (by rfl) flat3 rfl fun a12 c12 hu12 hc12 hl12=>?_
 refine HL.take 7 rfl KR KR KR rfl (Y.field rfl field26_1) rfl ?_
 first | refine HL.take 8 rfl KR KR KR rfl (Y.loadOwnV rfl MM MM (by rfl) flat3) rfl ?_ | refine HL.take 8 rfl KR KR KR rfl (Y.loadOwn rfl MM (by rfl) flat3) rfl ?_ | refine HL.loadOwnSl 8 rfl KR KR KR rfl rfl MM MM (by rfl) flat3 rfl fun a14 c14 hu14 hc14 hl14=>?_
 refine HL.take 10 rfl KR KR KR rfl (Y.field rfl field26_2) rfl ?_
 first | refine HL.take 11 rfl KR KR KR rfl (Y.loadOwnV rfl MM MM (by rfl) flat24) rfl ?_ | refine HL.take 11 rfl KR KR KR rfl (Y.loadOwn rfl MM (by rfl) flat24) rfl ?_ | refine HL.loadOwnSl 11 rfl KR KR KR rfl rfl MM MM (by rfl) flat24 rfl fun a17 c17 hu17 hc17 hl17=>?_
 refine HL.take 12 rfl KR KR KR rfl (Y.len rfl Tryd.underlying24) rfl ?_
 refine HL.take 13 rfl KR KR KR rfl (Y.field rfl field26_2) rfl ?_
 first | refine HL.take 14 rfl KR KR KR rfl (Y.loadOwnV rfl MM MM (by rfl) flat24) rfl ?_ | refine HL.take 14 rfl KR KR KR rfl (Y.loadOwn rfl MM (by rfl) flat24) rfl ?_ | refine HL.loadOwnSl 14 rfl KR KR KR rfl rfl MM MM (by rfl) flat24 rfl fun a20 c20 hu20 hc20 hl20=>?_
 refine HL.take 15 rfl KR KR KR rfl (Y.len rfl Tryd.underlying24) rfl ?_
 refine HL.step 4 rfl KR ?_
 refine RL.callv rfl func69 rfl rfl (by exact cmpI_ok _ _ _ _ _) ?_
 refine RL.nil ⟨keep_same SB,?_⟩
 refine HL.step 9 rfl KR ?_
 refine RL.callv rfl func69 rfl rfl (by exact cmpI_ok _ _ _ _ _) ?_
 refine RL.nil ⟨keep_same SB,?_⟩
 refine HL.step 16 rfl KR ?_
 refine RL.callv rfl func69 rfl rfl (by exact cmpI_ok _ _ _ _ _) ?_
 refine RL.nil ⟨keep_same SB,?_⟩
 refine HL.step 17 rfl KR ?_
 refine RL.buildSlice (ints [cmpI a.kind b.kind,cmpI a.n b.n,cmpI a.kids.length b.kids.length]) elem22 rfl (by decide) (fill3 (out:=[vint (cmpI a.kind b.kind)]) (out':=[vint (cmpI a.n b.n)]) (out'':=[vint (cmpI a.kids.length b.kids.length)]) rfl rfl rfl rfl rfl rfl) rfl fun b23=>?_
 refine RL.nil ⟨keep_same SB,?_⟩
 refine HL.step 18 rfl KR ?_
 refine RL.callv rfl func68 rfl rfl (by exact or_ok _ _ _ [cmpI a.kind b.kind,cmpI a.n b.n,cmpI a.kids.length b.kids.length] _ (CellsK.own MM) (by simp)) ?_
 refine RL.nil ⟨keep_same SB,?_⟩
 refine HL.take 19 rfl KR KR KR rfl (Y.assign rfl) rfl ?_
 refine HL.done KR ?_
 refine hK3 _ _ _ ?_
 refine CW.kp [2,3,5] rfl ?_
 refine CW.seq fun K4 hK4=>?_
 refine CW.region ?_
 refine RL.q (Y.move rfl) rfl ?_
 refine RL.q (Y.neq rfl rfl) rfl ?_
 refine RL.nil ?_
 refine hK4 _ _ _ ?_
 refine CW.kp [2,3,5,26] rfl ?_
 refine CW.ite rfl (fun h1=>?_) (fun h1=>?_)
 ·refine CW.seq fun K5 hK5=>?_
  refine CW.region ?_
  refine RL.q (Y.move rfl) rfl ?_
  refine RL.q (Y.assign rfl) rfl ?_
  refine RL.nil ?_
  refine hK5 _ _ _ ?_
  refine CW.kp [4] rfl ?_
  refine CW.ret ?_
  rw [show orI [cmpI a.kind b.kind,cmpI a.n b.n,cmpI a.kids.length b.kids.length] = cmpV a b from by rw [cmpV_or,if_pos h1]]
  exact ⟨_,rfl,Turn.drop ⟨rfl,rfl,rfl⟩ SB⟩
 refine CW.skip ?_
 refine hK2 _ _ _ ?_
 refine CW.seq fun K6 hK6=>?_
 refine CW.region ?_
 refine RL.q (Y.field rfl field26_2) rfl ?_
 first | refine RL.q (Y.loadOwnV rfl MM MM (by rfl) flat24) rfl ?_ | refine RL.q (Y.loadOwn rfl MM (by rfl) flat24) rfl ?_ | refine RL.loadOwnSl rfl rfl MM MM (by rfl) flat24 rfl fun a29 c29 hu29 hc29 hl29=>?_
 refine RL.q (Y.field rfl field26_2) rfl ?_
 first | refine RL.q (Y.loadOwnV rfl MM MM (by rfl) flat24) rfl ?_ | refine RL.q (Y.loadOwn rfl MM (by rfl) flat24) rfl ?_ | refine RL.loadOwnSl rfl rfl MM MM (by rfl) flat24 rfl fun a31 c31 hu31 hc31 hl31=>?_
 refine RL.callv rfl func70 rfl rfl (by exact cmpVs_ok N (fun w0 M Γ x us y vs hx=>ih _ hx w0 M Γ x us y vs rfl) _ _ _ a.kids b.kids _ _ (fun x hx=>hN ▸ Val.size_kid hx) KK KK) ?_
 refine RL.q (Y.assign rfl) rfl ?_
 refine RL.nil ?_
 refine hK6 _ _ _ ?_
 refine CW.kp [4] rfl ?_
 refine CW.ret ?_
 rw [show cmpVs a.kids b.kids = cmpV a b from by rw [cmpV_or,if_neg h1]]
 exact ⟨_,rfl,Turn.drop ⟨rfl,rfl,rfl⟩ SB⟩

theorem rcmpV_ok (N : Nat) : ∀ (w0 : World) (M : Mem) (Γ : List As) (a : Val) (usa : List Value) (b : Val) (usb : List Value) ,a.size = N→Kn w0 M Γ (RdL M a.enc usa)→Kn w0 M Γ (RdL M b.enc usb) → 
   CallOk Tryd.prog w0 M Γ 30 #[.agg usa.toArray,.agg usb.toArray] (Is M Γ (vint (cmpV a b))):=by
 induction N using Nat.strongRecOn
 rename_i N ih
 intro w0 M Γ a usa b usb hN ha hb 
 have hla : (head3 a).length = 3:=rfl
 have hlb : (head3 b).length = 3:=rfl
 refine CallOk.kn ha fun ha=>?_
 rw [Val.enc_eq] at ha
 refine CallOk.kn hb fun hb=>?_
 rw [Val.enc_eq] at hb
 refine enter (f:=30) Tryd.func30 rfl Tryd.ntmps30 rfl rfl fun w1 hw1=>?_
 refine CW.addRds ha ?_
 refine CW.addRds hb ?_
 refine CW.seq fun K1 hK1=>?_
 refine CW.region ?_
 refine RL.box _ rfl rfl rfl fun b2=>?_
 refine RL.box _ rfl rfl rfl fun b3=>?_
 refine RL.q (Y.assign rfl) rfl ?_
 refine RL.nil ?_
 refine hK1 _ _ _ ?_
 refine CW.kp [2,3] rfl ?_
 refine CW.seq fun K2 hK2=>?_
 refine CW.region ?_
 refine RL.q (Y.field rfl field26_0) rfl ?_
 first | refine RL.q (Y.loadOwnV rfl MM MM (by rfl) flat3) rfl ?_ | refine RL.q (Y.loadOwn rfl MM (by rfl) flat3) rfl ?_ | refine RL.loadOwnSl rfl rfl MM MM (by rfl) flat3 rfl fun a11 c11 hu11 hc11 hl11=>?_
 refine RL.q (Y.field rfl field26_1) rfl ?_
 first | refine RL.q (Y.loadOwnV rfl MM MM (by rfl) flat3) rfl ?_ | refine RL.q (Y.loadOwn rfl MM (by rfl) flat3) rfl ?_ | refine RL.loadOwnSl rfl rfl MM MM (by rfl) flat3 rfl fun a13 c13 hu13 hc13 hl13=>?_
 refine RL.q (Y.field rfl field26_2) rfl ?_
 first | refine RL.q (Y.loadOwnV rfl MM MM (by rfl) flat24) rfl ?_ | refine RL.q (Y.loadOwn rfl MM (by rfl) flat24) rfl ?_ | refine RL.loadOwnSl rfl rfl MM MM (by rfl) flat24 rfl fun a15 c15 hu15 hc15 hl15=>?_
 refine RL.q (Y.len rfl Tryd.underlying24) rfl ?_
 refine RL.buildSlice (ints (head3 a)) elem22 rfl (by decide) (fill3 (out:=[vint a.kind]) (out':=[vint a.n]) (out'':=[vint a.kids.length]) rfl rfl rfl rfl rfl rfl) rfl fun b17=>?_
 refine RL.q (Y.assign rfl) rfl ?_
 refine RL.nil ?_
 refine hK2 _ _ _ ?_
 refine CW.kp [2,3,5] rfl ?_
 refine CW.seq fun K3 hK3=>?_
 refine CW.region ?_
 refine RL.q (Y.field rfl field26_0) rfl ?_
 first | refine RL.q (Y.loadOwnV rfl MM MM (by rfl) flat3) rfl ?_ | refine RL.q (Y.loadOwn rfl MM (by rfl) flat3) rfl ?_ | refine RL.loadOwnSl rfl rfl MM MM (by rfl) flat3 rfl fun a19 c19 hu19 hc19 hl19=>?_
 refine RL.q (Y.field rfl field26_1) rfl ?_
 first | refine RL.q (Y.loadOwnV rfl MM MM (by rfl) flat3) rfl ?_ | refine RL.q (Y.loadOwn rfl MM (by rfl) flat3) rfl ?_ | refine RL.loadOwnSl rfl rfl MM MM (by rfl) flat3 rfl fun a21 c21 hu21 hc21 hl21=>?_
 refine RL.q (Y.field rfl field26_2) rfl ?_
 first | refine RL.q (Y.loadOwnV rfl MM MM (by rfl) flat24) rfl ?_ | refine RL.q (Y.loadOwn rfl MM (by rfl) flat24) rfl ?_ | refine RL.loadOwnSl rfl rfl MM MM (by rfl) flat24 rfl fun a23 c23 hu23 hc23 hl23=>?_
 refine RL.q (Y.len rfl Tryd.underlying24) rfl ?_
 refine RL.buildSlice (ints (head3 b)) elem22 rfl (by decide) (fill3 (out:=[vint b.kind]) (out':=[vint b.n]) (out'':=[vint b.kids.length]) rfl rfl rfl rfl rfl rfl) rfl fun b25=>?_
 refine RL.q (Y.assign rfl) rfl ?_
 refine RL.nil ?_
 refine hK3 _ _ _ ?_
 refine CW.kp [2,3,5,6] rfl ?_
 refine CW.seq fun K4 hK4=>?_
 refine CW.seq fun K5 hK5=>?_
 refine CW.region ?_
 refine RL.q (Y.assign rfl) rfl ?_
 refine RL.nil ?_
 refine hK5 _ _ _ ?_
 refine CW.kp [2,3,5,6,7] rfl ?_
 refine CW.block ?_
 -- LOOP 1: live [2,3,5,6,7] changed [7]
 refine CW.kp [7,2,3,5,6] rfl ?_
 refine CW.loopF (fun m Lc M1 Γc=>∃ k : Nat,m = 3 - k∧k≤3∧Lc = [(7,vint k)]∧Γc = []∧M1 = M∧∀ j (hj : j < (head3 a).length),j < k→(head3 a)[j] = (head3 b)[j]) (3) [(7,_)] _ rfl rfl ⟨0,rfl,Nat.zero_le _,rfl,rfl,rfl,fun _ _ h=>absurd h (Nat.not_lt_zero _)⟩ ?_
 rintro m Lc M Γc hs ⟨k,rfl,hk,rfl,rfl,rfl,hF0⟩
 refine CW.seq fun K6 hK6=>?_
 refine CW.seq fun K7 hK7=>?_
 refine CW.region ?_
 refine RL.q (Y.move rfl) rfl ?_
 refine RL.q (Y.lss rfl rfl) rfl ?_
 refine RL.nil ?_
 refine hK7 _ _ _ ?_
 refine CW.kp [2,3,5,6,7,27] rfl ?_
 refine CW.ite rfl (fun h1=>?_) (fun h1=>?_)
 ·have h3k : k < 3:=by omega
  have hka : k < (head3 a).length:=by omega
  have hkb : k < (head3 b).length:=by omega
  refine CW.skip ?_
  refine hK6 _ _ _ ?_
  refine CW.seq fun K8 hK8=>?_
  refine CW.block ?_
  refine CW.seq fun K9 hK9=>?_
  refine CW.seq fun K10 hK10=>?_
  refine CW.regionQ mix KR ?_
  refine QL.q (Y.move rfl) rfl ?_
  refine QL.q (Y.move rfl) rfl ?_
  refine QL.q (Y.index k rfl rfl rfl h3k slice22 (fun _ _=>rfl)) rfl ?_
  refine QL.q (Y.loadOwn rfl MM (ints_get (List.getElem?_eq_getElem hka) (Nat.mul_one _)) flat3) rfl ?_
  refine QL.q (Y.move rfl) rfl ?_
  refine QL.q (Y.move rfl) rfl ?_
  refine QL.q (Y.index k rfl rfl rfl h3k slice22 (fun _ _=>rfl)) rfl ?_
  refine QL.q (Y.loadOwn rfl MM (ints_get (List.getElem?_eq_getElem hkb) (Nat.mul_one _)) flat3) rfl ?_
  refine QL.q (Y.lss rfl rfl) rfl ?_
  refine QL.nil ?_
  refine hK10 _ _ _ ?_
  refine CW.kp [2,3,5,6,7,38] rfl ?_
  refine CW.ite rfl (fun h2=>?_) (fun h2=>?_)
  ·refine CW.seq fun K11 hK11=>?_
   refine CW.region ?_
   refine RL.q (Y.assign rfl) rfl ?_
   refine RL.nil ?_
   refine hK11 _ _ _ ?_
   refine CW.kp [4] rfl ?_
   refine CW.ret ?_
   rw [cmpV_head h3k hF0 (-1) (by decide) (cmpI_lt h2)]
   exact ⟨_,rfl,Turn.drop ⟨rfl,rfl,rfl⟩ SB⟩
  refine CW.skip ?_
  refine hK9 _ _ _ ?_
  refine CW.seq fun K12 hK12=>?_
  refine CW.regionQ mix KR ?_
  refine QL.q (Y.move rfl) rfl ?_
  refine QL.q (Y.move rfl) rfl ?_
  refine QL.q (Y.index k rfl rfl rfl h3k slice22 (fun _ _=>rfl)) rfl ?_
  refine QL.q (Y.loadOwn rfl MM (ints_get (List.getElem?_eq_getElem hka) (Nat.mul_one _)) flat3) rfl ?_
  refine QL.q (Y.move rfl) rfl ?_
  refine QL.q (Y.move rfl) rfl ?_
  refine QL.q (Y.index k rfl rfl rfl h3k slice22 (fun _ _=>rfl)) rfl ?_
  refine QL.q (Y.loadOwn rfl MM (ints_get (List.getElem?_eq_getElem hkb) (Nat.mul_one _)) flat3) rfl ?_
  refine QL.q (Y.gtr rfl rfl) rfl ?_
  refine QL.nil ?_
  refine hK12 _ _ _ ?_
  refine CW.kp [2,3,5,6,7,47] rfl ?_
  refine CW.ite rfl (fun h3=>?_) (fun h3=>?_)
  ·refine CW.seq fun K13 hK13=>?_
   refine CW.region ?_
   refine RL.q (Y.assign rfl) rfl ?_
   refine RL.nil ?_
   refine hK13 _ _ _ ?_
   refine CW.kp [4] rfl ?_
   refine CW.ret ?_
   rw [cmpV_head h3k hF0 1 (by decide) (cmpI_gt h3)]
   exact ⟨_,rfl,Turn.drop ⟨rfl,rfl,rfl⟩ SB⟩
  refine CW.skip ?_
  refine hK8 _ _ _ ?_
  refine CW.region ?_
  refine RL.q (Y.move rfl) rfl ?_
  refine RL.q (Y.add rfl rfl OM) rfl ?_
  refine RL.q (Y.assign rfl) rfl ?_
  refine RL.nil ?_
  refine ⟨3 - (k+1),[(7,_)],?_,(KP [7,2,3,5,6]),?_⟩
  · omega
  · exact Turn.drop ⟨[],rfl,hs,k+1,rfl,by omega,rfl,rfl,rfl,fun j hj hlt=>by by_cases e : j = k;subst e;omega;exact hF0 j hj OM⟩ SB
 refine CW.exit ?_
 refine hK4 _ _ _ ?_
 refine CW.seq fun K14 hK14=>?_
 refine CW.seq fun K15 hK15=>?_
 have hh:=head3_eq (fun j hj _=>hF0 j hj OM)
 refine CW.region ?_
 refine RL.q (Y.assign rfl) rfl ?_
 refine RL.nil ?_
 refine hK15 _ _ _ ?_
 refine CW.kp [2,3,8] rfl ?_
 refine CW.block ?_
 -- LOOP 2: live [2,3,8] changed [8]
 refine CW.kp [8,2,3] rfl ?_
 refine CW.loopF (fun m Lc M1 Γc=>∃ k : Nat,m = a.kids.length - k∧k≤a.kids.length∧Lc = [(8,vint k)]∧Γc = []∧M1 = M∧∀ j (hj : j < a.kids.length) (hj2 : j < b.kids.length),j < k→cmpV a.kids[j] b.kids[j] = 0) (a.kids.length) [(8,_)] _ rfl rfl ⟨0,rfl,Nat.zero_le _,rfl,rfl,rfl,fun _ _ _ h=>absurd h (Nat.not_lt_zero _)⟩ ?_
 rintro m Lc M Γc hs2 ⟨k,rfl,hk,rfl,rfl,rfl,hF0⟩
 refine CW.seq fun K16 hK16=>?_
 refine CW.seq fun K17 hK17=>?_
 refine CW.region ?_
 refine RL.q (Y.move rfl) rfl ?_
 refine RL.q (Y.field rfl field26_2) rfl ?_
 first | refine RL.q (Y.loadOwnV rfl MM MM (by rfl) flat24) rfl ?_ | refine RL.q (Y.loadOwn rfl MM (by rfl) flat24) rfl ?_ | refine RL.loadOwnSl rfl rfl MM MM (by rfl) flat24 rfl fun a50 c50 hu50 hc50 hl50=>?_
 refine RL.q (Y.len rfl Tryd.underlying24) rfl ?_
 refine RL.q (Y.lss rfl rfl) rfl ?_
 refine RL.nil ?_
 refine hK17 _ _ _ ?_
 refine CW.kp [2,3,8,52] rfl ?_
 refine CW.ite rfl (fun h4=>?_) (fun h4=>?_)
 ·have hkc : k < a.kids.length:=by omega
  have hkd : k < b.kids.length:=by omega
  refine CW.skip ?_
  refine hK16 _ _ _ ?_
  refine CW.seq fun K18 hK18=>?_
  refine CW.block ?_
  refine CW.seq fun K19 hK19=>?_
  refine CW.regionQ mix KR ?_
  refine QL.q (Y.field rfl field26_2) rfl ?_
  first | refine QL.q (Y.loadOwnV rfl MM MM (by rfl) flat24) rfl ?_ | refine QL.q (Y.loadOwn rfl MM (by rfl) flat24) rfl ?_ | refine QL.loadOwnSl rfl rfl MM MM (by rfl) flat24 rfl fun a56 c56 hu56 hc56 hl56=>?_
  refine QL.q (Y.move rfl) rfl ?_
  refine QL.q (Y.index _ rfl rfl rfl AO slice24 SM) rfl ?_
  refine QL.loadAgg rfl rfl MM (Eq.trans (flat_take Val.enc_len _ _ _ (List.getElem?_eq_getElem AO)) (Val.enc_eq _)) (by rfl) agg26 rfl fun us59 hul59 hur59=>?_
  refine QL.q (Y.field rfl field26_2) rfl ?_
  first | refine QL.q (Y.loadOwnV rfl MM MM (by rfl) flat24) rfl ?_ | refine QL.q (Y.loadOwn rfl MM (by rfl) flat24) rfl ?_ | refine QL.loadOwnSl rfl rfl MM MM (by rfl) flat24 rfl fun a61 c61 hu61 hc61 hl61=>?_
  refine QL.q (Y.move rfl) rfl ?_
  refine QL.q (Y.index _ rfl rfl rfl AO slice24 SM) rfl ?_
  refine QL.loadAgg rfl rfl MM (Eq.trans (flat_take Val.enc_len _ _ _ (List.getElem?_eq_getElem AO)) (Val.enc_eq _)) (by rfl) agg26 rfl fun us64 hul64 hur64=>?_
  refine QL.callv rfl func30 rfl rfl (by exact fun _ hC=>ih _ (by rw [←hN];exact Val.size_kid (List.getElem_mem hkc)) _ _ _ a.kids[k] _ b.kids[k] _ rfl (Kn.via hC KK) (Kn.via hC KK)) ?_
  refine QL.q (Y.assign rfl) rfl ?_
  refine QL.nil ?_
  refine hK19 _ _ _ ?_
  refine CW.kp [2,3,8,9] rfl ?_
  refine CW.seq fun K20 hK20=>?_
  refine CW.region ?_
  refine RL.q (Y.move rfl) rfl ?_
  refine RL.q (Y.neq rfl rfl) rfl ?_
  refine RL.nil ?_
  refine hK20 _ _ _ ?_
  refine CW.kp [2,3,8,9,67] rfl ?_
  refine CW.ite rfl (fun h5=>?_) (fun h5=>?_)
  ·refine CW.seq fun K21 hK21=>?_
   refine CW.region ?_
   refine RL.q (Y.move rfl) rfl ?_
   refine RL.q (Y.assign rfl) rfl ?_
   refine RL.nil ?_
   refine hK21 _ _ _ ?_
   refine CW.kp [4] rfl ?_
   refine CW.ret ?_
   rw [cmpV_kids hh,cmpVs_hit hkc hkd (fun j hj hj2 hlt=>hF0 j hj hj2 hlt) h5]
   exact ⟨_,rfl,Turn.drop ⟨rfl,rfl,rfl⟩ SB⟩
  refine CW.skip ?_
  refine hK18 _ _ _ ?_
  refine CW.region ?_
  refine RL.q (Y.move rfl) rfl ?_
  refine RL.q (Y.add rfl rfl OM) rfl ?_
  refine RL.q (Y.assign rfl) rfl ?_
  refine RL.nil ?_
  refine ⟨a.kids.length - (k+1),[(8,_)],?_,(KP [8,2,3]),?_⟩
  · omega
  · exact Turn.drop ⟨[],rfl,hs2,k+1,rfl,by omega,rfl,rfl,rfl,fun j hj hj2 hlt=>by by_cases e : j = k;subst e;exact Decidable.not_not.1 h5;exact hF0 j hj hj2 OM⟩ SB
 refine CW.exit ?_
 refine hK14 _ _ _ ?_
 refine CW.seq fun K22 hK22=>?_
 refine CW.region ?_
 refine RL.q (Y.assign rfl) rfl ?_
 refine RL.nil ?_
 refine hK22 _ _ _ ?_
 refine CW.kp [4] rfl ?_
 refine CW.ret ?_
 rw [cmpV_kids hh,cmpVs_zero hh.2.2 (fun j hj hj2=>hF0 j hj hj2 OM)]
 exact ⟨_,rfl,Turn.drop ⟨rfl,rfl,rfl⟩ SB⟩

end Go.Proofs.YtanbipbiblikbaaDoor

namespace Xe
open Go
abbrev MR:=Val×Int
def wfT (p : ProgT) : Nat→Ty→Prop
 | 0,_=>False
 | n+1,t=>t.kind = 0∨t.kind = 1∨(t.kind = 2∧0 < t.kids.length∧wfT p n (t.kids.headD ty0)) ∨
  (t.kind ≠ 0∧t.kind ≠ 1∧t.kind ≠ 2∧(theDef p t.df).slots.length≤3∧((theDef p t.df).kind = 1→0 < (theDef p t.df).slots.length)∧∀ s∈(theDef p t.df).slots,wfT p n s.ty)
theorem wfT_list {p : ProgT} {n : Nat} {t : Ty} (h : wfT p (n+1) t) (h2 : t.kind = 2) : 0 < t.kids.length∧wfT p n (t.kids.headD ty0):=by
 rw [wfT] at h
 rcases h with h | h | h | h
 ·omega
 ·omega
 ·exact h.2
 ·exact absurd h2 h.2.2.1
theorem wfT_def {p : ProgT} {n : Nat} {t : Ty} (h : wfT p (n+1) t) (h0 : ¬ t.kind = 0) (h1 : ¬ t.kind = 1) (h2 : ¬ t.kind = 2) : (theDef p t.df).slots.length≤3∧((theDef p t.df).kind = 1→0 < (theDef p t.df).slots.length)∧∀ s∈(theDef p t.df).slots,wfT p n s.ty:=by
 rw [wfT] at h
 rcases h with h | h | h | h
 ·exact absurd h h0
 ·exact absurd h h1
 ·exact absurd h.1 h2
 ·exact h.2.2.2
theorem Val.depths_le {l : List Val} (h : ∀ k∈l,k.depth≤k.size) : Val.depths l≤Val.sizes l:=by
 induction l with
 | nil=>simp [Val.depths]
 | cons x xs ih =>
  have h1:=h x (List.mem_cons_self ..)
  have h2:=ih fun k hk=>h k (List.mem_cons_of_mem _ hk)
  simp only [Val.depths,Val.sizes]
  omega
theorem Val.depth_le (v : Val) : v.depth≤v.size:=by
 refine Val.rec' (p:=fun v=>v.depth≤v.size) (fun v ih=>?_) v
 rw [Val.depth_eq,Val.size_eq]
 have:=Val.depths_le ih
 omega
end Xe

namespace Xe
open Go
def lx (a b : Int) : Int:=if a ≠ 0 then a else b
theorem cmpV_lx (a b : Val) : cmpV a b = lx (cmpI a.kind b.kind) (lx (cmpI a.n b.n) (lx (cmpI a.kids.length b.kids.length) (cmpVs a.kids b.kids))):=by rw [cmpV_eq];rfl
theorem cmpVs_cons (x y : Val) (xs ys : List Val) : cmpVs (x::xs) (y::ys) = lx (cmpV x y) (cmpVs xs ys):=by rw [cmpVs];rfl
mutual
theorem cmpV_self : ∀ a : Val,cmpV a a = 0
 | .mk k n l=>by rw [cmpV_lx];simp only [Val.kind,Val.n,Val.kids,cmpI_self,cmpVs_self l,lx];simp
theorem cmpVs_self : ∀ l : List Val,cmpVs l l = 0
 | []=>by rw [cmpVs]
 | x::xs=>by rw [cmpVs_cons,cmpV_self x,cmpVs_self xs];rfl
end
end Xe

namespace Xe
open Go
theorem Val.open {M : Mem} {v : Val} {us : List Value} (h : RdL M v.enc us) : ∃ u,us = [vint v.kind,vint v.n,u]∧Rd M (.sl v.kids.length 3 (v.kids.flatMap Val.enc)) u:=by
 rw [Val.enc_eq] at h
 obtain ⟨v0,t0,rfl,r0,h⟩:=h.uncons
 obtain ⟨v1,t1,rfl,r1,h⟩:=h.uncons
 obtain ⟨v2,t2,rfl,r2,h⟩:=h.uncons
 obtain rfl:=h.unnil
 obtain rfl:=r0.int_eq
 obtain rfl:=r1.int_eq
 exact ⟨v2,rfl,r2⟩
end Xe

namespace Xe
open Go
theorem wfT_mono {p : ProgT} : ∀ {n m : Nat} {t : Ty},n≤m→wfT p n t→wfT p m t
 | 0,_,_,_,h=>h.elim
 | n+1,0,_,hm,_=>by omega
 | n+1,m+1,t,hm,h=>by
  rw [wfT] at h ⊢
  rcases h with h | h | h | h
  ·exact .inl h
  ·exact .inr (.inl h)
  ·exact .inr (.inr (.inl ⟨h.1,h.2.1,wfT_mono (by omega) h.2.2⟩))
  ·exact .inr (.inr (.inr ⟨h.1,h.2.1,h.2.2.1,h.2.2.2.1,h.2.2.2.2.1,fun s hs=>wfT_mono (by omega) (h.2.2.2.2.2 s hs)⟩))
theorem wfT_num (p : ProgT) (n : Nat) : wfT p (n+1) ty0:=.inl rfl
theorem wfT_listT {p : ProgT} {n : Nat} {t : Ty} (h : wfT p n t) : wfT p (n+1) (listT t):=.inr (.inr (.inl ⟨rfl,by simp [listT,Ty.kids],h⟩))
end Xe

namespace Xe
open Go
end Xe

namespace Xe
open Go
end Xe

namespace Xe
open Go
end Xe

namespace Xe
open Go
end Xe

namespace Xe
open Go
end Xe

namespace Xe
open Go
end Xe

namespace Xe
open Go
def intOf (h W : Nat) : Int:=if h < 128 then -1 - (W : Int) else (W : Int)
end Xe

namespace Xe
open Go
end Xe

namespace Xe
open Go
def InR (z : Int) : Prop:=-1099511627776≤z∧z≤1099511627776
instance (z : Int) : Decidable (InR z):=by unfold InR;exact inferInstance
def clipI (z : Int) : Int:=min (max z (-1099511627776)) 1099511627776
def absI (z : Int) : Int:=max z (-z)
def timesI (a b : Int) : Int:=if a = 0∨b = 0 then 0 else if Int.tdiv 1099511627776 (absI b) < absI a then (if (a < 0↔b < 0) then 1099511627776 else -1099511627776) else a * b
def divI (a b : Int) : Int:=if b = 0 then 0 else if a.tmod b ≠ 0∧¬ (a < 0↔b < 0) then a.tdiv b - 1 else a.tdiv b
def restI (a b : Int) : Int:=if b = 0 then 0 else a - b * divI a b
def numI (n a b : Int) : Int:=if n = 0 then clipI (a+b) else if n = 1 then clipI (a - b) else if n = 2 then timesI a b else if n = 3 then divI a b else restI a b
def truthV (p : Prop) [Decidable p] : Val:=if p then .mk 1 1 [] else .mk 1 0 []
def op2V (n : Int) (x y : Val) : Option Val :=
 if 0≤n∧n < 5 then (if InR x.n∧InR y.n then some (.mk 0 (numI n x.n y.n) []) else none)
 else if n = 5 then some (truthV (x.n < y.n))
 else if n = 6 then some (truthV (cmpV x y = 0))
 else if n = 7 then some (truthV (x.n ≠ 0∧y.n ≠ 0))
 else if n = 8 then some (truthV (x.n ≠ 0∨y.n ≠ 0))
 else if n = 10 then some (.mk 4 0 (x.kids++y.kids))
 else some v0
def op1V (n : Int) (x : Val) : Val:=if n = 9 then truthV (x.n = 0) else if n = 11 then .mk 0 x.kids.length [] else v0
def opV (n : Int) : List Val→Option Val
 | [x,y]=>op2V n x y
 | [x]=>if n = 9∨n = 11 then some (op1V n x) else none
 | _=>none
abbrev Env:=List (IdT×Int×Val)
def envFind (env : Env) (id : IdT) (n : Int) : Val:=match env.find? (fun x=>decide (x.1 = id∧x.2.1 = n)) with
 | some x=>x.2.2
 | none=>v0
inductive EO where
 | ok (v : Val) (s : Int)
 | err (e : Int)
 | bad
inductive AE where
 | ok (l : List Val) (s : Int)
 | err (e : Int)
 | bad
def EO.bind : EO→(Val→Int→EO)→EO
 | .ok v s,k=>k v s
 | .err e,_=>.err e
 | .bad,_=>.bad
def AE.bind : AE→(List Val→Int→EO)→EO
 | .ok v s,k=>k v s
 | .err e,_=>.err e
 | .bad,_=>.bad
def allF (g : Ex→Int→EO) : List Ex→Int→AE
 | [],s=>.ok [] s
 | e::es,s=>match g e s with
  | .ok v s1=>(match allF g es s1 with
   | .ok l s2=>.ok (v::l) s2
   | .err x=>.err x
   | .bad=>.bad)
  | .err x=>.err x
  | .bad=>.bad
def allK (g : Ex→Int→EO) (l : List Ex) (s : Int) : AE:=if 1000000 < l.length then .bad else allF g l s
def foldF (g : Val→Val→Int→EO) : List Val→Val→Int→EO
 | [],acc,s=>.ok acc s
 | x::xs,acc,s=>(g x acc s).bind fun a s1=>foldF g xs a s1
def argEnv : List SlotT→List Val→Env→Option Env
 | [],_,env=>some env
 | _::_,[],_=>none
 | s::ss,a::al,env=>argEnv ss al ((s.id,0,a)::env)
def okOpt (o : Option Val) (s : Int) : EO:=match o with
 | some v=>.ok v s
 | none=>.bad
def kidF (g : Ex→Env→Int→EO) (l : List Ex) (k : Int) (env : Env) (s : Int) : EO:=if 0≤k then (match l[k.toNat]? with
  | some e=>g e env s
  | none=>.bad) else .bad
def branchF (g : Ex→Env→Int→EO) (e : Ex) (env : Env) (v : Val) (s : Int) : EO :=
 if e.kind = 5 then (if v.n ≠ 0 then kidF g e.kids 1 env s else kidF g e.kids 2 env s)
 else if e.kind = 6 then kidF g e.kids 1 ((e.id,0,v)::env) s
 else if e.kind = 8 then (if 0≤e.n then okOpt v.kids[e.n.toNat]? s else .bad)
 else if e.kind = 10 then (match v.kids[0]? with
  | some x=>if -4611686018427387904≤v.n∧v.n≤4611686018427387904 then kidF g e.kids (1+v.n) ((e.id,v.n,x)::env) s else .bad
  | none=>.bad)
 else (kidF g e.kids 1 env s).bind fun acc s1=>foldF (fun x a s2=>kidF g e.kids 2 ((e.id,1,a)::(e.id,0,x)::env) s2) v.kids acc s1
def valueF (p : ProgT) (g : Ex→Env→Int→EO) (e : Ex) (env : Env) (s : Int) : EO :=
 if e.kind = 0 then .ok (.mk 0 e.n []) s
 else if e.kind = 1 then .ok (truthV (e.n ≠ 0)) s
 else if e.kind = 2 then .ok (envFind env e.ref e.n) s
 else if e.kind = 3 then (allK (fun x s=>g x env s) e.kids s).bind fun l s1=>(match argEnv (theDef p e.ref).slots l [] with
  | some env2=>g (theDef p e.ref).body env2 s1
  | none=>.bad)
 else if e.kind = 4 then (allK (fun x s=>g x env s) e.kids s).bind fun l s1=>okOpt (opV e.n l) s1
 else if e.kind = 7 then (allK (fun x s=>g x env s) e.kids s).bind fun l s1=>.ok (.mk 2 0 l) s1
 else if e.kind = 9 then (allK (fun x s=>g x env s) e.kids s).bind fun l s1=>.ok (.mk 3 e.n l) s1
 else if e.kind = 11 then (allK (fun x s=>g x env s) e.kids s).bind fun l s1=>.ok (.mk 4 0 l) s1
 else (kidF g e.kids 0 env s).bind fun v s1=>branchF g e env v s1
def chkV (v : Val) (s : Int) : EO:=if 1152921504606846976 < v.size then .bad else if 256 < v.size∨24 < v.depth then .err 4 else .ok v s
def evalF (p : ProgT) (F : Int) : Nat→Ex→Env→Int→EO
 | 0,_,_,s=>if F≤s then .err 18 else .bad
 | g+1,e,env,s=>if F≤s then .err 18 else (valueF p (evalF p F g) e env (s+1)).bind chkV
theorem evalF_small {p : ProgT} {F : Int} {g : Nat} {e : Ex} {env : Env} {s s' : Int} {v : Val} (h : evalF p F g e env s = .ok v s') : v.size≤256∧v.depth≤24:=by
 cases g with
 | zero=>rw [evalF] at h;split at h <;> cases h
 | succ g =>
  rw [evalF] at h
  split at h
  ·cases h
  ·generalize valueF p (evalF p F g) e env (s+1) = r at h
   cases r with
   | ok u s1 =>
    rw [EO.bind,chkV] at h
    split at h
    ·cases h
    ·split at h
     ·cases h
     ·injection h with h1 _
      subst h1
      omega
   | err x=>cases h
   | bad=>cases h
end Xe

namespace Xe
open Go
theorem clip_in (n : Int) : InR (clipI n):=by unfold InR clipI;omega
theorem abs_mul' (a b : Int) : absI (a * b) = absI a * absI b:=by
 unfold absI
 rcases Int.le_total 0 a with h1 | h1 <;> rcases Int.le_total 0 b with h2 | h2
 ·have:=Int.mul_nonneg h1 h2
  rw [show max (a * b) (-(a * b)) = a * b by omega,show max a (-a) = a by omega,show max b (-b) = b by omega]
 ·have:=Int.mul_nonneg h1 (show 0≤-b by omega)
  rw [Int.mul_neg] at this
  rw [show max (a * b) (-(a * b)) = -(a * b) by omega,show max a (-a) = a by omega,show max b (-b) = -b by omega,Int.mul_neg]
 ·have:=Int.mul_nonneg (show 0≤-a by omega) h2
  rw [Int.neg_mul] at this
  rw [show max (a * b) (-(a * b)) = -(a * b) by omega,show max a (-a) = -a by omega,show max b (-b) = b by omega,Int.neg_mul]
 ·have:=Int.mul_nonneg (show 0≤-a by omega) (show 0≤-b by omega)
  rw [Int.neg_mul_neg] at this
  rw [show max (a * b) (-(a * b)) = a * b by omega,show max a (-a) = -a by omega,show max b (-b) = -b by omega,Int.neg_mul_neg]
theorem sgn_mul {a b : Int} (ha : a ≠ 0) (hb : b ≠ 0) : (0 < a * b↔(a < 0↔b < 0)):=by
 rcases Int.lt_or_gt_of_ne ha with h1 | h1 <;> rcases Int.lt_or_gt_of_ne hb with h2 | h2
 ·have:=Int.mul_pos (show 0 < -a by omega) (show 0 < -b by omega)
  rw [Int.neg_mul_neg] at this
  constructor
  ·intro _;omega
  ·intro _;exact this
 ·have:=Int.mul_pos (show 0 < -a by omega) h2
  rw [Int.neg_mul] at this
  constructor <;> intro h <;> omega
 ·have:=Int.mul_pos h1 (show 0 < -b by omega)
  rw [Int.mul_neg] at this
  constructor <;> intro h <;> omega
 ·have:=Int.mul_pos h1 h2
  constructor
  ·intro _;omega
  ·intro _;exact this
theorem times_clip (a b : Int) : timesI a b = clipI (a * b):=by
 unfold timesI
 by_cases h0 : a = 0∨b = 0
 ·rw [if_pos h0]
  rcases h0 with rfl | rfl <;> simp [clipI] <;> decide
 ·rw [if_neg h0]
  have hb : 0 < absI b:=by unfold absI;omega
  have hm:=abs_mul' a b
  have hs:=sgn_mul (a:=a) (b:=b) (by omega) (by omega)
  have hd : Int.tdiv 1099511627776 (absI b) < absI a↔1099511627776 < absI a * absI b:=by
   rw [Int.tdiv_eq_ediv_of_nonneg (by omega)]
   exact Int.ediv_lt_iff_lt_mul hb
  simp only [hd]
  unfold clipI
  unfold absI at hm
  by_cases h1 : 1099511627776 < absI a * absI b
  ·rw [if_pos h1]
   unfold absI at h1
   rw [←hm] at h1
   by_cases h2 : (a < 0↔b < 0)
   ·rw [if_pos h2]
    have:=hs.2 h2
    omega
   ·rw [if_neg h2]
    have : ¬ 0 < a * b:=fun h=>h2 (hs.1 h)
    omega
  ·rw [if_neg h1]
   unfold absI at h1
   rw [←hm] at h1
   omega
theorem times_in (a b : Int) : InR (timesI a b):=times_clip a b ▸ clip_in _
theorem quo_le (a b : Int) : absI (a.tdiv b)≤absI a:=by
 have h:=Int.natAbs_tdiv_le_natAbs a b
 unfold absI
 omega
theorem quo_le' {a b : Int} (h : InR a) : InR (a.tdiv b):=by
 have:=quo_le a b
 unfold InR at *
 unfold absI at this
 omega
theorem tmod_bnd {a b : Int} (hb : b ≠ 0) : -absI b < a.tmod b∧a.tmod b < absI b:=by
 have h:=Int.natAbs_tmod a b
 have h2:=Nat.mod_lt a.natAbs (show b.natAbs > 0 by omega)
 unfold absI
 omega
theorem bdiv_bnd {a b : Int} (hb : b ≠ 0) (ha : InR a) (hbi : InR b) : -3298534883328≤b * divI a b∧b * divI a b≤3298534883328:=by
 have hd:=Int.mul_tdiv_add_tmod a b
 have hm:=tmod_bnd (a:=a) hb
 unfold InR at *
 unfold absI at hm
 unfold divI
 rw [if_neg hb]
 split
 ·rw [Int.mul_sub]
  omega
 ·omega
end Xe

namespace Go.Proofs.YtanbipbiblikbaaDoor
open Xe

theorem etruthP (w0 : World) (M : Mem) (Γ : List As) (p : Prop) [Decidable p] :
   CallOk Tryd.prog w0 M Γ 31 #[.bool (decide p)] (Is M Γ (.agg [vint 1,vint (if p then 1 else 0),.slice none 0 0].toArray)):=by
 refine enterCell (f:=31) Tryd.func31 rfl Tryd.ntmps31 rfl rfl fun w1 hw1=>?_
 refine CW.seq fun K1 hK1=>?_
 refine CW.region ?_
 refine RL.alloc _ zero26 rfl rfl fun b2=>?_
 refine RL.nil ?_
 refine hK1 _ _ _ ?_
 refine CW.kp [0,2] rfl ?_
 refine CW.seq fun K2 hK2=>?_
 refine CW.seq fun K3 hK3=>?_
 refine CW.region ?_
 refine RL.q (Y.move rfl) rfl ?_
 refine RL.nil ?_
 refine hK3 _ _ _ ?_
 refine CW.kp [2,3] rfl ?_
 refine CW.ite rfl (fun h1=>?_) (fun h1=>?_)
 ·refine CW.seq fun K4 hK4=>?_
  refine CW.region ?_
  refine RL.q (Y.build [_,_,_] rfl zero26 places26 (by rfl)) rfl ?_
  first | refine RL.storeRds 3 rfl rfl RP MM EL (by first | exact Kn.lenRds MM EL | exact Kn.lenLit rfl) size26 ?_ | refine RL.storeAgg _ rfl rfl RP (by rfl) (by first | (simp;done) | simp [IdT.vals]) (by first | (simp [Value.oneCell'];done) | simp [Value.oneCell',IdT.vals]) size26 ?_
  refine RL.nil ?_
  refine hK4 _ _ _ ?_
  refine CW.kp [2] rfl ?_
  refine CW.ret ?_
  rw [if_pos h1]
  exact CellAt.mk rfl MM (by first | rfl | assumption) agg26 (Turn.drop ⟨rfl,rfl,rfl⟩ SB)
 refine CW.skip ?_
 refine hK2 _ _ _ ?_
 refine CW.seq fun K5 hK5=>?_
 refine CW.region ?_
 refine RL.q (Y.build [_,_,_] rfl zero26 places26 (by rfl)) rfl ?_
 first | refine RL.storeRds 3 rfl rfl RP MM EL (by first | exact Kn.lenRds MM EL | exact Kn.lenLit rfl) size26 ?_ | refine RL.storeAgg _ rfl rfl RP (by rfl) (by first | (simp;done) | simp [IdT.vals]) (by first | (simp [Value.oneCell'];done) | simp [Value.oneCell',IdT.vals]) size26 ?_
 refine RL.nil ?_
 refine hK5 _ _ _ ?_
 refine CW.kp [2] rfl ?_
 refine CW.ret ?_
 rw [if_neg h1]
 exact CellAt.mk rfl MM (by first | rfl | assumption) agg26 (Turn.drop ⟨rfl,rfl,rfl⟩ SB)

theorem etruth_ok (w0 : World) (M : Mem) (Γ : List As) (b : Bool) :
   CallOk Tryd.prog w0 M Γ 31 #[.bool b] (Is M Γ (.agg [vint 1,vint (if b = true then 1 else 0),.slice none 0 0].toArray)):=by simpa using etruthP w0 M Γ (b = true)

theorem clip_ok (w0 : World) (M : Mem) (Γ : List As) (n : Int)    :
   CallOk Tryd.prog w0 M Γ 56 #[vint n] (Is M Γ (vint (clipI n))):=by
 refine enter (f:=56) Tryd.func56 rfl Tryd.ntmps56 rfl rfl fun w1 hw1=>?_
 refine CW.seq fun K1 hK1=>?_
 refine CW.region ?_
 refine RL.q (Y.assign rfl) rfl ?_
 refine RL.nil ?_
 refine hK1 _ _ _ ?_
 refine CW.kp [0] rfl ?_
 refine CW.seq fun K2 hK2=>?_
 refine CW.region ?_
 refine RL.q (Y.move rfl) rfl ?_
 refine RL.q (Y.max2 rfl rfl) rfl ?_
 refine RL.q (Y.min2 rfl rfl) rfl ?_
 refine RL.q (Y.assign rfl) rfl ?_
 refine RL.nil ?_
 refine hK2 _ _ _ ?_
 refine CW.kp [2] rfl ?_
 refine CW.ret ?_
 exact ⟨_,rfl,Turn.drop ⟨rfl,rfl,rfl⟩ SB⟩

theorem same_ok (w0 : World) (M : Mem) (Γ : List As) (a : Val) (usa : List Value) (b : Val) (usb : List Value)  (ha : Kn w0 M Γ (RdL M a.enc usa)) (hb : Kn w0 M Γ (RdL M b.enc usb))  :
   CallOk Tryd.prog w0 M Γ 11 #[.agg usa.toArray,.agg usb.toArray] (Is M Γ (.bool (decide (cmpV a b = 0)))):=by
 refine CallOk.kn ha fun ha=>?_
 rw [Val.enc_eq] at ha
 refine CallOk.kn hb fun hb=>?_
 rw [Val.enc_eq] at hb
 refine enter (f:=11) Tryd.func11 rfl Tryd.ntmps11 rfl rfl fun w1 hw1=>?_
 refine CW.addRds ha ?_
 refine CW.addRds hb ?_
 refine CW.seq fun K1 hK1=>?_
 refine CW.region ?_
 refine RL.box _ rfl rfl rfl fun b2=>?_
 refine RL.box _ rfl rfl rfl fun b3=>?_
 refine RL.q (Y.assign rfl) rfl ?_
 refine RL.nil ?_
 refine hK1 _ _ _ ?_
 refine CW.kp [2,3] rfl ?_
 refine CW.seq fun K2 hK2=>?_
 refine CW.region ?_
 first | refine RL.q (Y.loadAllR rfl MM MM EL agg26) rfl ?_ | refine RL.q (Y.loadAll rfl MM (by rfl) agg26) rfl ?_ | refine RL.loadPart rfl rfl MM MM (by rfl) (by rfl) agg26 rfl fun us5 hul5 hur5=>?_
 first | refine RL.q (Y.loadAllR rfl MM MM EL agg26) rfl ?_ | refine RL.q (Y.loadAll rfl MM (by rfl) agg26) rfl ?_ | refine RL.loadPart rfl rfl MM MM (by rfl) (by rfl) agg26 rfl fun us6 hul6 hur6=>?_
 refine RL.callv rfl func30 rfl rfl (by exact rcmpV_ok _ _ _ _ _ _ _ _ rfl KK KK) ?_
 refine RL.q (Y.eql rfl rfl) rfl ?_
 refine RL.q (Y.assign rfl) rfl ?_
 refine RL.nil ?_
 refine hK2 _ _ _ ?_
 refine CW.kp [4] rfl ?_
 refine CW.ret ?_
 exact ⟨_,rfl,Turn.drop ⟨rfl,rfl,rfl⟩ SB⟩

theorem add_ok (w0 : World) (M : Mem) (Γ : List As) (a : Int) (b : Int)   (hai : InR a) (hbi : InR b) :
   CallOk Tryd.prog w0 M Γ 132 #[vint a,vint b] (Is M Γ (vint (clipI (a+b)))):=by
 have hai2:=hai
 have hbi2:=hbi
 unfold InR at hai2 hbi2
 refine enter (f:=132) Tryd.func132 rfl Tryd.ntmps132 rfl rfl fun w1 hw1=>?_
 refine CW.seq fun K1 hK1=>?_
 refine CW.region ?_
 refine RL.q (Y.assign rfl) rfl ?_
 refine RL.nil ?_
 refine hK1 _ _ _ ?_
 refine CW.kp [0,1] rfl ?_
 refine CW.seq fun K2 hK2=>?_
 refine CW.region ?_
 refine RL.q (Y.move rfl) rfl ?_
 refine RL.q (Y.move rfl) rfl ?_
 refine RL.q (Y.add rfl rfl OM) rfl ?_
 refine RL.callv rfl func56 rfl rfl (by exact clip_ok _ _ _ _) ?_
 refine RL.q (Y.assign rfl) rfl ?_
 refine RL.nil ?_
 refine hK2 _ _ _ ?_
 refine CW.kp [4] rfl ?_
 refine CW.ret ?_
 exact ⟨_,rfl,Turn.drop ⟨rfl,rfl,rfl⟩ SB⟩

theorem sub_ok (w0 : World) (M : Mem) (Γ : List As) (a : Int) (b : Int)   (hai : InR a) (hbi : InR b) :
   CallOk Tryd.prog w0 M Γ 133 #[vint a,vint b] (Is M Γ (vint (clipI (a - b)))):=by
 have hai2:=hai
 have hbi2:=hbi
 unfold InR at hai2 hbi2
 refine enter (f:=133) Tryd.func133 rfl Tryd.ntmps133 rfl rfl fun w1 hw1=>?_
 refine CW.seq fun K1 hK1=>?_
 refine CW.region ?_
 refine RL.q (Y.assign rfl) rfl ?_
 refine RL.nil ?_
 refine hK1 _ _ _ ?_
 refine CW.kp [0,1] rfl ?_
 refine CW.seq fun K2 hK2=>?_
 refine CW.region ?_
 refine RL.q (Y.move rfl) rfl ?_
 refine RL.q (Y.move rfl) rfl ?_
 refine RL.q (Y.sub rfl rfl OM) rfl ?_
 refine RL.callv rfl func56 rfl rfl (by exact clip_ok _ _ _ _) ?_
 refine RL.q (Y.assign rfl) rfl ?_
 refine RL.nil ?_
 refine hK2 _ _ _ ?_
 refine CW.kp [4] rfl ?_
 refine CW.ret ?_
 exact ⟨_,rfl,Turn.drop ⟨rfl,rfl,rfl⟩ SB⟩

theorem times_ok (w0 : World) (M : Mem) (Γ : List As) (a : Int) (b : Int)   (hai : InR a) (hbi : InR b) :
   CallOk Tryd.prog w0 M Γ 134 #[vint a,vint b] (Is M Γ (vint (timesI a b))):=by
 have hai2:=hai
 have hbi2:=hbi
 unfold InR at hai2 hbi2
 refine enter (f:=134) Tryd.func134 rfl Tryd.ntmps134 rfl rfl fun w1 hw1=>?_
 refine CW.seq fun K1 hK1=>?_
 refine CW.region ?_
 refine RL.q (Y.assign rfl) rfl ?_
 refine RL.nil ?_
 refine hK1 _ _ _ ?_
 refine CW.kp [0,1] rfl ?_
 refine CW.seq fun K2 hK2=>?_
 refine CW.seq fun K3 hK3=>?_
 refine CW.region ?_
 refine RL.q (Y.move rfl) rfl ?_
 refine RL.qs (Y.eql rfl rfl) rfl (fun g6=>?_) (fun g6=>?_)
 ·refine RL.q (Y.move rfl) rfl ?_
  refine RL.no WG rfl ?_
  refine RL.no WG rfl ?_
  refine RL.q (Y.pickT rfl rfl) rfl ?_
  refine RL.nil ?_
  refine hK3 _ _ _ ?_
  refine CW.kp [0,1,10] rfl ?_
  refine CW.yes rfl ?_
  refine CW.seq fun K4 hK4=>?_
  refine CW.region ?_
  refine RL.q (Y.assign rfl) rfl ?_
  refine RL.nil ?_
  refine hK4 _ _ _ ?_
  refine CW.kp [4] rfl ?_
  refine CW.ret ?_
  first | exact ⟨_,rfl,Turn.drop ⟨(by first | (rw [timesI,if_pos OM];done) | fail),rfl,rfl⟩ SB⟩
 refine RL.q (Y.move rfl) rfl ?_
 refine RL.qg WG (Y.move rfl) rfl ?_
 refine RL.qg WG (Y.eql rfl rfl) rfl ?_
 refine RL.q (Y.pickF rfl rfl) rfl ?_
 refine RL.nil ?_
 refine hK3 _ _ _ ?_
 refine CW.kp [0,1,10] rfl ?_
 refine CW.ite rfl (fun h1=>?_) (fun h1=>?_)
 ·refine CW.seq fun K5 hK5=>?_
  refine CW.region ?_
  refine RL.q (Y.assign rfl) rfl ?_
  refine RL.nil ?_
  refine hK5 _ _ _ ?_
  refine CW.kp [4] rfl ?_
  refine CW.ret ?_
  first | exact ⟨_,rfl,Turn.drop ⟨(by first | (rw [timesI,if_pos OM];done) | fail),rfl,rfl⟩ SB⟩
 refine CW.skip ?_
 refine hK2 _ _ _ ?_
 refine CW.seq fun K6 hK6=>?_
 refine CW.seq fun K7 hK7=>?_
 have hbq : 0 < max b (-b):=by omega
 have hdq : Int.tdiv 1099511627776 (max b (-b)) = 1099511627776 / (max b (-b)):=Int.tdiv_eq_ediv_of_nonneg OM
 have hdr : 0≤1099511627776 / (max b (-b))∧1099511627776 / (max b (-b))≤1099511627776:=⟨Int.ediv_nonneg OM OM,Int.ediv_le_self _ OM⟩
 refine CW.region ?_
 refine RL.q (Y.move rfl) rfl ?_
 refine RL.q (Y.move rfl) rfl ?_
 refine RL.q (Y.neg rfl OM) rfl ?_
 refine RL.q (Y.max2 rfl rfl) rfl ?_
 refine RL.q (Y.move rfl) rfl ?_
 refine RL.q (Y.move rfl) rfl ?_
 refine RL.q (Y.neg rfl OM) rfl ?_
 refine RL.q (Y.max2 rfl rfl) rfl ?_
 refine RL.q (Y.quo rfl rfl OM OM) rfl ?_
 refine RL.q (Y.gtr rfl rfl) rfl ?_
 refine RL.nil ?_
 refine hK7 _ _ _ ?_
 refine CW.kp [0,1,20] rfl ?_
 refine CW.ite rfl (fun h2=>?_) (fun h2=>?_)
 ·refine CW.seq fun K8 hK8=>?_
  refine CW.seq fun K9 hK9=>?_
  refine CW.region ?_
  refine RL.q (Y.move rfl) rfl ?_
  refine RL.q (Y.lss rfl rfl) rfl ?_
  refine RL.q (Y.move rfl) rfl ?_
  refine RL.q (Y.lss rfl rfl) rfl ?_
  refine RL.q (Y.eqlBB Tryd.underlying4 rfl rfl) rfl ?_
  refine RL.nil ?_
  refine hK9 _ _ _ ?_
  refine CW.kp [25] rfl ?_
  refine CW.ite rfl (fun h3=>?_) (fun h3=>?_)
  ·refine CW.seq fun K10 hK10=>?_
   refine CW.region ?_
   refine RL.q (Y.assign rfl) rfl ?_
   refine RL.nil ?_
   refine hK10 _ _ _ ?_
   refine CW.kp [4] rfl ?_
   refine CW.ret ?_
   have c0 : ¬ (a = 0∨b = 0):=by omega
   have c1 : Int.tdiv 1099511627776 (absI b) < absI a:=by unfold absI;omega
   rw [timesI,if_neg c0,if_pos c1,if_pos (decide_eq_decide.1 h3)]
   exact ⟨_,rfl,Turn.drop ⟨rfl,rfl,rfl⟩ SB⟩
  refine CW.skip ?_
  refine hK8 _ _ _ ?_
  refine CW.seq fun K11 hK11=>?_
  refine CW.region ?_
  refine RL.q (Y.assign rfl) rfl ?_
  refine RL.nil ?_
  refine hK11 _ _ _ ?_
  refine CW.kp [4] rfl ?_
  refine CW.ret ?_
  have c0 : ¬ (a = 0∨b = 0):=by omega
  have c1 : Int.tdiv 1099511627776 (absI b) < absI a:=by unfold absI;omega
  rw [timesI,if_neg c0,if_pos c1,if_neg (fun h=>h3 (decide_eq_decide.2 h))]
  exact ⟨_,rfl,Turn.drop ⟨rfl,rfl,rfl⟩ SB⟩
 refine CW.skip ?_
 refine hK6 _ _ _ ?_
 refine CW.seq fun K12 hK12=>?_
 have hm7:=times_in a b
 rw [timesI,if_neg OM,if_neg (by unfold absI;omega)] at hm7
 unfold InR at hm7
 refine CW.region ?_
 refine RL.q (Y.move rfl) rfl ?_
 refine RL.q (Y.move rfl) rfl ?_
 refine RL.q (Y.mul rfl rfl OM) rfl ?_
 refine RL.q (Y.assign rfl) rfl ?_
 refine RL.nil ?_
 refine hK12 _ _ _ ?_
 refine CW.kp [4] rfl ?_
 refine CW.ret ?_
 have c0 : ¬ (a = 0∨b = 0):=by omega
 have c1 : ¬ Int.tdiv 1099511627776 (absI b) < absI a:=by unfold absI;omega
 rw [timesI,if_neg c0,if_neg c1]
 exact ⟨_,rfl,Turn.drop ⟨rfl,rfl,rfl⟩ SB⟩

theorem divide_ok (w0 : World) (M : Mem) (Γ : List As) (a : Int) (b : Int)   (hai : InR a) (hbi : InR b) :
   CallOk Tryd.prog w0 M Γ 135 #[vint a,vint b] (Is M Γ (vint (divI a b))):=by
 have hai2:=hai
 have hbi2:=hbi
 unfold InR at hai2 hbi2
 have hqi:=quo_le' (b:=b) hai
 unfold InR at hqi
 refine enter (f:=135) Tryd.func135 rfl Tryd.ntmps135 rfl rfl fun w1 hw1=>?_
 refine CW.seq fun K1 hK1=>?_
 refine CW.region ?_
 refine RL.q (Y.assign rfl) rfl ?_
 refine RL.nil ?_
 refine hK1 _ _ _ ?_
 refine CW.kp [0,1] rfl ?_
 refine CW.seq fun K2 hK2=>?_
 refine CW.seq fun K3 hK3=>?_
 refine CW.region ?_
 refine RL.q (Y.move rfl) rfl ?_
 refine RL.q (Y.eql rfl rfl) rfl ?_
 refine RL.nil ?_
 refine hK3 _ _ _ ?_
 refine CW.kp [0,1,7] rfl ?_
 refine CW.ite rfl (fun h1=>?_) (fun h1=>?_)
 ·refine CW.seq fun K4 hK4=>?_
  refine CW.region ?_
  refine RL.q (Y.assign rfl) rfl ?_
  refine RL.nil ?_
  refine hK4 _ _ _ ?_
  refine CW.kp [4] rfl ?_
  refine CW.ret ?_
  exact ⟨_,rfl,Turn.drop ⟨by rw [divI,if_pos OM],rfl,rfl⟩ SB⟩
 refine CW.skip ?_
 refine hK2 _ _ _ ?_
 refine CW.seq fun K5 hK5=>?_
 refine CW.region ?_
 refine RL.q (Y.move rfl) rfl ?_
 refine RL.q (Y.move rfl) rfl ?_
 refine RL.q (Y.quo rfl rfl OM OM) rfl ?_
 refine RL.q (Y.assign rfl) rfl ?_
 refine RL.nil ?_
 refine hK5 _ _ _ ?_
 refine CW.kp [0,1,5] rfl ?_
 refine CW.seq fun K6 hK6=>?_
 refine CW.seq fun K7 hK7=>?_
 refine CW.region ?_
 refine RL.q (Y.move rfl) rfl ?_
 refine RL.q (Y.move rfl) rfl ?_
 refine RL.q (Y.rem rfl rfl OM) rfl ?_
 refine RL.qs (Y.neq rfl rfl) rfl (fun g14=>?_) (fun g14=>?_)
 ·refine RL.q (Y.move rfl) rfl ?_
  refine RL.qg WG (Y.move rfl) rfl ?_
  refine RL.qg WG (Y.lss rfl rfl) rfl ?_
  refine RL.qg WG (Y.move rfl) rfl ?_
  refine RL.qg WG (Y.lss rfl rfl) rfl ?_
  refine RL.qg WG (Y.neqD Tryd.underlying4 rfl rfl) rfl ?_
  refine RL.q (Y.pickT rfl rfl) rfl ?_
  refine RL.nil ?_
  refine hK7 _ _ _ ?_
  refine CW.kp [5,21] rfl ?_
  refine CW.ite rfl (fun h2=>?_) (fun h2=>?_)
  ·refine CW.region ?_
   refine RL.q (Y.move rfl) rfl ?_
   refine RL.q (Y.sub rfl rfl OM) rfl ?_
   refine RL.q (Y.assign rfl) rfl ?_
   refine RL.nil ?_
   refine hK6 _ _ _ ?_
   refine CW.kp [5] rfl ?_
   refine CW.seq fun K8 hK8=>?_
   refine CW.region ?_
   refine RL.q (Y.move rfl) rfl ?_
   refine RL.q (Y.assign rfl) rfl ?_
   refine RL.nil ?_
   refine hK8 _ _ _ ?_
   refine CW.kp [4] rfl ?_
   refine CW.ret ?_
   exact ⟨_,rfl,Turn.drop ⟨congrArg vint (by unfold divI;split <;> first | omega | (split <;> omega)),rfl,rfl⟩ SB⟩
  refine CW.skip ?_
  refine hK6 _ _ _ ?_
  refine CW.seq fun K9 hK9=>?_
  refine CW.region ?_
  refine RL.q (Y.move rfl) rfl ?_
  refine RL.q (Y.assign rfl) rfl ?_
  refine RL.nil ?_
  refine hK9 _ _ _ ?_
  refine CW.kp [4] rfl ?_
  refine CW.ret ?_
  exact ⟨_,rfl,Turn.drop ⟨congrArg vint (by unfold divI;split <;> first | omega | (split <;> omega)),rfl,rfl⟩ SB⟩
 refine RL.q (Y.move rfl) rfl ?_
 refine RL.no WG rfl ?_
 refine RL.no WG rfl ?_
 refine RL.no WG rfl ?_
 refine RL.no WG rfl ?_
 refine RL.no WG rfl ?_
 refine RL.q (Y.pickF rfl rfl) rfl ?_
 refine RL.nil ?_
 refine hK7 _ _ _ ?_
 refine CW.kp [5,21] rfl ?_
 refine CW.no rfl ?_
 refine CW.skip ?_
 refine hK6 _ _ _ ?_
 refine CW.seq fun K10 hK10=>?_
 refine CW.region ?_
 refine RL.q (Y.move rfl) rfl ?_
 refine RL.q (Y.assign rfl) rfl ?_
 refine RL.nil ?_
 refine hK10 _ _ _ ?_
 refine CW.kp [4] rfl ?_
 refine CW.ret ?_
 exact ⟨_,rfl,Turn.drop ⟨congrArg vint (by unfold divI;split <;> first | omega | (split <;> omega)),rfl,rfl⟩ SB⟩

theorem rest_ok (w0 : World) (M : Mem) (Γ : List As) (a : Int) (b : Int)   (hai : InR a) (hbi : InR b) :
   CallOk Tryd.prog w0 M Γ 136 #[vint a,vint b] (Is M Γ (vint (restI a b))):=by
 have hai2:=hai
 have hbi2:=hbi
 unfold InR at hai2 hbi2
 refine enter (f:=136) Tryd.func136 rfl Tryd.ntmps136 rfl rfl fun w1 hw1=>?_
 refine CW.seq fun K1 hK1=>?_
 refine CW.region ?_
 refine RL.q (Y.assign rfl) rfl ?_
 refine RL.nil ?_
 refine hK1 _ _ _ ?_
 refine CW.kp [0,1] rfl ?_
 refine CW.seq fun K2 hK2=>?_
 refine CW.seq fun K3 hK3=>?_
 refine CW.region ?_
 refine RL.q (Y.move rfl) rfl ?_
 refine RL.q (Y.eql rfl rfl) rfl ?_
 refine RL.nil ?_
 refine hK3 _ _ _ ?_
 refine CW.kp [0,1,6] rfl ?_
 refine CW.ite rfl (fun h1=>?_) (fun h1=>?_)
 ·refine CW.seq fun K4 hK4=>?_
  refine CW.region ?_
  refine RL.q (Y.assign rfl) rfl ?_
  refine RL.nil ?_
  refine hK4 _ _ _ ?_
  refine CW.kp [4] rfl ?_
  refine CW.ret ?_
  exact ⟨_,rfl,Turn.drop ⟨by rw [restI,if_pos OM],rfl,rfl⟩ SB⟩
 have hbd:=bdiv_bnd h1 hai hbi
 refine CW.skip ?_
 refine hK2 _ _ _ ?_
 refine CW.seq fun K5 hK5=>?_
 refine CW.region ?_
 refine RL.q (Y.move rfl) rfl ?_
 refine RL.q (Y.move rfl) rfl ?_
 refine RL.q (Y.move rfl) rfl ?_
 refine RL.q (Y.move rfl) rfl ?_
 refine RL.callv rfl func135 rfl rfl (by exact divide_ok _ _ _ _ _ AO AO) ?_
 refine RL.q (Y.mul rfl rfl OM) rfl ?_
 refine RL.q (Y.sub rfl rfl OM) rfl ?_
 refine RL.q (Y.assign rfl) rfl ?_
 refine RL.nil ?_
 refine hK5 _ _ _ ?_
 refine CW.kp [4] rfl ?_
 refine CW.ret ?_
 rw [restI,if_neg OM]
 exact ⟨_,rfl,Turn.drop ⟨rfl,rfl,rfl⟩ SB⟩

end Go.Proofs.YtanbipbiblikbaaDoor

namespace Go.Proofs.YtanbipbiblikbaaDoor
open Xe

theorem v_eta (v : Val) : Val.mk v.kind v.n v.kids = v:=by cases v;rfl

set_option maxHeartbeats 1000000 in
theorem copies_ok (N : Nat) : ∀ (w0 : World) (M : Mem) (Γ : List As) (l : List Val) (u : Value),(∀ v∈l,v.size < N)→N≤1099511627776→l.length≤1099511627776→Kn w0 M Γ (Rd M (.sl l.length 3 (l.flatMap Val.enc)) u) →
   CallOk Tryd.prog w0 M Γ 33 #[u] (Gives M Γ fun M' v=>Rd M' (.sl l.length 3 (l.flatMap Val.enc)) v):=by
 induction N using Nat.strongRecOn
 rename_i N ih
 intro w0 M Γ l u hsz hN hll hu
 refine CallOk.kn hu fun hu=>?_
 obtain ⟨a1,c1,rfl,hc1,hlim1,hlen1⟩:=hu.slice
 refine enter (f:=33) Tryd.func33 rfl Tryd.ntmps33 rfl rfl fun w1 hw1=>?_
 refine CW.addRd hu ?_
 refine CW.seq fun K1 hK1=>?_
 refine CW.region ?_
 refine RL.q (Y.assign rfl) rfl ?_
 refine RL.nil ?_
 refine hK1 _ _ _ ?_
 refine CW.kp [0] rfl ?_
 refine CW.seq fun K2 hK2=>?_
 refine CW.region ?_
 refine RL.q (Y.assign rfl) rfl ?_
 refine RL.nil ?_
 refine hK2 _ _ _ ?_
 refine CW.kp [0,3] rfl ?_
 refine CW.seq fun K3 hK3=>?_
 refine CW.seq fun K4 hK4=>?_
 refine CW.accNil 26 3 ?_
 refine CW.addRds (RdL.nil _) ?_
 refine CW.region ?_
 refine RL.q (Y.move rfl) rfl ?_
 refine RL.q (Y.len rfl Tryd.underlying24) rfl ?_
 refine RL.q (Y.move rfl) rfl ?_
 refine RL.nil ?_
 refine hK4 _ _ _ ?_
 refine CW.kp [3,6,7,8] rfl ?_
 refine CW.block ?_
 -- LOOP 1: live [3,6,7,8] changed [3,8]
 refine CW.kp [3,8,6,7] rfl ?_
 refine CW.loopF (fun m Lc M1 Γc=>∃ (k : Nat) (ua : Option Addr) (ca : Nat) (us : List Value),m = l.length - k∧k≤l.length∧Lc = [(3,.slice ua k ca),(8,vint k)]∧Γc = [.rds ((l.take k).flatMap Val.enc) us,.acc (.slice ua k ca) 26 3 k us]) l.length [(3,_),(8,_)] [_,_] rfl rfl ⟨0,none,0,[],rfl,Nat.zero_le _,rfl,rfl⟩ ?_
 rintro m Lc M1 Γc hs ⟨k,ua,ca,us,rfl,hk,rfl,rfl⟩
 refine CW.seq fun K5 hK5=>?_
 refine CW.region ?_
 refine RL.q (Y.lss rfl rfl) rfl ?_
 refine RL.nil ?_
 refine hK5 _ _ _ ?_
 refine CW.kp [3,6,7,8,9] rfl ?_
 refine CW.seq fun K6 hK6=>?_
 refine CW.ite rfl (fun h1=>?_) (fun h1=>?_)
 ·have hka : k < l.length:=by omega
  have hkz:=hsz _ (List.getElem_mem hka)
  have hks:=kids_le_size l[k]
  refine CW.skip ?_
  refine hK6 _ _ _ ?_
  refine CW.seq fun K7 hK7=>?_
  refine CW.block ?_
  refine CW.seq fun K8 hK8=>?_
  refine CW.region ?_
  refine RL.q (Y.index _ rfl rfl rfl AO slice24 SM) rfl ?_
  refine RL.loadAgg rfl rfl MM (Eq.trans (flat_take Val.enc_len _ _ _ (List.getElem?_eq_getElem AO)) (Val.enc_eq _)) (by rfl) agg26 rfl fun us11 hul11 hur11=>?_
  refine RL.alloc _ zero26 rfl rfl fun b5=>?_
  first | refine RL.storeRds 3 rfl rfl RP MM EL (by first | exact Kn.lenRds MM EL | exact Kn.lenLit rfl) size26 ?_ | refine RL.storeAgg _ rfl rfl RP (by rfl) (by first | (simp;done) | simp [IdT.vals]) (by first | (simp [Value.oneCell'];done) | simp [Value.oneCell',IdT.vals]) size26 ?_
  refine RL.nil ?_
  refine hK8 _ _ _ ?_
  refine CW.kp [3,5,6,7,8] rfl ?_
  obtain ⟨uk,rfl,hkids⟩:=Val.open (v:=l[k]) (by rw [Val.enc_eq];exact hur11)
  obtain ⟨ak,ck,rfl,hck,hlk,_⟩:=hkids.slice
  refine CW.addRd hkids ?_
  refine CW.seq fun K9 hK9=>?_
  refine CW.region ?_
  refine RL.q (Y.field rfl field26_2) rfl ?_
  first | refine RL.q (Y.loadOwnV rfl MM MM (by rfl) flat24) rfl ?_ | refine RL.q (Y.loadOwn rfl MM (by rfl) flat24) rfl ?_ | refine RL.loadOwnSl rfl rfl MM MM (by rfl) flat24 rfl fun a13 c13 hu13 hc13 hl13=>?_
  refine RL.call rfl func33 rfl rfl (by exact ih _ hkz _ _ _ (l[k]).kids _ (fun x hx=>Val.size_kid hx) OM OM (by exact Kn.rd MM)) ?_
  rintro v14 M14 _ ⟨hs14,rfl,hr14⟩
  obtain ⟨a14,c14,rfl,hc14,hl14,_⟩:=hr14.slice
  refine RL.addRd hr14 ?_
  refine RL.q (Y.field rfl field26_2) rfl ?_
  refine RL.store _ rfl rfl RP (by rfl) (by simp) (by rfl) size24 ?_
  refine RL.nil ?_
  refine hK9 _ _ _ ?_
  refine CW.kp [3,5,6,7,8] rfl ?_
  refine CW.region ?_
  refine RL.q (Y.move rfl) rfl ?_
  first | refine RL.q (Y.loadAllR rfl MM MM EL agg26) rfl ?_ | refine RL.q (Y.loadAll rfl MM (by rfl) agg26) rfl ?_ | refine RL.loadPart rfl rfl MM MM (by rfl) (by rfl) agg26 rfl fun us17 hul17 hur17=>?_
  refine RL.buildSlice [vint l[k].kind,vint l[k].n,.slice a14 (l[k]).kids.length c14] elem24 rfl (by decide) (fill1 rfl rfl) rfl fun b18=>?_
  have hnd:=node_rd l[k].kind l[k].n (l[k]).kids hr14
  rw [v_eta] at hnd
  have etk : (l.take (k+1)).flatMap Val.enc = (l.take k).flatMap Val.enc++l[k].enc:=by rw [List.take_succ_eq_append_getElem hka,snoc_flat]
  refine RL.append elem24 rfl rfl PK (SrcOk.own (sz:=3) (m:=1) MM (by rfl) hnd.one) OM (by unfold lim;omega) rfl fun a19 c19 hc19=>?_
  refine RL.q (Y.assign rfl) rfl ?_
  refine RL.nil ?_
  refine hK7 _ _ _ ?_
  refine CW.kp [3,6,7,8] rfl ?_
  refine CW.region ?_
  refine RL.q (Y.add rfl rfl OM) rfl ?_
  refine RL.q (Y.move rfl) rfl ?_
  refine RL.nil ?_
  refine ⟨l.length - (k+1),[(3,_),(8,_)],?_,(KP [3,8,6,7]),?_⟩
  · omega
  · refine Turn.kn (Kn.rds (ds:=(l.take k).flatMap Val.enc) (us:=us) MM) fun hrd=>?_
    refine Turn.front (x:=.acc (.slice a19 (k+1) c19) 26 3 (k+1) (us++[vint l[k].kind,vint l[k].n,.slice a14 (l[k]).kids.length c14])) PK ?_
    refine Turn.addRds (hrd.append hnd) ?_
    exact Turn.drop ⟨[_,_],rfl,hs.trans hs14,k+1,a19,c19,us++[vint l[k].kind,vint l[k].n,.slice a14 (l[k]).kids.length c14],rfl,by omega,rfl,by rw [etk]⟩ SB
 refine CW.exit ?_
 refine hK3 _ _ _ ?_
 refine CW.seq fun K10 hK10=>?_
 refine CW.region ?_
 refine RL.q (Y.move rfl) rfl ?_
 refine RL.q (Y.assign rfl) rfl ?_
 refine RL.nil ?_
 refine hK10 _ _ _ ?_
 refine CW.kp [2] rfl ?_
 refine CW.ret ?_
 obtain rfl : k = l.length:=by omega
 refine ⟨_,rfl,Turn.kn (Kn.rds (ds:=(l.take l.length).flatMap Val.enc) (us:=us) MM) fun hrd=>?_⟩
 rw [List.take_length] at hrd
 exact Turn.sealAcc (Γ:=Γ) (u:=.slice ua l.length ca) PK hrd (by unfold lim;omega) SB fun M2 hs2 hr2=>⟨hs.trans hs2,rfl,hr2⟩

theorem growV_ok (w0 : World) (M : Mem) (Γ : List As) (n : Nat) (hn : n≤1000000) :
   CallOk Tryd.prog w0 M Γ 71 #[.slice none 0 0,vint n] (fun u M' Γ'=>∃ a c,u = .slice a 0 c∧n≤c∧M' = M∧Γ' = .acc (.slice a 0 c) 26 3 0 []::Γ):=by
 refine enter (f:=71) Tryd.func71 rfl Tryd.ntmps71 rfl rfl fun w1 hw1=>?_
 refine CW.seq fun K1 hK1=>?_
 refine CW.region ?_
 refine RL.q (Y.assign rfl) rfl ?_
 refine RL.nil ?_
 refine hK1 _ _ _ ?_
 refine CW.kp [0,1] rfl ?_
 refine CW.seq fun K2 hK2=>?_
 refine CW.seq fun K3 hK3=>?_
 refine CW.region ?_
 refine RL.q (Y.move rfl) rfl ?_
 refine RL.q (Y.lss rfl rfl) rfl ?_
 refine RL.nil ?_
 refine hK3 _ _ _ ?_
 refine CW.kp [0,1,6] rfl ?_
 refine CW.ite rfl (fun h1=>absurd h1 OM) (fun h1=>?_)
 refine CW.skip ?_
 refine hK2 _ _ _ ?_
 refine CW.seq fun K4 hK4=>?_
 refine CW.seq fun K5 hK5=>?_
 refine CW.region ?_
 refine RL.q (Y.move rfl) rfl ?_
 refine RL.q (Y.move rfl) rfl ?_
 refine RL.q (Y.cap rfl Tryd.underlying24) rfl ?_
 refine RL.q (Y.move rfl) rfl ?_
 refine RL.q (Y.len rfl Tryd.underlying24) rfl ?_
 refine RL.q (Y.sub rfl rfl OM) rfl ?_
 refine RL.q (Y.sub rfl rfl OM) rfl ?_
 refine RL.q (Y.assign rfl) rfl ?_
 refine RL.nil ?_
 refine hK5 _ _ _ ?_
 refine CW.kp [0,1] rfl ?_
 refine CW.seq fun K6 hK6=>?_
 refine CW.region ?_
 refine RL.q (Y.move rfl) rfl ?_
 refine RL.q (Y.gtr rfl rfl) rfl ?_
 refine RL.nil ?_
 refine hK6 _ _ _ ?_
 refine CW.kp [0,1,16] rfl ?_
 refine CW.ite rfl (fun h2=>?_) (fun h2=>?_)
 ·refine CW.region ?_
  refine RL.q (Y.move rfl) rfl ?_
  refine RL.q (Y.move rfl) rfl ?_
  refine RL.q (Y.cap rfl Tryd.underlying24) rfl ?_
  refine RL.q (Y.slice0 0 0 rfl ⟨_,rfl,rfl⟩ rfl (by simp) (Nat.le_refl _) (Nat.le_refl _) slice24) rfl ?_
  refine RL.q (Y.move rfl) rfl ?_
  refine RL.appendZeros n elem24 Tryd.underlying3 rfl rfl OM OM OM (by unfold lim;omega) rfl fun b22 c22 us22 hus22 hc22=>?_
  refine RL.q (Y.move rfl) rfl ?_
  refine RL.q (Y.len rfl Tryd.underlying24) rfl ?_
  refine RL.accTake (k:=0) (Nat.zero_le _) ?_
  refine RL.q (Y.slice0 0 c22 rfl ⟨_,rfl,rfl⟩ rfl (by simp) (Nat.zero_le _) (Nat.le_refl _) slice24) rfl ?_
  refine RL.q (Y.assign rfl) rfl ?_
  refine RL.nil ?_
  refine hK4 _ _ _ ?_
  refine CW.kp [0] rfl ?_
  refine CW.seq fun K7 hK7=>?_
  refine CW.region ?_
  refine RL.q (Y.move rfl) rfl ?_
  refine RL.q (Y.assign rfl) rfl ?_
  refine RL.nil ?_
  refine hK7 _ _ _ ?_
  refine CW.kp [4] rfl ?_
  refine CW.ret ?_
  exact ⟨_,rfl,Turn.drop ⟨_,_,rfl,by omega,rfl,rfl⟩ SB⟩
 refine CW.accNil 26 3 ?_
 refine CW.skip ?_
 refine hK4 _ _ _ ?_
 refine CW.seq fun K8 hK8=>?_
 refine CW.region ?_
 refine RL.q (Y.move rfl) rfl ?_
 refine RL.q (Y.assign rfl) rfl ?_
 refine RL.nil ?_
 refine hK8 _ _ _ ?_
 refine CW.kp [4] rfl ?_
 refine CW.ret ?_
 exact ⟨_,rfl,Turn.drop ⟨_,_,rfl,by omega,rfl,rfl⟩ SB⟩

theorem takeV_flat (ls : List (List Val)) (k : Nat) (h : k < ls.length) : (ls.take (k+1)).flatten = (ls.take k).flatten++ls[k]:=by rw [List.take_succ_eq_append_getElem h,List.flatten_append,List.flatten_singleton]

set_option maxHeartbeats 1000000 in
theorem concatV_ok (w0 : World) (M : Mem) (Γ : List As) (p : Addr) (us : List Value) (ls : List (List Val)) (hc : CellsK w0 M Γ p us) (hr : RdL M (ls.map fun l=>D.sl l.length 3 (l.flatMap Val.enc)) us) (hl : ls.length≤1000) (hls : ls.flatten.length≤1000000) :
   CallOk Tryd.prog w0 M Γ 34 #[.slice (some p) us.length us.length] (fun u M' Γ'=>∃ a c vs,u = .slice a ls.flatten.length c∧ls.flatten.length≤c∧M' = M∧RdL M (ls.flatten.flatMap Val.enc) vs∧Γ' = .acc (.slice a ls.flatten.length c) 26 3 ls.flatten.length vs::Γ):=by
 have hul : us.length = ls.length:=by rw [hr.1];simp
 have htk : ∀ k,(ls.take k).flatten.length≤1000000:=fun k=>by
   have h:=congrArg (fun x=>(List.flatten x).length) (List.take_append_drop k ls)
   rw [List.flatten_append,List.length_append] at h
   omega
 refine enter (f:=34) Tryd.func34 rfl Tryd.ntmps34 rfl rfl fun w1 hw1=>?_
 refine CW.seq fun K1 hK1=>?_
 refine CW.region ?_
 refine RL.q (Y.assign rfl) rfl ?_
 refine RL.nil ?_
 refine hK1 _ _ _ ?_
 refine CW.kp [0] rfl ?_
 refine CW.seq fun K2 hK2=>?_
 refine CW.region ?_
 refine RL.q (Y.assign rfl) rfl ?_
 refine RL.nil ?_
 refine hK2 _ _ _ ?_
 refine CW.kp [0,3] rfl ?_
 refine CW.seq fun K3 hK3=>?_
 refine CW.seq fun K4 hK4=>?_
 refine CW.region ?_
 refine RL.q (Y.move rfl) rfl ?_
 refine RL.q (Y.len rfl Tryd.underlying56) rfl ?_
 refine RL.q (Y.move rfl) rfl ?_
 refine RL.nil ?_
 refine hK4 _ _ _ ?_
 refine CW.kp [0,3,9,10,11] rfl ?_
 refine CW.block ?_
 -- LOOP 1: live [0,3,9,10,11] changed [3,11]
 refine CW.kp [3,11,0,9,10] rfl ?_
 refine CW.loopF (fun m Lc M1 Γc=>∃ k : Nat,m = us.length - k∧k≤us.length∧Lc = [(3,vint ((ls.take k).flatten.length : Nat)),(11,vint k)]∧Γc = []∧M1 = M) (us.length) [(3,_),(11,_)] _ rfl rfl ⟨0,rfl,Nat.zero_le _,rfl,rfl,rfl⟩ ?_
 rintro m Lc M Γc hs ⟨k,rfl,hk,rfl,rfl,rfl⟩
 refine CW.seq fun K5 hK5=>?_
 refine CW.region ?_
 refine RL.q (Y.lss rfl rfl) rfl ?_
 refine RL.nil ?_
 refine hK5 _ _ _ ?_
 refine CW.kp [0,3,9,10,11,12] rfl ?_
 refine CW.seq fun K6 hK6=>?_
 refine CW.ite rfl (fun h1=>?_) (fun h1=>?_)
 ·have hka : k < us.length:=by omega
  have hkl : k < ls.length:=by omega
  have hrk : Rd M (.sl ls[k].length 3 (ls[k].flatMap Val.enc)) us[k]:=hr.2 k _ _ (by simp [hkl]) (List.getElem?_eq_getElem hka)
  obtain ⟨ak,ck,huk,hck,hlk,_⟩:=hrk.slice
  have hgk : us[k]? = some (.slice ak ls[k].length ck):=by rw [List.getElem?_eq_getElem hka,huk]
  have htk1:=htk k
  have htk2:=htk (k+1)
  rw [List.take_succ_eq_append_getElem hkl,List.flatten_append,List.length_append,List.flatten_singleton] at htk2
  refine CW.skip ?_
  refine hK6 _ _ _ ?_
  refine CW.seq fun K7 hK7=>?_
  refine CW.block ?_
  refine CW.seq fun K8 hK8=>?_
  refine CW.region ?_
  refine RL.q (Y.index k rfl rfl rfl hka slice56 (fun _ _=>rfl)) rfl ?_
  refine RL.q (Y.load (v:=.slice ak ls[k].length ck) rfl flat24 (fun w hw=>by rw [Nat.mul_one];exact (hc.mono (fun _ h=>h.sub SB)) w hw k _ hgk)) rfl ?_
  refine RL.q (Y.assign rfl) rfl ?_
  refine RL.nil ?_
  refine hK8 _ _ _ ?_
  refine CW.kp [0,3,5,9,10,11] rfl ?_
  refine CW.seq fun K9 hK9=>?_
  refine CW.region ?_
  refine RL.q (Y.move rfl) rfl ?_
  refine RL.q (Y.move rfl) rfl ?_
  refine RL.q (Y.len rfl Tryd.underlying24) rfl ?_
  refine RL.q (Y.add rfl rfl OM) rfl ?_
  refine RL.q (Y.assign rfl) rfl ?_
  refine RL.nil ?_
  refine hK9 _ _ _ ?_
  refine CW.kp [0,3,9,10,11] rfl ?_
  refine CW.seq fun K10 hK10=>?_
  refine CW.region ?_
  refine RL.q (Y.move rfl) rfl ?_
  refine RL.q (Y.lss rfl rfl) rfl ?_
  refine RL.nil ?_
  refine hK10 _ _ _ ?_
  refine CW.kp [0,3,9,10,11,20] rfl ?_
  refine CW.ite rfl (fun h2=>absurd h2 OM) (fun h2=>?_)
  refine CW.skip ?_
  refine hK7 _ _ _ ?_
  refine CW.region ?_
  refine RL.q (Y.add rfl rfl OM) rfl ?_
  refine RL.q (Y.move rfl) rfl ?_
  refine RL.nil ?_
  refine ⟨us.length - (k+1),[(3,_),(11,_)],?_,(KP [3,11,0,9,10]),?_⟩
  · omega
  · exact Turn.drop ⟨[],rfl,hs,k+1,rfl,by omega,by rw [takeV_flat ls k hkl,List.length_append] <;> rfl,rfl,rfl⟩ SB
 refine CW.exit ?_
 refine hK3 _ _ _ ?_
 refine CW.seq fun K11 hK11=>?_
 obtain rfl : k = us.length:=by omega
 rw [show ls.take us.length = ls from by rw [hul,List.take_length]]
 refine CW.region ?_
 refine RL.q (Y.move rfl) rfl ?_
 refine RL.call rfl func71 rfl rfl (by exact growV_ok _ _ _ ls.flatten.length hls) ?_
 rintro v24 M _ ⟨a24,c24,rfl,hc24,rfl,rfl⟩
 refine RL.q (Y.assign rfl) rfl ?_
 refine RL.nil ?_
 refine hK11 _ _ _ ?_
 refine CW.kp [0,6] rfl ?_
 refine CW.seq fun K12 hK12=>?_
 refine CW.seq fun K13 hK13=>?_
 refine CW.region ?_
 refine RL.q (Y.move rfl) rfl ?_
 refine RL.q (Y.len rfl Tryd.underlying56) rfl ?_
 refine RL.q (Y.move rfl) rfl ?_
 refine RL.nil ?_
 refine hK13 _ _ _ ?_
 refine CW.kp [6,25,26,27] rfl ?_
 refine CW.block ?_
 -- LOOP 2: live [6,25,26,27] changed [6,27]
 refine CW.kp [6,27,25,26] rfl ?_
 refine CW.front (x:=.acc (.slice a24 0 c24) 26 3 0 []) PK ?_
 refine CW.loopF (fun m Lc M1 Γc=>∃ (k : Nat) (ua : Option Addr) (ca : Nat) (vs : List Value),m = us.length - k∧k≤us.length∧Lc = [(6,.slice ua (ls.take k).flatten.length ca),(27,vint k)]∧Γc = [.acc (.slice ua (ls.take k).flatten.length ca) 26 3 (ls.take k).flatten.length vs]∧M1 = M∧(ls.take k).flatten.length≤ca∧RdL M ((ls.take k).flatten.flatMap Val.enc) vs) us.length [(6,_),(27,_)] [_] rfl rfl ⟨0,a24,c24,[],rfl,Nat.zero_le _,rfl,rfl,rfl,Nat.zero_le _,RdL.nil _⟩ ?_
 rintro m Lc M Γc hs2 ⟨k,ua,ca,vs,rfl,hk,rfl,rfl,rfl,hca,hvr⟩
 refine CW.seq fun K14 hK14=>?_
 refine CW.region ?_
 refine RL.q (Y.lss rfl rfl) rfl ?_
 refine RL.nil ?_
 refine hK14 _ _ _ ?_
 refine CW.kp [6,25,26,27,28] rfl ?_
 refine CW.seq fun K15 hK15=>?_
 refine CW.ite rfl (fun h3=>?_) (fun h3=>?_)
 ·have hka : k < us.length:=by omega
  have hkl : k < ls.length:=by omega
  have hrk : Rd M (.sl ls[k].length 3 (ls[k].flatMap Val.enc)) us[k]:=hr.2 k _ _ (by simp [hkl]) (List.getElem?_eq_getElem hka)
  obtain ⟨ak,ck,huk,hck,hlk,_⟩:=hrk.slice
  have hgk : us[k]? = some (.slice ak ls[k].length ck):=by rw [List.getElem?_eq_getElem hka,huk]
  have htk1:=htk k
  have htk2:=htk (k+1)
  rw [List.take_succ_eq_append_getElem hkl,List.flatten_append,List.length_append,List.flatten_singleton] at htk2
  rw [huk] at hrk
  refine CW.addRd hrk ?_
  refine CW.skip ?_
  refine hK15 _ _ _ ?_
  refine CW.seq fun K16 hK16=>?_
  refine CW.block ?_
  refine CW.seq fun K17 hK17=>?_
  refine CW.region ?_
  refine RL.q (Y.index k rfl rfl rfl hka slice56 (fun _ _=>rfl)) rfl ?_
  refine RL.q (Y.load (v:=.slice ak ls[k].length ck) rfl flat24 (fun w hw=>by rw [Nat.mul_one];exact (hc.mono (fun _ h=>h.sub SB)) w hw k _ hgk)) rfl ?_
  refine RL.q (Y.assign rfl) rfl ?_
  refine RL.nil ?_
  refine hK17 _ _ _ ?_
  refine CW.kp [6,8,25,26,27] rfl ?_
  refine CW.region ?_
  refine RL.q (Y.move rfl) rfl ?_
  refine RL.q (Y.move rfl) rfl ?_
  refine RL.appendRd elem24 rfl rfl PK MM OM (by unfold lim;omega) rfl fun a33 c33 n33 hc33 hn33=>?_
  refine RL.q (Y.assign rfl) rfl ?_
  refine RL.nil ?_
  refine hK16 _ _ _ ?_
  refine CW.kp [6,25,26,27] rfl ?_
  refine CW.region ?_
  refine RL.q (Y.add rfl rfl OM) rfl ?_
  refine RL.q (Y.move rfl) rfl ?_
  refine RL.nil ?_
  have e33 : (ls.take (k+1)).flatten.length = (ls.take k).flatten.length+ls[k].length:=by rw [takeV_flat ls k hkl,List.length_append]
  refine ⟨us.length - (k+1),[(6,_),(27,_)],?_,(KP [6,27,25,26]),?_⟩
  · omega
  · refine Turn.drop (Γ':=[.acc (.slice a33 ((ls.take k).flatten.length+ls[k].length) c33) 26 3 ((ls.take k).flatten.length+ls[k].length) (vs++n33)]++_) ⟨_,rfl,hs2,k+1,a33,c33,vs++n33,rfl,by omega,by rw [e33] <;> rfl,by rw [e33],rfl,by omega,?_⟩ SB
    rw [takeV_flat ls k hkl,List.flatMap_append]
    exact hvr.append hn33
 refine CW.exit ?_
 refine hK12 _ _ _ ?_
 refine CW.seq fun K18 hK18=>?_
 refine CW.region ?_
 refine RL.q (Y.move rfl) rfl ?_
 refine RL.q (Y.assign rfl) rfl ?_
 refine RL.nil ?_
 refine hK18 _ _ _ ?_
 refine CW.kp [2] rfl ?_
 refine CW.ret ?_
 obtain rfl : k = us.length:=by omega
 rw [show ls.take us.length = ls from by rw [hul,List.take_length]] at hca hvr ⊢
 exact ⟨_,rfl,Turn.drop ⟨_,_,vs,rfl,hca,rfl,hvr,rfl⟩ SB⟩
end Go.Proofs.YtanbipbiblikbaaDoor

namespace Xe
open Go
theorem truthV_rd {M : Mem} {p : Prop} [Decidable p] (b : Bool) (h : b = true↔p) : RdL M (truthV p).enc [vint 1,vint (if b = true then 1 else 0),.slice none 0 0]:=by
 unfold truthV
 by_cases hp : p
 ·rw [if_pos hp,if_pos (h.2 hp)]
  exact leaf_rd 1 1
 ·rw [if_neg hp,if_neg (fun hb=>hp (h.1 hb))]
  exact leaf_rd 1 0
def NumsM (M : Mem) : Prop:=∀ k,k < 5→cellM M (adr (some ⟨0,0,none⟩) k) = some (.func (.func (132+k)) #[] #[])
theorem NumsM.mono {M M' : Mem} (h : Sub M M') (hn : NumsM M) : NumsM M':=fun k hk=>cellM_mono h (hn k hk)
end Xe

namespace Go.Proofs.YtanbipbiblikbaaDoor
open Xe

theorem arr70 : arrB Tryd.prog 70 5 40 1 = true:=by kernel_rfl

theorem func132 : funcB Tryd.prog 132 = true:=by kernel_rfl

theorem func133 : funcB Tryd.prog 133 = true:=by kernel_rfl

theorem func134 : funcB Tryd.prog 134 = true:=by kernel_rfl

theorem func136 : funcB Tryd.prog 136 = true:=by kernel_rfl

theorem numF_ok (k : Nat) (hk : k < 5) : funcB Tryd.prog (132+k) = true:=by
 have : k = 0∨k = 1∨k = 2∨k = 3∨k = 4:=by omega
 rcases this with rfl | rfl | rfl | rfl | rfl
 · exact func132
 · exact func133
 · exact func134
 · exact func135
 · exact func136
theorem num_of (k : Nat) (hk : k < 5) (w0 : World) (M : Mem) (Γ : List As) (a b : Int) (ha : InR a) (hb : InR b) : CallOk Tryd.prog w0 M Γ (132+k) #[vint a,vint b] (Is M Γ (vint (numI k a b))):=by
 have : k = 0∨k = 1∨k = 2∨k = 3∨k = 4:=by omega
 rcases this with rfl | rfl | rfl | rfl | rfl
 · exact add_ok w0 M Γ a b ha hb
 · exact sub_ok w0 M Γ a b ha hb
 · exact times_ok w0 M Γ a b ha hb
 · exact divide_ok w0 M Γ a b ha hb
 · exact rest_ok w0 M Γ a b ha hb

set_option maxHeartbeats 2000000 in
theorem op2_ok (w0 : World) (M : Mem) (Γ : List As) (n : Int) (l : List Val) (ul : Value) (r : Val) (hl : Kn w0 M Γ (Rd M (.sl l.length 3 (l.flatMap Val.enc)) ul)) (hnm : NumsM M) (hl2 : l.length = 2) (hz0 : (l[0]'OM).size≤100000) (hz1 : (l[1]'OM).size≤100000) (hr : op2V n (l[0]'OM) (l[1]'OM) = some r) :
   CallOk Tryd.prog w0 M Γ 12 #[vint n,ul] (Gives M Γ fun M' v=>∃ us,v = .agg us.toArray∧RdL M' r.enc us):=by
 refine CallOk.kn hl fun hl=>?_
 obtain ⟨al,cl,rfl,hcl,hliml,hlenl⟩:=hl.slice
 have hk0:=kids_le_size l[0]
 have hk1:=kids_le_size l[1]
 refine enterCell (f:=12) Tryd.func12 rfl Tryd.ntmps12 rfl rfl fun w1 hw1=>?_
 refine CW.addRd hl ?_
 refine CW.seq fun K1 hK1=>?_
 refine CW.region ?_
 refine RL.alloc _ zero26 rfl rfl fun b4=>?_
 refine RL.nil ?_
 refine hK1 _ _ _ ?_
 refine CW.kp [0,1,4] rfl ?_
 refine CW.seq fun K2 hK2=>?_
 refine CW.seq fun K3 hK3=>?_
 refine CW.regionM1 17 (.bool (decide (0≤n∧n < 5))) ?_ ?_
 ·refine RL.q (Y.move rfl) rfl ?_
  refine RL.qs (Y.geq rfl rfl) rfl (fun g8=>?_) (fun g8=>?_)
  ·refine RL.q (Y.move rfl) rfl ?_
   refine RL.qg WG (Y.move rfl) rfl ?_
   refine RL.qgs WG (Y.lss rfl rfl) rfl (fun g11=>?_) (fun g11=>?_)
   ·refine RL.q (Y.pickT rfl rfl) rfl ?_
    refine RL.q (Y.move rfl) rfl ?_
    refine RL.qg WG (Y.move rfl) rfl ?_
    refine RL.qg WG (Y.len rfl Tryd.underlying24) rfl ?_
    refine RL.qg WG (Y.eql rfl rfl) rfl ?_
    refine RL.q (Y.pickT rfl rfl) rfl ?_
    refine RL.nil ?_
    exact ⟨gl rfl (bmerge (by first | omega | (simp;done) | (simp;omega))),(by repeat (first | exact Keep.nil _ | refine Keep.cons _ rfl ?_)),fun _ hw=>hw.sub SB⟩
   refine RL.q (Y.pickT rfl rfl) rfl ?_
   refine RL.q (Y.move rfl) rfl ?_
   refine RL.no WG rfl ?_
   refine RL.no WG rfl ?_
   refine RL.no WG rfl ?_
   refine RL.q (Y.pickF rfl rfl) rfl ?_
   refine RL.nil ?_
   exact ⟨gl rfl (bmerge (by first | omega | (simp;done) | (simp;omega))),(by repeat (first | exact Keep.nil _ | refine Keep.cons _ rfl ?_)),fun _ hw=>hw.sub SB⟩
  refine RL.q (Y.move rfl) rfl ?_
  refine RL.no WG rfl ?_
  refine RL.no WG rfl ?_
  refine RL.q (Y.pickF rfl rfl) rfl ?_
  refine RL.q (Y.move rfl) rfl ?_
  refine RL.no WG rfl ?_
  refine RL.no WG rfl ?_
  refine RL.no WG rfl ?_
  refine RL.q (Y.pickF rfl rfl) rfl ?_
  refine RL.nil ?_
  exact ⟨gl rfl (bmerge (by first | omega | (simp;done) | (simp;omega))),(by repeat (first | exact Keep.nil _ | refine Keep.cons _ rfl ?_)),fun _ hw=>hw.sub SB⟩
 refine hK3 _ _ _ ?_
 refine CW.ite rfl (fun h1=>?_) (fun h1=>?_)
 ·obtain ⟨kk,rfl⟩:=Int.eq_ofNat_of_zero_le (show 0≤n by omega)
  have hkk : kk < 5:=by omega
  rw [op2V,if_pos ⟨by omega,by omega⟩] at hr
  obtain ⟨hin,hr⟩ : (InR l[0].n∧InR l[1].n)∧some (Val.mk 0 (numI kk l[0].n l[1].n) []) = some r:=by
    split at hr
    · exact ⟨by assumption,hr⟩
    · cases hr
  obtain rfl:=Option.some.inj hr
  refine CW.seq fun K4 hK4=>?_
  refine CW.regionHP mix (x:=.own _ _ _) PK ?_
  refine HL.take 0 rfl KR KR KR rfl (Y.move rfl) rfl ?_
  refine HL.take 1 rfl KR KR KR rfl (Y.indexArr (a:=some ⟨0,0,none⟩) (q:=0) kk rfl rfl rfl hkk arr70) rfl ?_
  refine HL.take 2 rfl KR KR KR rfl (Y.loadC rfl (by simpa using hnm kk hkk) flat40) rfl ?_
  refine HL.take 3 rfl KR KR KR rfl (Y.move rfl) rfl ?_
  refine HL.take 4 rfl KR KR KR rfl (Y.index 0 rfl rfl rfl AO slice24 SM) rfl ?_
  refine HL.take 5 rfl KR KR KR rfl (Y.field rfl field26_1) rfl ?_
  first | refine HL.take 6 rfl KR KR KR rfl (Y.loadRd rfl MM (flat_get Val.enc_len _ _ _ (List.getElem?_eq_getElem AO) _ _ (by rw [Val.enc_eq] <;> rfl)) flat3) rfl ?_ | refine HL.loadSl 6 rfl KR KR KR rfl rfl MM (flat_get Val.enc_len _ _ _ (List.getElem?_eq_getElem AO) _ _ (by rw [Val.enc_eq] <;> rfl)) flat3 rfl fun a24 c24 hc24 hl24=>?_
  refine HL.take 7 rfl KR KR KR rfl (Y.move rfl) rfl ?_
  refine HL.take 8 rfl KR KR KR rfl (Y.index 1 rfl rfl rfl AO slice24 SM) rfl ?_
  refine HL.take 9 rfl KR KR KR rfl (Y.field rfl field26_1) rfl ?_
  first | refine HL.take 10 rfl KR KR KR rfl (Y.loadRd rfl MM (flat_get Val.enc_len _ _ _ (List.getElem?_eq_getElem AO) _ _ (by rw [Val.enc_eq] <;> rfl)) flat3) rfl ?_ | refine HL.loadSl 10 rfl KR KR KR rfl rfl MM (flat_get Val.enc_len _ _ _ (List.getElem?_eq_getElem AO) _ _ (by rw [Val.enc_eq] <;> rfl)) flat3 rfl fun a28 c28 hc28 hl28=>?_
  refine HL.step 11 rfl KR ?_
  refine RL.callfv rfl (numF_ok kk hkk) rfl rfl rfl (by simpa using num_of kk hkk _ _ _ l[0].n l[1].n hin.1 hin.2) ?_
  refine RL.nil ⟨keep_same SB,?_⟩
  refine HL.take 12 rfl KR KR KR rfl (Y.build [_,_,_] rfl zero26 places26 (by rfl)) rfl ?_
  refine HL.step 13 rfl KR ?_
  first | refine RL.storeRds 3 rfl rfl RP MM EL (by first | exact Kn.lenRds MM EL | exact Kn.lenLit rfl) size26 ?_ | refine RL.storeAgg _ rfl rfl RP (by rfl) (by first | (simp;done) | simp [IdT.vals]) (by first | (simp [Value.oneCell'];done) | simp [Value.oneCell',IdT.vals]) size26 ?_
  refine RL.nil ⟨keep_same SB,?_⟩
  refine HL.done KR ?_
  refine hK4 _ _ _ ?_
  refine CW.kp [4] rfl ?_
  refine CW.ret ?_
  refine CellAt.mk rfl MM (by rfl) agg26 (Turn.drop ⟨Sub.refl _,rfl,_,rfl,?_⟩ SB)
  exact leaf_rd _ _
 refine CW.skip ?_
 refine hK2 _ _ _ ?_
 refine CW.seq fun K5 hK5=>?_
 refine CW.block ?_
 refine CW.seq fun K6 hK6=>?_
 refine CW.regionM1 31 (.bool (decide (n = 9∧l.length = 1))) ?_ ?_
 ·refine RL.q (Y.move rfl) rfl ?_
  refine RL.qs (Y.eql rfl rfl) rfl (fun g33=>?_) (fun g33=>?_)
  ·refine RL.q (Y.move rfl) rfl ?_
   refine RL.qg WG (Y.move rfl) rfl ?_
   refine RL.qg WG (Y.len rfl Tryd.underlying24) rfl ?_
   refine RL.qg WG (Y.eql rfl rfl) rfl ?_
   refine RL.q (Y.pickT rfl rfl) rfl ?_
   refine RL.q (Y.assign rfl) rfl ?_
   refine RL.nil ?_
   exact ⟨gl rfl (bmerge (by first | omega | (simp;done) | (simp;omega))),(by repeat (first | exact Keep.nil _ | refine Keep.cons _ rfl ?_)),fun _ hw=>hw.sub SB⟩
  refine RL.q (Y.move rfl) rfl ?_
  refine RL.no WG rfl ?_
  refine RL.no WG rfl ?_
  refine RL.no WG rfl ?_
  refine RL.q (Y.pickF rfl rfl) rfl ?_
  refine RL.q (Y.assign rfl) rfl ?_
  refine RL.nil ?_
  exact ⟨gl rfl (bmerge (by first | omega | (simp;done) | (simp;omega))),(by repeat (first | exact Keep.nil _ | refine Keep.cons _ rfl ?_)),fun _ hw=>hw.sub SB⟩
 refine hK6 _ _ _ ?_
 refine CW.ite rfl (fun h2=>absurd h2 OM) (fun h2=>?_)
 refine CW.seq fun K7 hK7=>?_
 refine CW.regionM1 45 (.bool (decide (n = 11∧l.length = 1))) ?_ ?_
 ·refine RL.q (Y.move rfl) rfl ?_
  refine RL.qs (Y.eql rfl rfl) rfl (fun g47=>?_) (fun g47=>?_)
  ·refine RL.q (Y.move rfl) rfl ?_
   refine RL.qg WG (Y.move rfl) rfl ?_
   refine RL.qg WG (Y.len rfl Tryd.underlying24) rfl ?_
   refine RL.qg WG (Y.eql rfl rfl) rfl ?_
   refine RL.q (Y.pickT rfl rfl) rfl ?_
   refine RL.q (Y.assign rfl) rfl ?_
   refine RL.nil ?_
   exact ⟨gl rfl (bmerge (by first | omega | (simp;done) | (simp;omega))),(by repeat (first | exact Keep.nil _ | refine Keep.cons _ rfl ?_)),fun _ hw=>hw.sub SB⟩
  refine RL.q (Y.move rfl) rfl ?_
  refine RL.no WG rfl ?_
  refine RL.no WG rfl ?_
  refine RL.no WG rfl ?_
  refine RL.q (Y.pickF rfl rfl) rfl ?_
  refine RL.q (Y.assign rfl) rfl ?_
  refine RL.nil ?_
  exact ⟨gl rfl (bmerge (by first | omega | (simp;done) | (simp;omega))),(by repeat (first | exact Keep.nil _ | refine Keep.cons _ rfl ?_)),fun _ hw=>hw.sub SB⟩
 refine hK7 _ _ _ ?_
 refine CW.ite rfl (fun h3=>absurd h3 OM) (fun h3=>?_)
 refine CW.seq fun K8 hK8=>?_
 refine CW.region ?_
 refine RL.q (Y.move rfl) rfl ?_
 refine RL.q (Y.len rfl Tryd.underlying24) rfl ?_
 refine RL.q (Y.neq rfl rfl) rfl ?_
 refine RL.q (Y.assign rfl) rfl ?_
 refine RL.nil ?_
 refine hK8 _ _ _ ?_
 refine CW.kp [0,1,4,59] rfl ?_
 refine CW.ite rfl (fun h4=>absurd h4 OM) (fun h4=>?_)
 refine CW.skip ?_
 refine hK5 _ _ _ ?_
 refine CW.seq fun K9 hK9=>?_
 refine CW.regionH mix _ _ (fun _ hw=>hw) ?_
 refine HL.take 0 rfl KR KR KR rfl (Y.move rfl) rfl ?_
 refine HL.take 1 rfl KR KR KR rfl (Y.index 0 rfl rfl rfl AO slice24 SM) rfl ?_
 refine HL.loadAgg 2 rfl KR KR KR rfl rfl MM (Eq.trans (flat_take Val.enc_len _ _ _ (List.getElem?_eq_getElem AO)) (Val.enc_eq _)) (by rfl) agg26 rfl fun us66 hul66 hur66=>?_
 refine HL.take 3 rfl KR KR KR rfl (Y.move rfl) rfl ?_
 refine HL.take 4 rfl KR KR KR rfl (Y.index 1 rfl rfl rfl AO slice24 SM) rfl ?_
 refine HL.loadAgg 5 rfl KR KR KR rfl rfl MM (Eq.trans (flat_take Val.enc_len _ _ _ (List.getElem?_eq_getElem AO)) (Val.enc_eq _)) (by rfl) agg26 rfl fun us69 hul69 hur69=>?_
 refine HL.step2 6 7 rfl rfl KR ?_ ?_
 ·refine RL.alloc _ zero26 rfl rfl fun b5=>?_
  refine RL.nil ⟨keep_same SB,?_⟩
  refine HL.step 7 rfl KR ?_
  refine RL.alloc _ zero26 rfl rfl fun b6=>?_
  refine RL.nil ⟨keep_same SB,?_⟩
  refine HL.step 8 rfl KR ?_
  first | refine RL.storeRds 3 rfl rfl RP MM EL (by first | exact Kn.lenRds MM EL | exact Kn.lenLit rfl) size26 ?_ | refine RL.storeAgg _ rfl rfl RP (by rfl) (by first | (simp;done) | simp [IdT.vals]) (by first | (simp [Value.oneCell'];done) | simp [Value.oneCell',IdT.vals]) size26 ?_
  refine RL.nil ⟨keep_same SB,?_⟩
  refine HL.step 9 rfl KR ?_
  first | refine RL.storeRds 3 rfl rfl RP MM EL (by first | exact Kn.lenRds MM EL | exact Kn.lenLit rfl) size26 ?_ | refine RL.storeAgg _ rfl rfl RP (by rfl) (by first | (simp;done) | simp [IdT.vals]) (by first | (simp [Value.oneCell'];done) | simp [Value.oneCell',IdT.vals]) size26 ?_
  refine RL.nil ⟨keep_same SB,?_⟩
  refine HL.done KR ?_
  refine hK9 _ _ _ ?_
  refine CW.kp [0,4,5,6] rfl ?_
  refine CW.seq fun K10 hK10=>?_
  refine CW.seq fun K11 hK11=>?_
  refine CW.region ?_
  refine RL.q (Y.move rfl) rfl ?_
  refine RL.nil ?_
  refine hK11 _ _ _ ?_
  refine CW.kp [4,5,6,70] rfl ?_
  refine CW.block ?_
  refine CW.seq fun K12 hK12=>?_
  refine CW.region ?_
  refine RL.q (Y.eql rfl rfl) rfl ?_
  refine RL.q (Y.assign rfl) rfl ?_
  refine RL.nil ?_
  refine hK12 _ _ _ ?_
  refine CW.kp [4,5,6,70,71] rfl ?_
  refine CW.ite rfl (fun h5=>?_) (fun h5=>?_)
  ·refine CW.seq fun K13 hK13=>?_
   refine CW.region ?_
   refine RL.q (Y.field rfl field26_1) rfl ?_
   first | refine RL.q (Y.loadOwnV rfl MM MM (by rfl) flat3) rfl ?_ | refine RL.q (Y.loadOwn rfl MM (by rfl) flat3) rfl ?_ | refine RL.loadOwnSl rfl rfl MM MM (by rfl) flat3 rfl fun a74 c74 hu74 hc74 hl74=>?_
   refine RL.q (Y.field rfl field26_1) rfl ?_
   first | refine RL.q (Y.loadOwnV rfl MM MM (by rfl) flat3) rfl ?_ | refine RL.q (Y.loadOwn rfl MM (by rfl) flat3) rfl ?_ | refine RL.loadOwnSl rfl rfl MM MM (by rfl) flat3 rfl fun a76 c76 hu76 hc76 hl76=>?_
   refine RL.q (Y.lss rfl rfl) rfl ?_
   refine RL.callv rfl func31 rfl rfl (by exact etruth_ok _ _ _ _) ?_
   first | refine RL.storeRds 3 rfl rfl RP MM EL (by first | exact Kn.lenRds MM EL | exact Kn.lenLit rfl) size26 ?_ | refine RL.storeAgg _ rfl rfl RP (by rfl) (by first | (simp;done) | simp [IdT.vals]) (by first | (simp [Value.oneCell'];done) | simp [Value.oneCell',IdT.vals]) size26 ?_
   refine RL.nil ?_
   refine hK13 _ _ _ ?_
   refine CW.kp [4] rfl ?_
   refine CW.ret ?_
   rw [op2V,if_neg h1,if_pos h5] at hr
   obtain rfl:=Option.some.inj hr
   refine CellAt.mk rfl MM (by rfl) agg26 (Turn.drop ⟨Sub.refl _,rfl,_,rfl,?_⟩ SB)
   exact truthV_rd _ (by first | exact decide_eq_true_iff | (simp only [decide_eq_true_eq];omega) | (simp only [true_iff];omega) | (simp only [Bool.false_eq_true,false_iff];omega))
  refine CW.seq fun K14 hK14=>?_
  refine CW.region ?_
  refine RL.q (Y.eql rfl rfl) rfl ?_
  refine RL.q (Y.assign rfl) rfl ?_
  refine RL.nil ?_
  refine hK14 _ _ _ ?_
  refine CW.kp [4,5,6,70,79] rfl ?_
  refine CW.ite rfl (fun h6=>?_) (fun h6=>?_)
  ·refine CW.seq fun K15 hK15=>?_
   refine CW.region ?_
   first | refine RL.q (Y.loadAllR rfl MM MM EL agg26) rfl ?_ | refine RL.q (Y.loadAll rfl MM (by rfl) agg26) rfl ?_ | refine RL.loadPart rfl rfl MM MM (by rfl) (by rfl) agg26 rfl fun us81 hul81 hur81=>?_
   first | refine RL.q (Y.loadAllR rfl MM MM EL agg26) rfl ?_ | refine RL.q (Y.loadAll rfl MM (by rfl) agg26) rfl ?_ | refine RL.loadPart rfl rfl MM MM (by rfl) (by rfl) agg26 rfl fun us82 hul82 hur82=>?_
   refine RL.callv rfl func32 rfl rfl (by exact cmpV_ok _ _ _ _ _ _ _ _ rfl KK KK) ?_
   refine RL.q (Y.eql rfl rfl) rfl ?_
   refine RL.callv rfl func31 rfl rfl (by exact etruth_ok _ _ _ _) ?_
   first | refine RL.storeRds 3 rfl rfl RP MM EL (by first | exact Kn.lenRds MM EL | exact Kn.lenLit rfl) size26 ?_ | refine RL.storeAgg _ rfl rfl RP (by rfl) (by first | (simp;done) | simp [IdT.vals]) (by first | (simp [Value.oneCell'];done) | simp [Value.oneCell',IdT.vals]) size26 ?_
   refine RL.nil ?_
   refine hK15 _ _ _ ?_
   refine CW.kp [4] rfl ?_
   refine CW.ret ?_
   rw [op2V,if_neg h1,if_neg h5,if_pos h6] at hr
   obtain rfl:=Option.some.inj hr
   refine CellAt.mk rfl MM (by rfl) agg26 (Turn.drop ⟨Sub.refl _,rfl,_,rfl,?_⟩ SB)
   exact truthV_rd _ (by first | exact decide_eq_true_iff | (simp only [decide_eq_true_eq];omega) | (simp only [true_iff];omega) | (simp only [Bool.false_eq_true,false_iff];omega))
  refine CW.seq fun K16 hK16=>?_
  refine CW.region ?_
  refine RL.q (Y.eql rfl rfl) rfl ?_
  refine RL.q (Y.assign rfl) rfl ?_
  refine RL.nil ?_
  refine hK16 _ _ _ ?_
  refine CW.kp [4,5,6,70,86] rfl ?_
  refine CW.ite rfl (fun h7=>?_) (fun h7=>?_)
  ·refine CW.seq fun K17 hK17=>?_
   refine CW.region ?_
   refine RL.q (Y.field rfl field26_1) rfl ?_
   first | refine RL.q (Y.loadOwnV rfl MM MM (by rfl) flat3) rfl ?_ | refine RL.q (Y.loadOwn rfl MM (by rfl) flat3) rfl ?_ | refine RL.loadOwnSl rfl rfl MM MM (by rfl) flat3 rfl fun a89 c89 hu89 hc89 hl89=>?_
   refine RL.qs (Y.neq rfl rfl) rfl (fun g90=>?_) (fun g90=>?_)
   ·refine RL.q (Y.move rfl) rfl ?_
    refine RL.qg WG (Y.field rfl field26_1) rfl ?_
    first | refine RL.qg WG (Y.loadOwnV rfl MM MM (by rfl) flat3) rfl ?_ | refine RL.qg WG (Y.loadOwn rfl MM (by rfl) flat3) rfl ?_ | refine RL.loadOwnSl WG rfl MM MM (by rfl) flat3 rfl fun a93 c93 hu93 hc93 hl93=>?_
    refine RL.qg WG (Y.neq rfl rfl) rfl ?_
    refine RL.q (Y.pickT rfl rfl) rfl ?_
    refine RL.callv rfl func31 rfl rfl (by exact etruth_ok _ _ _ _) ?_
    first | refine RL.storeRds 3 rfl rfl RP MM EL (by first | exact Kn.lenRds MM EL | exact Kn.lenLit rfl) size26 ?_ | refine RL.storeAgg _ rfl rfl RP (by rfl) (by first | (simp;done) | simp [IdT.vals]) (by first | (simp [Value.oneCell'];done) | simp [Value.oneCell',IdT.vals]) size26 ?_
    refine RL.nil ?_
    refine hK17 _ _ _ ?_
    refine CW.kp [4] rfl ?_
    refine CW.ret ?_
    rw [op2V,if_neg h1,if_neg h5,if_neg h6,if_pos h7] at hr
    obtain rfl:=Option.some.inj hr
    refine CellAt.mk rfl MM (by rfl) agg26 (Turn.drop ⟨Sub.refl _,rfl,_,rfl,?_⟩ SB)
    exact truthV_rd _ (by first | exact decide_eq_true_iff | (simp only [decide_eq_true_eq];omega) | (simp only [true_iff];omega) | (simp only [Bool.false_eq_true,false_iff];omega))
   refine RL.q (Y.move rfl) rfl ?_
   refine RL.no WG rfl ?_
   refine RL.no WG rfl ?_
   refine RL.no WG rfl ?_
   refine RL.q (Y.pickF rfl rfl) rfl ?_
   refine RL.callv rfl func31 rfl rfl (by exact etruth_ok _ _ _ _) ?_
   first | refine RL.storeRds 3 rfl rfl RP MM EL (by first | exact Kn.lenRds MM EL | exact Kn.lenLit rfl) size26 ?_ | refine RL.storeAgg _ rfl rfl RP (by rfl) (by first | (simp;done) | simp [IdT.vals]) (by first | (simp [Value.oneCell'];done) | simp [Value.oneCell',IdT.vals]) size26 ?_
   refine RL.nil ?_
   refine hK17 _ _ _ ?_
   refine CW.kp [4] rfl ?_
   refine CW.ret ?_
   rw [op2V,if_neg h1,if_neg h5,if_neg h6,if_pos h7] at hr
   obtain rfl:=Option.some.inj hr
   refine CellAt.mk rfl MM (by rfl) agg26 (Turn.drop ⟨Sub.refl _,rfl,_,rfl,?_⟩ SB)
   exact truthV_rd _ (by first | exact decide_eq_true_iff | (simp only [decide_eq_true_eq];omega) | (simp only [true_iff];omega) | (simp only [Bool.false_eq_true,false_iff];omega))
  refine CW.seq fun K18 hK18=>?_
  refine CW.region ?_
  refine RL.q (Y.eql rfl rfl) rfl ?_
  refine RL.q (Y.assign rfl) rfl ?_
  refine RL.nil ?_
  refine hK18 _ _ _ ?_
  refine CW.kp [4,5,6,70,97] rfl ?_
  refine CW.ite rfl (fun h8=>?_) (fun h8=>?_)
  ·refine CW.seq fun K19 hK19=>?_
   refine CW.region ?_
   refine RL.q (Y.field rfl field26_1) rfl ?_
   first | refine RL.q (Y.loadOwnV rfl MM MM (by rfl) flat3) rfl ?_ | refine RL.q (Y.loadOwn rfl MM (by rfl) flat3) rfl ?_ | refine RL.loadOwnSl rfl rfl MM MM (by rfl) flat3 rfl fun a100 c100 hu100 hc100 hl100=>?_
   refine RL.qs (Y.neq rfl rfl) rfl (fun g101=>?_) (fun g101=>?_)
   ·refine RL.q (Y.move rfl) rfl ?_
    refine RL.no WG rfl ?_
    refine RL.no WG rfl ?_
    refine RL.no WG rfl ?_
    refine RL.q (Y.pickT rfl rfl) rfl ?_
    refine RL.callv rfl func31 rfl rfl (by exact etruth_ok _ _ _ _) ?_
    first | refine RL.storeRds 3 rfl rfl RP MM EL (by first | exact Kn.lenRds MM EL | exact Kn.lenLit rfl) size26 ?_ | refine RL.storeAgg _ rfl rfl RP (by rfl) (by first | (simp;done) | simp [IdT.vals]) (by first | (simp [Value.oneCell'];done) | simp [Value.oneCell',IdT.vals]) size26 ?_
    refine RL.nil ?_
    refine hK19 _ _ _ ?_
    refine CW.kp [4] rfl ?_
    refine CW.ret ?_
    rw [op2V,if_neg h1,if_neg h5,if_neg h6,if_neg h7,if_pos h8] at hr
    obtain rfl:=Option.some.inj hr
    refine CellAt.mk rfl MM (by rfl) agg26 (Turn.drop ⟨Sub.refl _,rfl,_,rfl,?_⟩ SB)
    exact truthV_rd _ (by first | exact decide_eq_true_iff | (simp only [decide_eq_true_eq];omega) | (simp only [true_iff];omega) | (simp only [Bool.false_eq_true,false_iff];omega))
   refine RL.q (Y.move rfl) rfl ?_
   refine RL.qg WG (Y.field rfl field26_1) rfl ?_
   first | refine RL.qg WG (Y.loadOwnV rfl MM MM (by rfl) flat3) rfl ?_ | refine RL.qg WG (Y.loadOwn rfl MM (by rfl) flat3) rfl ?_ | refine RL.loadOwnSl WG rfl MM MM (by rfl) flat3 rfl fun a104 c104 hu104 hc104 hl104=>?_
   refine RL.qg WG (Y.neq rfl rfl) rfl ?_
   refine RL.q (Y.pickF rfl rfl) rfl ?_
   refine RL.callv rfl func31 rfl rfl (by exact etruth_ok _ _ _ _) ?_
   first | refine RL.storeRds 3 rfl rfl RP MM EL (by first | exact Kn.lenRds MM EL | exact Kn.lenLit rfl) size26 ?_ | refine RL.storeAgg _ rfl rfl RP (by rfl) (by first | (simp;done) | simp [IdT.vals]) (by first | (simp [Value.oneCell'];done) | simp [Value.oneCell',IdT.vals]) size26 ?_
   refine RL.nil ?_
   refine hK19 _ _ _ ?_
   refine CW.kp [4] rfl ?_
   refine CW.ret ?_
   rw [op2V,if_neg h1,if_neg h5,if_neg h6,if_neg h7,if_pos h8] at hr
   obtain rfl:=Option.some.inj hr
   refine CellAt.mk rfl MM (by rfl) agg26 (Turn.drop ⟨Sub.refl _,rfl,_,rfl,?_⟩ SB)
   exact truthV_rd _ (by first | exact decide_eq_true_iff | (simp only [decide_eq_true_eq];omega) | (simp only [true_iff];omega) | (simp only [Bool.false_eq_true,false_iff];omega))
  refine CW.seq fun K20 hK20=>?_
  refine CW.region ?_
  refine RL.q (Y.eql rfl rfl) rfl ?_
  refine RL.q (Y.assign rfl) rfl ?_
  refine RL.nil ?_
  refine hK20 _ _ _ ?_
  refine CW.kp [4,5,6,108] rfl ?_
  refine CW.ite rfl (fun h9=>?_) (fun h9=>?_)
  ·refine CW.seq fun K21 hK21=>?_
   refine CW.region ?_
   refine RL.q (Y.field rfl field26_2) rfl ?_
   first | refine RL.q (Y.loadOwnV rfl MM MM (by rfl) flat24) rfl ?_ | refine RL.q (Y.loadOwn rfl MM (by rfl) flat24) rfl ?_ | refine RL.loadOwnSl rfl rfl MM MM (by rfl) flat24 rfl fun a111 c111 hu111 hc111 hl111=>?_
   refine RL.q (Y.field rfl field26_2) rfl ?_
   first | refine RL.q (Y.loadOwnV rfl MM MM (by rfl) flat24) rfl ?_ | refine RL.q (Y.loadOwn rfl MM (by rfl) flat24) rfl ?_ | refine RL.loadOwnSl rfl rfl MM MM (by rfl) flat24 rfl fun a113 c113 hu113 hc113 hl113=>?_
   refine RL.buildSlice [.slice a111 l[0].kids.length c111,.slice a113 l[1].kids.length c113] elem56 rfl (by decide) (fill2 rfl rfl rfl rfl) rfl fun b114=>?_
   obtain ⟨js,hjs⟩ : ∃ js,js = l[0].kids++l[1].kids:=⟨_,rfl⟩
   have hjf : [l[0].kids,l[1].kids].flatten = js:=by simp [hjs]
   have hjl : js.length = l[0].kids.length+l[1].kids.length:=by rw [hjs,List.length_append]
   refine RL.call rfl func34 rfl rfl (by exact concatV_ok _ _ _ _ [.slice a111 l[0].kids.length c111,.slice a113 l[1].kids.length c113] [l[0].kids,l[1].kids] (CellsK.own MM) (RdL.cons (hur66.2 2 _ _ rfl hu111) (RdL.cons (hur69.2 2 _ _ rfl hu113) (RdL.nil _))) (by simp) (by rw [hjf];omega)) ?_
   rintro v115 M _ ⟨a115,c115,vs,rfl,hc115,rfl,hvs,rfl⟩
   rw [hjf] at hc115 hvs ⊢
   refine RL.sealAcc (u:=.slice a115 js.length c115) PK hvs (by unfold lim;omega) fun M3 a3 c3 hs3 e3 hc3 hr3=>?_
   injection e3 with e3a _ e3c
   subst e3a e3c
   refine RL.call rfl func33 rfl rfl (by exact copies_ok 100000 _ _ _ js _ (fun v hv=>by rw [hjs] at hv;rcases List.mem_append.1 hv with h | h <;> (have:=Val.size_kid h;omega)) OM OM (by exact Kn.rd MM)) ?_
   rintro v116 M116 _ ⟨hs116,rfl,hr116⟩
   obtain ⟨a116,c116,rfl,hc116,hl116,_⟩:=hr116.slice
   refine RL.addRd hr116 ?_
   refine RL.q (Y.build [_,_,_] rfl zero26 places26 (by rfl)) rfl ?_
   first | refine RL.storeRds 3 rfl rfl RP MM EL (by first | exact Kn.lenRds MM EL | exact Kn.lenLit rfl) size26 ?_ | refine RL.storeAgg _ rfl rfl RP (by rfl) (by first | (simp;done) | simp [IdT.vals]) (by first | (simp [Value.oneCell'];done) | simp [Value.oneCell',IdT.vals]) size26 ?_
   refine RL.nil ?_
   refine hK21 _ _ _ ?_
   refine CW.kp [4] rfl ?_
   refine CW.ret ?_
   rw [op2V,if_neg h1,if_neg h5,if_neg h6,if_neg h7,if_neg h8,if_pos h9,←hjs] at hr
   obtain rfl:=Option.some.inj hr
   exact CellAt.mk rfl MM (by rfl) agg26 (Turn.drop ⟨hs3.trans hs116,rfl,_,rfl,node_rd 4 0 js hr116⟩ SB)
  refine CW.skip ?_
  refine hK10 _ _ _ ?_
  refine CW.seq fun K22 hK22=>?_
  refine CW.region ?_
  refine RL.q (Y.build [_,_,_] rfl zero26 places26 (by rfl)) rfl ?_
  first | refine RL.storeRds 3 rfl rfl RP MM EL (by first | exact Kn.lenRds MM EL | exact Kn.lenLit rfl) size26 ?_ | refine RL.storeAgg _ rfl rfl RP (by rfl) (by first | (simp;done) | simp [IdT.vals]) (by first | (simp [Value.oneCell'];done) | simp [Value.oneCell',IdT.vals]) size26 ?_
  refine RL.nil ?_
  refine hK22 _ _ _ ?_
  refine CW.kp [4] rfl ?_
  refine CW.ret ?_
  rw [op2V,if_neg h1,if_neg h5,if_neg h6,if_neg h7,if_neg h8,if_neg h9] at hr
  obtain rfl:=Option.some.inj hr
  refine CellAt.mk rfl MM (by rfl) agg26 (Turn.drop ⟨Sub.refl _,rfl,_,rfl,?_⟩ SB)
  exact leaf_rd 0 0
 refine RL.alloc _ zero26 rfl rfl fun b6=>?_
 refine RL.nil ⟨keep_same SB,?_⟩
 refine HL.step 6 rfl KR ?_
 refine RL.alloc _ zero26 rfl rfl fun b5=>?_
 refine RL.nil ⟨keep_same SB,?_⟩
 refine HL.step 8 rfl KR ?_
 first | refine RL.storeRds 3 rfl rfl RP MM EL (by first | exact Kn.lenRds MM EL | exact Kn.lenLit rfl) size26 ?_ | refine RL.storeAgg _ rfl rfl RP (by rfl) (by first | (simp;done) | simp [IdT.vals]) (by first | (simp [Value.oneCell'];done) | simp [Value.oneCell',IdT.vals]) size26 ?_
 refine RL.nil ⟨keep_same SB,?_⟩
 refine HL.step 9 rfl KR ?_
 first | refine RL.storeRds 3 rfl rfl RP MM EL (by first | exact Kn.lenRds MM EL | exact Kn.lenLit rfl) size26 ?_ | refine RL.storeAgg _ rfl rfl RP (by rfl) (by first | (simp;done) | simp [IdT.vals]) (by first | (simp [Value.oneCell'];done) | simp [Value.oneCell',IdT.vals]) size26 ?_
 refine RL.nil ⟨keep_same SB,?_⟩
 refine HL.done KR ?_
 refine hK9 _ _ _ ?_
 refine CW.kp [0,4,5,6] rfl ?_
 refine CW.seq fun K23 hK23=>?_
 refine CW.seq fun K24 hK24=>?_
 refine CW.region ?_
 refine RL.q (Y.move rfl) rfl ?_
 refine RL.nil ?_
 refine hK24 _ _ _ ?_
 refine CW.kp [4,5,6,70] rfl ?_
 refine CW.block ?_
 refine CW.seq fun K25 hK25=>?_
 refine CW.region ?_
 refine RL.q (Y.eql rfl rfl) rfl ?_
 refine RL.q (Y.assign rfl) rfl ?_
 refine RL.nil ?_
 refine hK25 _ _ _ ?_
 refine CW.kp [4,5,6,70,71] rfl ?_
 refine CW.ite rfl (fun h5=>?_) (fun h5=>?_)
 ·refine CW.seq fun K26 hK26=>?_
  refine CW.region ?_
  refine RL.q (Y.field rfl field26_1) rfl ?_
  first | refine RL.q (Y.loadOwnV rfl MM MM (by rfl) flat3) rfl ?_ | refine RL.q (Y.loadOwn rfl MM (by rfl) flat3) rfl ?_ | refine RL.loadOwnSl rfl rfl MM MM (by rfl) flat3 rfl fun a74 c74 hu74 hc74 hl74=>?_
  refine RL.q (Y.field rfl field26_1) rfl ?_
  first | refine RL.q (Y.loadOwnV rfl MM MM (by rfl) flat3) rfl ?_ | refine RL.q (Y.loadOwn rfl MM (by rfl) flat3) rfl ?_ | refine RL.loadOwnSl rfl rfl MM MM (by rfl) flat3 rfl fun a76 c76 hu76 hc76 hl76=>?_
  refine RL.q (Y.lss rfl rfl) rfl ?_
  refine RL.callv rfl func31 rfl rfl (by exact etruth_ok _ _ _ _) ?_
  first | refine RL.storeRds 3 rfl rfl RP MM EL (by first | exact Kn.lenRds MM EL | exact Kn.lenLit rfl) size26 ?_ | refine RL.storeAgg _ rfl rfl RP (by rfl) (by first | (simp;done) | simp [IdT.vals]) (by first | (simp [Value.oneCell'];done) | simp [Value.oneCell',IdT.vals]) size26 ?_
  refine RL.nil ?_
  refine hK26 _ _ _ ?_
  refine CW.kp [4] rfl ?_
  refine CW.ret ?_
  rw [op2V,if_neg h1,if_pos h5] at hr
  obtain rfl:=Option.some.inj hr
  refine CellAt.mk rfl MM (by rfl) agg26 (Turn.drop ⟨Sub.refl _,rfl,_,rfl,?_⟩ SB)
  exact truthV_rd _ (by first | exact decide_eq_true_iff | (simp only [decide_eq_true_eq];omega) | (simp only [true_iff];omega) | (simp only [Bool.false_eq_true,false_iff];omega))
 refine CW.seq fun K27 hK27=>?_
 refine CW.region ?_
 refine RL.q (Y.eql rfl rfl) rfl ?_
 refine RL.q (Y.assign rfl) rfl ?_
 refine RL.nil ?_
 refine hK27 _ _ _ ?_
 refine CW.kp [4,5,6,70,79] rfl ?_
 refine CW.ite rfl (fun h6=>?_) (fun h6=>?_)
 ·refine CW.seq fun K28 hK28=>?_
  refine CW.region ?_
  first | refine RL.q (Y.loadAllR rfl MM MM EL agg26) rfl ?_ | refine RL.q (Y.loadAll rfl MM (by rfl) agg26) rfl ?_ | refine RL.loadPart rfl rfl MM MM (by rfl) (by rfl) agg26 rfl fun us81 hul81 hur81=>?_
  first | refine RL.q (Y.loadAllR rfl MM MM EL agg26) rfl ?_ | refine RL.q (Y.loadAll rfl MM (by rfl) agg26) rfl ?_ | refine RL.loadPart rfl rfl MM MM (by rfl) (by rfl) agg26 rfl fun us82 hul82 hur82=>?_
  refine RL.callv rfl func32 rfl rfl (by exact cmpV_ok _ _ _ _ _ _ _ _ rfl KK KK) ?_
  refine RL.q (Y.eql rfl rfl) rfl ?_
  refine RL.callv rfl func31 rfl rfl (by exact etruth_ok _ _ _ _) ?_
  first | refine RL.storeRds 3 rfl rfl RP MM EL (by first | exact Kn.lenRds MM EL | exact Kn.lenLit rfl) size26 ?_ | refine RL.storeAgg _ rfl rfl RP (by rfl) (by first | (simp;done) | simp [IdT.vals]) (by first | (simp [Value.oneCell'];done) | simp [Value.oneCell',IdT.vals]) size26 ?_
  refine RL.nil ?_
  refine hK28 _ _ _ ?_
  refine CW.kp [4] rfl ?_
  refine CW.ret ?_
  rw [op2V,if_neg h1,if_neg h5,if_pos h6] at hr
  obtain rfl:=Option.some.inj hr
  refine CellAt.mk rfl MM (by rfl) agg26 (Turn.drop ⟨Sub.refl _,rfl,_,rfl,?_⟩ SB)
  exact truthV_rd _ (by first | exact decide_eq_true_iff | (simp only [decide_eq_true_eq];omega) | (simp only [true_iff];omega) | (simp only [Bool.false_eq_true,false_iff];omega))
 refine CW.seq fun K29 hK29=>?_
 refine CW.region ?_
 refine RL.q (Y.eql rfl rfl) rfl ?_
 refine RL.q (Y.assign rfl) rfl ?_
 refine RL.nil ?_
 refine hK29 _ _ _ ?_
 refine CW.kp [4,5,6,70,86] rfl ?_
 refine CW.ite rfl (fun h7=>?_) (fun h7=>?_)
 ·refine CW.seq fun K30 hK30=>?_
  refine CW.region ?_
  refine RL.q (Y.field rfl field26_1) rfl ?_
  first | refine RL.q (Y.loadOwnV rfl MM MM (by rfl) flat3) rfl ?_ | refine RL.q (Y.loadOwn rfl MM (by rfl) flat3) rfl ?_ | refine RL.loadOwnSl rfl rfl MM MM (by rfl) flat3 rfl fun a89 c89 hu89 hc89 hl89=>?_
  refine RL.qs (Y.neq rfl rfl) rfl (fun g90=>?_) (fun g90=>?_)
  ·refine RL.q (Y.move rfl) rfl ?_
   refine RL.qg WG (Y.field rfl field26_1) rfl ?_
   first | refine RL.qg WG (Y.loadOwnV rfl MM MM (by rfl) flat3) rfl ?_ | refine RL.qg WG (Y.loadOwn rfl MM (by rfl) flat3) rfl ?_ | refine RL.loadOwnSl WG rfl MM MM (by rfl) flat3 rfl fun a93 c93 hu93 hc93 hl93=>?_
   refine RL.qg WG (Y.neq rfl rfl) rfl ?_
   refine RL.q (Y.pickT rfl rfl) rfl ?_
   refine RL.callv rfl func31 rfl rfl (by exact etruth_ok _ _ _ _) ?_
   first | refine RL.storeRds 3 rfl rfl RP MM EL (by first | exact Kn.lenRds MM EL | exact Kn.lenLit rfl) size26 ?_ | refine RL.storeAgg _ rfl rfl RP (by rfl) (by first | (simp;done) | simp [IdT.vals]) (by first | (simp [Value.oneCell'];done) | simp [Value.oneCell',IdT.vals]) size26 ?_
   refine RL.nil ?_
   refine hK30 _ _ _ ?_
   refine CW.kp [4] rfl ?_
   refine CW.ret ?_
   rw [op2V,if_neg h1,if_neg h5,if_neg h6,if_pos h7] at hr
   obtain rfl:=Option.some.inj hr
   refine CellAt.mk rfl MM (by rfl) agg26 (Turn.drop ⟨Sub.refl _,rfl,_,rfl,?_⟩ SB)
   exact truthV_rd _ (by first | exact decide_eq_true_iff | (simp only [decide_eq_true_eq];omega) | (simp only [true_iff];omega) | (simp only [Bool.false_eq_true,false_iff];omega))
  refine RL.q (Y.move rfl) rfl ?_
  refine RL.no WG rfl ?_
  refine RL.no WG rfl ?_
  refine RL.no WG rfl ?_
  refine RL.q (Y.pickF rfl rfl) rfl ?_
  refine RL.callv rfl func31 rfl rfl (by exact etruth_ok _ _ _ _) ?_
  first | refine RL.storeRds 3 rfl rfl RP MM EL (by first | exact Kn.lenRds MM EL | exact Kn.lenLit rfl) size26 ?_ | refine RL.storeAgg _ rfl rfl RP (by rfl) (by first | (simp;done) | simp [IdT.vals]) (by first | (simp [Value.oneCell'];done) | simp [Value.oneCell',IdT.vals]) size26 ?_
  refine RL.nil ?_
  refine hK30 _ _ _ ?_
  refine CW.kp [4] rfl ?_
  refine CW.ret ?_
  rw [op2V,if_neg h1,if_neg h5,if_neg h6,if_pos h7] at hr
  obtain rfl:=Option.some.inj hr
  refine CellAt.mk rfl MM (by rfl) agg26 (Turn.drop ⟨Sub.refl _,rfl,_,rfl,?_⟩ SB)
  exact truthV_rd _ (by first | exact decide_eq_true_iff | (simp only [decide_eq_true_eq];omega) | (simp only [true_iff];omega) | (simp only [Bool.false_eq_true,false_iff];omega))
 refine CW.seq fun K31 hK31=>?_
 refine CW.region ?_
 refine RL.q (Y.eql rfl rfl) rfl ?_
 refine RL.q (Y.assign rfl) rfl ?_
 refine RL.nil ?_
 refine hK31 _ _ _ ?_
 refine CW.kp [4,5,6,70,97] rfl ?_
 refine CW.ite rfl (fun h8=>?_) (fun h8=>?_)
 ·refine CW.seq fun K32 hK32=>?_
  refine CW.region ?_
  refine RL.q (Y.field rfl field26_1) rfl ?_
  first | refine RL.q (Y.loadOwnV rfl MM MM (by rfl) flat3) rfl ?_ | refine RL.q (Y.loadOwn rfl MM (by rfl) flat3) rfl ?_ | refine RL.loadOwnSl rfl rfl MM MM (by rfl) flat3 rfl fun a100 c100 hu100 hc100 hl100=>?_
  refine RL.qs (Y.neq rfl rfl) rfl (fun g101=>?_) (fun g101=>?_)
  ·refine RL.q (Y.move rfl) rfl ?_
   refine RL.no WG rfl ?_
   refine RL.no WG rfl ?_
   refine RL.no WG rfl ?_
   refine RL.q (Y.pickT rfl rfl) rfl ?_
   refine RL.callv rfl func31 rfl rfl (by exact etruth_ok _ _ _ _) ?_
   first | refine RL.storeRds 3 rfl rfl RP MM EL (by first | exact Kn.lenRds MM EL | exact Kn.lenLit rfl) size26 ?_ | refine RL.storeAgg _ rfl rfl RP (by rfl) (by first | (simp;done) | simp [IdT.vals]) (by first | (simp [Value.oneCell'];done) | simp [Value.oneCell',IdT.vals]) size26 ?_
   refine RL.nil ?_
   refine hK32 _ _ _ ?_
   refine CW.kp [4] rfl ?_
   refine CW.ret ?_
   rw [op2V,if_neg h1,if_neg h5,if_neg h6,if_neg h7,if_pos h8] at hr
   obtain rfl:=Option.some.inj hr
   refine CellAt.mk rfl MM (by rfl) agg26 (Turn.drop ⟨Sub.refl _,rfl,_,rfl,?_⟩ SB)
   exact truthV_rd _ (by first | exact decide_eq_true_iff | (simp only [decide_eq_true_eq];omega) | (simp only [true_iff];omega) | (simp only [Bool.false_eq_true,false_iff];omega))
  refine RL.q (Y.move rfl) rfl ?_
  refine RL.qg WG (Y.field rfl field26_1) rfl ?_
  first | refine RL.qg WG (Y.loadOwnV rfl MM MM (by rfl) flat3) rfl ?_ | refine RL.qg WG (Y.loadOwn rfl MM (by rfl) flat3) rfl ?_ | refine RL.loadOwnSl WG rfl MM MM (by rfl) flat3 rfl fun a104 c104 hu104 hc104 hl104=>?_
  refine RL.qg WG (Y.neq rfl rfl) rfl ?_
  refine RL.q (Y.pickF rfl rfl) rfl ?_
  refine RL.callv rfl func31 rfl rfl (by exact etruth_ok _ _ _ _) ?_
  first | refine RL.storeRds 3 rfl rfl RP MM EL (by first | exact Kn.lenRds MM EL | exact Kn.lenLit rfl) size26 ?_ | refine RL.storeAgg _ rfl rfl RP (by rfl) (by first | (simp;done) | simp [IdT.vals]) (by first | (simp [Value.oneCell'];done) | simp [Value.oneCell',IdT.vals]) size26 ?_
  refine RL.nil ?_
  refine hK32 _ _ _ ?_
  refine CW.kp [4] rfl ?_
  refine CW.ret ?_
  rw [op2V,if_neg h1,if_neg h5,if_neg h6,if_neg h7,if_pos h8] at hr
  obtain rfl:=Option.some.inj hr
  refine CellAt.mk rfl MM (by rfl) agg26 (Turn.drop ⟨Sub.refl _,rfl,_,rfl,?_⟩ SB)
  exact truthV_rd _ (by first | exact decide_eq_true_iff | (simp only [decide_eq_true_eq];omega) | (simp only [true_iff];omega) | (simp only [Bool.false_eq_true,false_iff];omega))
 refine CW.seq fun K33 hK33=>?_
 refine CW.region ?_
 refine RL.q (Y.eql rfl rfl) rfl ?_
 refine RL.q (Y.assign rfl) rfl ?_
 refine RL.nil ?_
 refine hK33 _ _ _ ?_
 refine CW.kp [4,5,6,108] rfl ?_
 refine CW.ite rfl (fun h9=>?_) (fun h9=>?_)
 ·refine CW.seq fun K34 hK34=>?_
  refine CW.region ?_
  refine RL.q (Y.field rfl field26_2) rfl ?_
  first | refine RL.q (Y.loadOwnV rfl MM MM (by rfl) flat24) rfl ?_ | refine RL.q (Y.loadOwn rfl MM (by rfl) flat24) rfl ?_ | refine RL.loadOwnSl rfl rfl MM MM (by rfl) flat24 rfl fun a111 c111 hu111 hc111 hl111=>?_
  refine RL.q (Y.field rfl field26_2) rfl ?_
  first | refine RL.q (Y.loadOwnV rfl MM MM (by rfl) flat24) rfl ?_ | refine RL.q (Y.loadOwn rfl MM (by rfl) flat24) rfl ?_ | refine RL.loadOwnSl rfl rfl MM MM (by rfl) flat24 rfl fun a113 c113 hu113 hc113 hl113=>?_
  refine RL.buildSlice [.slice a111 l[0].kids.length c111,.slice a113 l[1].kids.length c113] elem56 rfl (by decide) (fill2 rfl rfl rfl rfl) rfl fun b114=>?_
  obtain ⟨js,hjs⟩ : ∃ js,js = l[0].kids++l[1].kids:=⟨_,rfl⟩
  have hjf : [l[0].kids,l[1].kids].flatten = js:=by simp [hjs]
  have hjl : js.length = l[0].kids.length+l[1].kids.length:=by rw [hjs,List.length_append]
  refine RL.call rfl func34 rfl rfl (by exact concatV_ok _ _ _ _ [.slice a111 l[0].kids.length c111,.slice a113 l[1].kids.length c113] [l[0].kids,l[1].kids] (CellsK.own MM) (RdL.cons (hur66.2 2 _ _ rfl hu111) (RdL.cons (hur69.2 2 _ _ rfl hu113) (RdL.nil _))) (by simp) (by rw [hjf];omega)) ?_
  rintro v115 M _ ⟨a115,c115,vs,rfl,hc115,rfl,hvs,rfl⟩
  rw [hjf] at hc115 hvs ⊢
  refine RL.sealAcc (u:=.slice a115 js.length c115) PK hvs (by unfold lim;omega) fun M3 a3 c3 hs3 e3 hc3 hr3=>?_
  injection e3 with e3a _ e3c
  subst e3a e3c
  refine RL.call rfl func33 rfl rfl (by exact copies_ok 100000 _ _ _ js _ (fun v hv=>by rw [hjs] at hv;rcases List.mem_append.1 hv with h | h <;> (have:=Val.size_kid h;omega)) OM OM (by exact Kn.rd MM)) ?_
  rintro v116 M116 _ ⟨hs116,rfl,hr116⟩
  obtain ⟨a116,c116,rfl,hc116,hl116,_⟩:=hr116.slice
  refine RL.addRd hr116 ?_
  refine RL.q (Y.build [_,_,_] rfl zero26 places26 (by rfl)) rfl ?_
  first | refine RL.storeRds 3 rfl rfl RP MM EL (by first | exact Kn.lenRds MM EL | exact Kn.lenLit rfl) size26 ?_ | refine RL.storeAgg _ rfl rfl RP (by rfl) (by first | (simp;done) | simp [IdT.vals]) (by first | (simp [Value.oneCell'];done) | simp [Value.oneCell',IdT.vals]) size26 ?_
  refine RL.nil ?_
  refine hK34 _ _ _ ?_
  refine CW.kp [4] rfl ?_
  refine CW.ret ?_
  rw [op2V,if_neg h1,if_neg h5,if_neg h6,if_neg h7,if_neg h8,if_pos h9,←hjs] at hr
  obtain rfl:=Option.some.inj hr
  exact CellAt.mk rfl MM (by rfl) agg26 (Turn.drop ⟨hs3.trans hs116,rfl,_,rfl,node_rd 4 0 js hr116⟩ SB)
 refine CW.skip ?_
 refine hK23 _ _ _ ?_
 refine CW.seq fun K35 hK35=>?_
 refine CW.region ?_
 refine RL.q (Y.build [_,_,_] rfl zero26 places26 (by rfl)) rfl ?_
 first | refine RL.storeRds 3 rfl rfl RP MM EL (by first | exact Kn.lenRds MM EL | exact Kn.lenLit rfl) size26 ?_ | refine RL.storeAgg _ rfl rfl RP (by rfl) (by first | (simp;done) | simp [IdT.vals]) (by first | (simp [Value.oneCell'];done) | simp [Value.oneCell',IdT.vals]) size26 ?_
 refine RL.nil ?_
 refine hK35 _ _ _ ?_
 refine CW.kp [4] rfl ?_
 refine CW.ret ?_
 rw [op2V,if_neg h1,if_neg h5,if_neg h6,if_neg h7,if_neg h8,if_neg h9] at hr
 obtain rfl:=Option.some.inj hr
 refine CellAt.mk rfl MM (by rfl) agg26 (Turn.drop ⟨Sub.refl _,rfl,_,rfl,?_⟩ SB)
 exact leaf_rd 0 0

theorem opV_two {n : Int} {l : List Val} {r : Val} (h : l.length = 2) (hr : opV n l = some r) : op2V n (l[0]'OM) (l[1]'OM) = some r:=by
 match l,h with
 | [x,y],_=>exact hr
theorem opV_one {n : Int} {l : List Val} {r : Val} (h : l.length = 1) (hr : opV n l = some r) : (n = 9∨n = 11)∧op1V n (l[0]'OM) = r:=by
 match l,h with
 | [x],_ =>
   rw [opV] at hr
   split at hr
   · exact ⟨by assumption,Option.some.inj hr⟩
   · cases hr
theorem opV_len {n : Int} {l : List Val} {r : Val} (hr : opV n l = some r) : l.length = 1∨l.length = 2:=by
 match l with
 | []=>cases hr
 | [x]=>exact .inl rfl
 | [x,y]=>exact .inr rfl
 | _::_::_::_=>cases hr
end Go.Proofs.YtanbipbiblikbaaDoor

namespace Go.Proofs.YtanbipbiblikbaaDoor
open Xe

theorem op1_ok (w0 : World) (M : Mem) (Γ : List As) (n : Int) (l : List Val) (ul : Value)  (hl : Kn w0 M Γ (Rd M (.sl l.length 3 (l.flatMap Val.enc)) ul)) (hl1 : l.length = 1) (hn9 : n = 9∨n = 11) :
   CallOk Tryd.prog w0 M Γ 12 #[vint n,ul] (Gives M Γ fun M' v=>∃ us,v = .agg us.toArray∧RdL M' (op1V n (l[0]'OM)).enc us):=by
 refine CallOk.kn hl fun hl=>?_
 obtain ⟨al,cl,rfl,hcl,hliml,hlenl⟩:=hl.slice
 refine enterCell (f:=12) Tryd.func12 rfl Tryd.ntmps12 rfl rfl fun w1 hw1=>?_
 refine CW.addRd hl ?_
 refine CW.seq fun K1 hK1=>?_
 refine CW.region ?_
 refine RL.alloc _ zero26 rfl rfl fun b4=>?_
 refine RL.nil ?_
 refine hK1 _ _ _ ?_
 refine CW.kp [0,1,4] rfl ?_
 refine CW.seq fun K2 hK2=>?_
 refine CW.seq fun K3 hK3=>?_
 refine CW.regionM1 17 (.bool (decide (l.length = 2∧0≤n∧n < 5))) ?_ ?_
 ·refine RL.q (Y.move rfl) rfl ?_
  refine RL.qs (Y.geq rfl rfl) rfl (fun g8=>?_) (fun g8=>?_)
  ·refine RL.q (Y.move rfl) rfl ?_
   refine RL.qg WG (Y.move rfl) rfl ?_
   refine RL.qgs WG (Y.lss rfl rfl) rfl (fun g11=>?_) (fun g11=>?_)
   ·refine RL.q (Y.pickT rfl rfl) rfl ?_
    refine RL.q (Y.move rfl) rfl ?_
    refine RL.qg WG (Y.move rfl) rfl ?_
    refine RL.qg WG (Y.len rfl Tryd.underlying24) rfl ?_
    refine RL.qg WG (Y.eql rfl rfl) rfl ?_
    refine RL.q (Y.pickT rfl rfl) rfl ?_
    refine RL.nil ?_
    exact ⟨gl rfl (bmerge (by first | omega | (simp;done) | (simp;omega))),(by repeat (first | exact Keep.nil _ | refine Keep.cons _ rfl ?_)),fun _ hw=>hw.sub SB⟩
   refine RL.q (Y.pickT rfl rfl) rfl ?_
   refine RL.q (Y.move rfl) rfl ?_
   refine RL.no WG rfl ?_
   refine RL.no WG rfl ?_
   refine RL.no WG rfl ?_
   refine RL.q (Y.pickF rfl rfl) rfl ?_
   refine RL.nil ?_
   exact ⟨gl rfl (bmerge (by first | omega | (simp;done) | (simp;omega))),(by repeat (first | exact Keep.nil _ | refine Keep.cons _ rfl ?_)),fun _ hw=>hw.sub SB⟩
  refine RL.q (Y.move rfl) rfl ?_
  refine RL.no WG rfl ?_
  refine RL.no WG rfl ?_
  refine RL.q (Y.pickF rfl rfl) rfl ?_
  refine RL.q (Y.move rfl) rfl ?_
  refine RL.no WG rfl ?_
  refine RL.no WG rfl ?_
  refine RL.no WG rfl ?_
  refine RL.q (Y.pickF rfl rfl) rfl ?_
  refine RL.nil ?_
  exact ⟨gl rfl (bmerge (by first | omega | (simp;done) | (simp;omega))),(by repeat (first | exact Keep.nil _ | refine Keep.cons _ rfl ?_)),fun _ hw=>hw.sub SB⟩
 refine hK3 _ _ _ ?_
 refine CW.ite rfl (fun h1=>absurd h1 OM) (fun h1=>?_)
 refine CW.skip ?_
 refine hK2 _ _ _ ?_
 refine CW.seq fun K4 hK4=>?_
 refine CW.block ?_
 refine CW.seq fun K5 hK5=>?_
 refine CW.regionM1 31 (.bool (decide (n = 9))) ?_ ?_
 ·refine RL.q (Y.move rfl) rfl ?_
  refine RL.qs (Y.eql rfl rfl) rfl (fun g33=>?_) (fun g33=>?_)
  ·refine RL.q (Y.move rfl) rfl ?_
   refine RL.qg WG (Y.move rfl) rfl ?_
   refine RL.qg WG (Y.len rfl Tryd.underlying24) rfl ?_
   refine RL.qg WG (Y.eql rfl rfl) rfl ?_
   refine RL.q (Y.pickT rfl rfl) rfl ?_
   refine RL.q (Y.assign rfl) rfl ?_
   refine RL.nil ?_
   exact ⟨gl rfl (bmerge (by first | omega | (simp;done) | (simp;omega))),(by repeat (first | exact Keep.nil _ | refine Keep.cons _ rfl ?_)),fun _ hw=>hw.sub SB⟩
  refine RL.q (Y.move rfl) rfl ?_
  refine RL.no WG rfl ?_
  refine RL.no WG rfl ?_
  refine RL.no WG rfl ?_
  refine RL.q (Y.pickF rfl rfl) rfl ?_
  refine RL.q (Y.assign rfl) rfl ?_
  refine RL.nil ?_
  exact ⟨gl rfl (bmerge (by first | omega | (simp;done) | (simp;omega))),(by repeat (first | exact Keep.nil _ | refine Keep.cons _ rfl ?_)),fun _ hw=>hw.sub SB⟩
 refine hK5 _ _ _ ?_
 refine CW.ite rfl (fun h2=>?_) (fun h2=>?_)
 ·refine CW.seq fun K6 hK6=>?_
  refine CW.region ?_
  refine RL.q (Y.move rfl) rfl ?_
  refine RL.q (Y.index 0 rfl rfl rfl AO slice24 SM) rfl ?_
  refine RL.q (Y.field rfl field26_1) rfl ?_
  first | refine RL.q (Y.loadRd rfl MM (flat_get Val.enc_len _ _ _ (List.getElem?_eq_getElem AO) _ _ (by rw [Val.enc_eq] <;> rfl)) flat3) rfl ?_ | refine RL.loadSl rfl rfl MM (flat_get Val.enc_len _ _ _ (List.getElem?_eq_getElem AO) _ _ (by rw [Val.enc_eq] <;> rfl)) flat3 rfl fun a42 c42 hc42 hl42=>?_
  refine RL.q (Y.eql rfl rfl) rfl ?_
  refine RL.callv rfl func31 rfl rfl (by exact etruth_ok _ _ _ _) ?_
  first | refine RL.storeRds 3 rfl rfl RP MM EL (by first | exact Kn.lenRds MM EL | exact Kn.lenLit rfl) size26 ?_ | refine RL.storeAgg _ rfl rfl RP (by rfl) (by first | (simp;done) | simp [IdT.vals]) (by first | (simp [Value.oneCell'];done) | simp [Value.oneCell',IdT.vals]) size26 ?_
  refine RL.nil ?_
  refine hK6 _ _ _ ?_
  refine CW.kp [4] rfl ?_
  refine CW.ret ?_
  rw [op1V,if_pos h2]
  refine CellAt.mk rfl MM (by rfl) agg26 (Turn.drop ⟨Sub.refl _,rfl,_,rfl,?_⟩ SB)
  exact truthV_rd _ (by first | exact decide_eq_true_iff | (simp only [decide_eq_true_eq];omega) | (simp only [true_iff];omega) | (simp only [Bool.false_eq_true,false_iff];omega))
 refine CW.seq fun K7 hK7=>?_
 refine CW.regionM1 45 (.bool (decide (n = 11))) ?_ ?_
 ·refine RL.q (Y.move rfl) rfl ?_
  refine RL.qs (Y.eql rfl rfl) rfl (fun g47=>?_) (fun g47=>?_)
  ·refine RL.q (Y.move rfl) rfl ?_
   refine RL.qg WG (Y.move rfl) rfl ?_
   refine RL.qg WG (Y.len rfl Tryd.underlying24) rfl ?_
   refine RL.qg WG (Y.eql rfl rfl) rfl ?_
   refine RL.q (Y.pickT rfl rfl) rfl ?_
   refine RL.q (Y.assign rfl) rfl ?_
   refine RL.nil ?_
   exact ⟨gl rfl (bmerge (by first | omega | (simp;done) | (simp;omega))),(by repeat (first | exact Keep.nil _ | refine Keep.cons _ rfl ?_)),fun _ hw=>hw.sub SB⟩
  refine RL.q (Y.move rfl) rfl ?_
  refine RL.no WG rfl ?_
  refine RL.no WG rfl ?_
  refine RL.no WG rfl ?_
  refine RL.q (Y.pickF rfl rfl) rfl ?_
  refine RL.q (Y.assign rfl) rfl ?_
  refine RL.nil ?_
  exact ⟨gl rfl (bmerge (by first | omega | (simp;done) | (simp;omega))),(by repeat (first | exact Keep.nil _ | refine Keep.cons _ rfl ?_)),fun _ hw=>hw.sub SB⟩
 refine hK7 _ _ _ ?_
 refine CW.ite rfl (fun h3=>?_) (fun h3=>absurd OM h3)
 refine CW.seq fun K8 hK8=>?_
 refine CW.region ?_
 refine RL.q (Y.move rfl) rfl ?_
 refine RL.q (Y.index 0 rfl rfl rfl AO slice24 SM) rfl ?_
 refine RL.q (Y.field rfl field26_2) rfl ?_
 first | refine RL.q (Y.loadRd rfl MM (flat_get Val.enc_len _ _ _ (List.getElem?_eq_getElem AO) _ _ (by rw [Val.enc_eq] <;> rfl)) flat24) rfl ?_ | refine RL.loadSl rfl rfl MM (flat_get Val.enc_len _ _ _ (List.getElem?_eq_getElem AO) _ _ (by rw [Val.enc_eq] <;> rfl)) flat24 rfl fun a56 c56 hc56 hl56=>?_
 refine RL.q (Y.len rfl Tryd.underlying24) rfl ?_
 refine RL.q (Y.build [_,_,_] rfl zero26 places26 (by rfl)) rfl ?_
 first | refine RL.storeRds 3 rfl rfl RP MM EL (by first | exact Kn.lenRds MM EL | exact Kn.lenLit rfl) size26 ?_ | refine RL.storeAgg _ rfl rfl RP (by rfl) (by first | (simp;done) | simp [IdT.vals]) (by first | (simp [Value.oneCell'];done) | simp [Value.oneCell',IdT.vals]) size26 ?_
 refine RL.nil ?_
 refine hK8 _ _ _ ?_
 refine CW.kp [4] rfl ?_
 refine CW.ret ?_
 rw [op1V,if_neg h2,if_pos h3]
 refine CellAt.mk rfl MM (by rfl) agg26 (Turn.drop ⟨Sub.refl _,rfl,_,rfl,?_⟩ SB)
 exact leaf_rd _ _

theorem op_ok (w0 : World) (M : Mem) (Γ : List As) (n : Int) (l : List Val) (ul : Value) (r : Val) (hl : Kn w0 M Γ (Rd M (.sl l.length 3 (l.flatMap Val.enc)) ul)) (hnm : NumsM M) (hsm : ∀ v∈l,v.size≤100000) (hr : opV n l = some r) :
   CallOk Tryd.prog w0 M Γ 12 #[vint n,ul] (Gives M Γ fun M' v=>∃ us,v = .agg us.toArray∧RdL M' r.enc us):=by
 rcases opV_len hr with h | h
 · obtain ⟨h9,rfl⟩:=opV_one h hr
   exact op1_ok w0 M Γ n l ul hl h h9
 · exact op2_ok w0 M Γ n l ul r hl hnm h (hsm _ (List.getElem_mem _)) (hsm _ (List.getElem_mem _)) (opV_two h hr)

end Go.Proofs.YtanbipbiblikbaaDoor

namespace Xe
open Go
def NormP (n : Nat) (w0 : World) (X : Pst) (R : Act→World→Prop) : Exit→Act→World→Prop
 | .normal,a,w=>R a w
 | .panic c,a,w=>Sat n [] a∧∃ M Γ,X (.panic c) [] M Γ∧St w0 M Γ w
 | _,_,_=>False
theorem NormP.unput {n : Nat} {w0 : World} {X : Pst} {R : Act→World→Prop} {c : List PanicEntry} {a : Act} {d : Option Nat} {v : Value} {w : World} (h : NormP n w0 X R (.panic c) (a.put d v) w) : NormP n w0 X R (.panic c) a w:=by
 obtain ⟨⟨h1,h2,_⟩,h4⟩:=h
 refine ⟨⟨?_,?_,fun t v h=>by simp [getL] at h⟩,h4⟩
 ·cases d with
  | none=>exact h1
  | some d=>simpa [Act.put] using h1
 ·cases d with
  | none=>exact h2
  | some d=>exact h2
theorem wpOp_of_RLP {P : Program} {n : Nat} {w0 : World} {ops : Array Oper} {L : Lm} {M : Mem} {Γ : List As} {i : Nat} {o : Oper} {K' : Lm→Mem→List As→Prop} {R : Act→World→Prop} {Q : Exit→Act→World→Prop} (hi : ops[i]? = some o) (h : RL P n w0 ops [o] L M Γ K') (hR : ∀ L M Γ,K' L M Γ→∀ a w,Sat n L a→St w0 M Γ w→R a w) {a : Act} {w : World} (ha : Sat n L a) (hw : St w0 M Γ w) :
  wpOp P ops Q i R a w:=by
 have h1:=h (Norm R) hR a w ha hw
 unfold wpOp
 simp only [hi]
 unfold wpList at h1
 split
 ·rename_i hwt
  rw [if_pos hwt] at h1
  rcases h1 with h1 | ⟨_,a,w,hf⟩
  ·exact .inl (upon_normX (R:=R) h1)
  ·exact hf.elim
 ·rename_i hwt
  rw [if_neg hwt] at h1
  exact h1
def HP (P : Program) (n : Nat) (w0 : World) (X : Pst) (ops : Array Oper) (Mc : Mem) (Γc : List As) (fuel : Nat) (listed : Array Bool) (L : Lm) (M : Mem) (Γ : List As) (K : Lm→Mem→List As→Prop) : Prop :=
 (∃ w,St w0 Mc Γc w)→∀ R : Act→World→Prop,(∀ L M Γ,K L M Γ→∀ a w,Sat n L a→St w0 M Γ w→R a w) →
 ∀ a w,Sat n L a→St w0 M Γ w→St w0 Mc Γc w→wpAnyH P .any ops (NormP n w0 X R) (St w0 Mc Γc) fuel listed a w

section
variable {P : Program} {n : Nat} {w0 : World} {ops : Array Oper} {Mc : Mem} {Γc : List As} {fuel : Nat} {listed : Array Bool} {L : Lm} {M : Mem} {Γ : List As} {K : Lm→Mem→List As→Prop} {X : Pst}

theorem HP.know {F : Prop} (hF : ∀ w,St w0 Mc Γc w→F) (h : F→HP P n w0 X ops Mc Γc fuel listed L M Γ K) : HP P n w0 X ops Mc Γc fuel listed L M Γ K :=
 fun hex=>h (let ⟨w,hw⟩:=hex;hF w hw) hex

theorem HP.step (i : Nat) {o : Oper} (hi : ops[i]? = some o) (hr : Region.ready .any ops listed = [i])
  (h : RL P n w0 ops [o] L M Γ (fun L' M' Γ'=>((∃ w,St w0 Mc Γc w)→∀ w,St w0 M' Γ' w→St w0 Mc Γc w)∧HP P n w0 X ops Mc Γc fuel (listed.setIfInBounds i true) L' M' Γ' K)) : HP P n w0 X ops Mc Γc (fuel+1) listed L M Γ K:=by
 intro hex R hR a w ha hw hc
 refine wpAnyH_all hr (by simp) fun j hj=>?_
 simp only [List.mem_singleton] at hj
 subst hj
 exact wpOp_of_RLP hi h (fun L' M' Γ' hK a' w' ha' hw'=>⟨hK.1 hex w' hw',hK.2 hex R hR a' w' ha' hw' (hK.1 hex w' hw')⟩) ha hw

end
def HQ (fin : Nat) (P : Program) (n : Nat) (w0 : World) (X : Pst) (ops : Array Oper) (Mc : Mem) (Γc : List As) (fuel : Nat) (listed : Array Bool) (L : Lm) (M : Mem) (Γ : List As) (K : Lm→Mem→List As→Prop) : Prop :=
 (∃ w,St w0 Mc Γc w)→∀ R : Act→World→Prop,(∀ L M Γ,K L M Γ→∀ a w,Sat n L a→St w0 M Γ w→R a w) →
 ∀ a w,Sat n L a→St w0 M Γ w→St w0 Mc Γc w→wpAnyG P .any ops fin (NormP n w0 X R) (St w0 Mc Γc) fuel listed a w

section
variable {fin : Nat} {P : Program} {n : Nat} {w0 : World} {ops : Array Oper} {Mc : Mem} {Γc : List As} {fuel : Nat} {listed : Array Bool} {L : Lm} {M : Mem} {Γ : List As} {K : Lm→Mem→List As→Prop} {X : Pst}
theorem HQ.take (i : Nat) {op : Op} {ty : TypeId} {pos : String} {after : Array Edge} {g : Option (Nat×Bool)} {d : Nat} {v : Value} (hi : ops[i]? = some ⟨some d,op,ty,pos,after,g⟩) (hs : Region.noSelect ops = true) (hf : (Region.free .any ops listed i && waitB .any ops fin i) = true)
  (hr : (Region.ready .any ops listed).contains i = true) (hg : Want ops L ⟨some d,op,ty,pos,after,g⟩ true) (hy : Yq P w0 L Mc Γc ⟨some d,op,ty,pos,after,g⟩ v) (hd : Nat.blt d n = true)
  (h : HQ fin P n w0 X ops Mc Γc fuel (listed.setIfInBounds i true) ((d,v)::L) M Γ K) : HQ fin P n w0 X ops Mc Γc (fuel+1) listed L M Γ K :=
 fun hex R hR a w ha hw hc=>wpAnyG_take hi hs hf hr (fun _ _ _ h=>h.unput) (.inl ⟨hg.spec ha,fun w hw=>hy n a w ha hw⟩) hc (h hex R hR _ w (ha.put hd) hw hc)

theorem HQ.know {F : Prop} (hF : ∀ w,St w0 Mc Γc w→F) (h : F→HQ fin P n w0 X ops Mc Γc fuel listed L M Γ K) : HQ fin P n w0 X ops Mc Γc fuel listed L M Γ K :=
 fun hex=>h (let ⟨w,hw⟩:=hex;hF w hw) hex

theorem HQ.more {Γc' : List As} (h1 : ∀ w,St w0 Mc Γc w↔St w0 Mc Γc' w) (h : HQ fin P n w0 X ops Mc Γc' fuel listed L M Γ K) : HQ fin P n w0 X ops Mc Γc fuel listed L M Γ K:=by
 have e : St w0 Mc Γc = St w0 Mc Γc':=funext fun w=>propext (h1 w)
 unfold HQ at h ⊢
 rw [e]
 exact h

theorem HQ.step (i : Nat) {o : Oper} (hi : ops[i]? = some o) (hr : Region.ready .any ops listed = [i])
  (h : RL P n w0 ops [o] L M Γ (fun L' M' Γ'=>((∃ w,St w0 Mc Γc w)→∀ w,St w0 M' Γ' w→St w0 Mc Γc w)∧HQ fin P n w0 X ops Mc Γc fuel (listed.setIfInBounds i true) L' M' Γ' K)) : HQ fin P n w0 X ops Mc Γc (fuel+1) listed L M Γ K:=by
 intro hex R hR a w ha hw hc
 refine wpAnyG_all hr (by simp) fun j hj=>?_
 simp only [List.mem_singleton] at hj
 subst hj
 exact wpOp_of_RLP hi h (fun L' M' Γ' hK a' w' ha' hw'=>⟨.inr (hK.1 hex w' hw'),hK.2 hex R hR a' w' ha' hw' (hK.1 hex w' hw')⟩) ha hw

theorem HQ.takeX (i : Nat) {op : Op} {ty : TypeId} {pos : String} {after : Array Edge} {g : Option (Nat×Bool)} {d : Nat} (hi : ops[i]? = some ⟨some d,op,ty,pos,after,g⟩) (hs : Region.noSelect ops = true) (hf : (Region.free .any ops listed i && waitB .any ops fin i) = true)
  (hr : (Region.ready .any ops listed).contains i = true) (hg : Want ops L ⟨some d,op,ty,pos,after,g⟩ true) (F : Value→As→Prop) (hex : ∀ w,St w0 M Γc w→∃ v x,F v x)
  (hF : ∀ v x,F v x→Yq P w0 L M Γc ⟨some d,op,ty,pos,after,g⟩ v∧x.blk = none∧∀ w,x.ok M w) (hd : Nat.blt d n = true)
  (h : ∀ v x,F v x→HQ fin P n w0 X ops M (x::Γc) fuel (listed.setIfInBounds i true) ((d,v)::L) M (x::Γ) K) : HQ fin P n w0 X ops M Γc (fuel+1) listed L M Γ K:=by
 refine HQ.know hex ?_
 rintro ⟨v,x,hv⟩
 obtain ⟨h1,h2,h3⟩:=hF v x hv
 refine HQ.take i hi hs hf hr hg h1 hd ?_
 have h4:=h v x hv
 refine HQ.more (pure_iff h2 h3) ?_
 exact fun hex R hR a w ha hw hc=>h4 hex R hR a w ha (hw.add (h3 w) h2) hc

theorem HQ.loadOwnSl (i : Nat) {x : Operand} {t : TypeId} {ty : TypeId} {pos : String} {af : Array Edge} {g : Option (Nat×Bool)} {d b e : Nat} {q n1 sz1 : Nat} {us : List Value} {ds cs1 : List D} (hi : ops[i]? = some ⟨some d,.load t x,ty,pos,af,g⟩) (hs : Region.noSelect ops = true) (hf : (Region.free .any ops listed i && waitB .any ops fin i) = true)
  (hr : (Region.ready .any ops listed).contains i = true) (hg : Want ops L ⟨some d,.load t x,ty,pos,af,g⟩ true)
  (hx : evL L x = some (.pointer (some (adr (some ⟨b,0,none⟩) q)))) (hm : As.own b e us∈Γc) (hrd : As.rds ds us∈Γc) (hq : ds[q]? = some (.sl n1 sz1 cs1)) (hfl : flatB P t = true) (hd : Nat.blt d n = true)
  (h : ∀ a1 c1,us[q]? = some (.slice a1 n1 c1)→n1≤c1→n1≤140737488355328→HQ fin P n w0 X ops M (.rd (.sl n1 sz1 cs1) (.slice a1 n1 c1)::Γc) fuel (listed.setIfInBounds i true) ((d,.slice a1 n1 c1)::L) M (.rd (.sl n1 sz1 cs1) (.slice a1 n1 c1)::Γ) K) :
  HQ fin P n w0 X ops M Γc (fuel+1) listed L M Γ K:=by
 refine HQ.takeX i hi hs hf hr hg (fun v x=>us[q]? = some v∧Rd M (.sl n1 sz1 cs1) v∧x = .rd (.sl n1 sz1 cs1) v) (fun w hw=>?_) ?_ hd ?_
 ·obtain ⟨u,h1,h2⟩:=RdL.get (hw.all _ hrd) hq
  exact ⟨u,_,h1,h2,rfl⟩
 ·rintro v _ ⟨h1,h2,rfl⟩
  exact ⟨Y.load hx hfl fun w hw=>hw.own_cell hm h1,rfl,fun _=>h2⟩
 ·rintro v _ ⟨h1,h2,rfl⟩
  have hr':=h2
  simp only [Rd] at hr'
  obtain ⟨a1,c1,rfl,h3,_,h4,_⟩:=hr'
  exact h a1 c1 h1 h3 h4

theorem HQ.loadAgg (i : Nat) {x : Operand} {t : TypeId} {ty : TypeId} {pos : String} {af : Array Edge} {g : Option (Nat×Bool)} {d : Nat} {a : Option Addr} {q sz n0 sz0 l c : Nat} {cs ds : List D} (hi : ops[i]? = some ⟨some d,.load t x,ty,pos,af,g⟩) (hs : Region.noSelect ops = true) (hf : (Region.free .any ops listed i && waitB .any ops fin i) = true)
  (hr : (Region.ready .any ops listed).contains i = true) (hg : Want ops L ⟨some d,.load t x,ty,pos,af,g⟩ true)
  (hx : evL L x = some (.pointer (some (adr a q)))) (hm : As.rd (.sl n0 sz0 cs) (.slice a l c)∈Γc) (hq : (cs.drop q).take sz = ds) (hl : ds.length = sz) (hag : aggB P t sz = true) (hd : Nat.blt d n = true)
  (h : ∀ us,us.length = sz→RdL M ds us→HQ fin P n w0 X ops M (.rds ds us::Γc) fuel (listed.setIfInBounds i true) ((d,.agg us.toArray)::L) M (.rds ds us::Γ) K) :
  HQ fin P n w0 X ops M Γc (fuel+1) listed L M Γ K:=by
 refine HQ.takeX i hi hs hf hr hg (fun v x=>∃ us,v = .agg us.toArray∧x = .rds ds us∧RdL M ds us∧∀ j v,us[j]? = some v→cellM M (adr a (q+j)) = some v) (fun w hw=>?_) ?_ hd ?_
 ·obtain ⟨us,h1,h2⟩:=cells_of (M:=M) (a:=a) (q:=q) (ds:=ds) (fun j e hj=>hw.rd_cell hm (sub_get hq hj))
  exact ⟨_,_,us,rfl,rfl,h1,h2⟩
 ·rintro _ _ ⟨us,rfl,rfl,h1,h2⟩
  refine ⟨Y.loadAgg hx (by rw [h1.1,hl];exact hag) fun w hw j v hj=>?_,rfl,fun _=>h1⟩
  rw [adr_add]
  exact hw.cell (h2 j v hj)
 ·rintro _ _ ⟨us,rfl,rfl,h1,h2⟩
  exact h us (by rw [h1.1,hl]) h1

theorem HQ.last (i : Nat) {o : Oper} (hi : ops[i]? = some o) (hf : Region.ready .any ops listed = [i]∧i = fin) (hd : Region.ready .any ops (listed.setIfInBounds i true) = [])
  (h : RL P n w0 ops [o] L M Γ K) : HQ fin P n w0 X ops Mc Γc (fuel+1) listed L M Γ K:=by
 intro hex R hR a w ha hw hc
 refine wpAnyG_all hf.1 (by simp) fun j hj=>?_
 simp only [List.mem_singleton] at hj
 subst hj
 exact wpOp_of_RLP hi h (fun L' M' Γ' hK a' w' ha' hw'=>⟨.inl hf.2,wpAnyG_done hd (hR L' M' Γ' hK a' w' ha' hw') fuel⟩) ha hw
theorem HQ.stepC (i : Nat) {op : Op} {ty : TypeId} {pos : String} {after : Array Edge} {g : Option (Nat×Bool)} {d : Nat} {f : FuncId} {args : Array Value} {F : Post} {G : PPost} (hi : ops[i]? = some ⟨some d,op,ty,pos,after,g⟩) (hr : Region.ready .any ops listed = [i])
  (hg : Want ops L ⟨some d,op,ty,pos,after,g⟩ true) (hy : ∀ n a w,Sat n L a→(execOp a.eval ⟨some d,op,ty,pos,after,g⟩).run P w = .ok (.enter f args) w) (hd : Nat.blt d n = true)
  (hc : CallP P w0 M Γ f args F G)
  (h : ∀ v M' Γ',F v M' Γ'→((∃ w,St w0 Mc Γc w)→∀ w,St w0 M' Γ' w→St w0 Mc Γc w)∧HQ fin P n w0 X ops Mc Γc fuel (listed.setIfInBounds i true) ((d,v)::L) M' Γ' K)
  (hp : ∀ ch M' Γ',G ch M' Γ'→X (.panic ch) [] M' Γ') : HQ fin P n w0 X ops Mc Γc (fuel+1) listed L M Γ K:=by
 intro hex R hR a w ha hw hcw
 refine wpAnyG_all hr (by simp) fun j hj=>?_
 simp only [List.mem_singleton] at hj
 subst hj
 unfold wpOp
 simp only [hi]
 rw [if_pos (hg.spec ha)]
 refine .inl ?_
 unfold Oper.wp
 rw [hy n a w ha]
 refine (hc w hw).mono ?_
 rintro e w' (⟨v,M',Γ',rfl,hF,hw'⟩ | ⟨ch,M',Γ',rfl,hG,hw'⟩)
 ·obtain ⟨h1,h2⟩:=h v M' Γ' hF
  exact ⟨.inr (h1 hex w' hw'),h2 hex R hR _ w' (ha.put hd) hw' (h1 hex w' hw')⟩
 ·exact ⟨⟨ha.size,ha.defers,fun t v h=>by simp [getL] at h⟩,M',Γ',hp ch M' Γ' hG,hw'⟩
theorem HQ.call (i : Nat) {ty : TypeId} {pos : String} {after : Array Edge} {g : Option (Nat×Bool)} {d : Nat} {f : FuncId} {xs : List Operand} {ts : Array TypeId} {vs : List Value} {F : Post} {G : PPost} (hi : ops[i]? = some ⟨some d,.call ⟨.value (.func f),xs.toArray,ts⟩,ty,pos,after,g⟩) (hr : Region.ready .any ops listed = [i])
  (hg : Want ops L ⟨some d,.call ⟨.value (.func f),xs.toArray,ts⟩,ty,pos,after,g⟩ true) (hf : funcB P f = true) (hx : evs L xs = some vs) (hd : Nat.blt d n = true)
  (hc : CallP P w0 M Γ f vs.toArray F G)
  (h : ∀ v M' Γ',F v M' Γ'→((∃ w,St w0 Mc Γc w)→∀ w,St w0 M' Γ' w→St w0 Mc Γc w)∧HQ fin P n w0 X ops Mc Γc fuel (listed.setIfInBounds i true) ((d,v)::L) M' Γ' K)
  (hp : ∀ ch M' Γ',G ch M' Γ'→X (.panic ch) [] M' Γ') : HQ fin P n w0 X ops Mc Γc (fuel+1) listed L M Γ K:=HQ.stepC i hi hr hg (call_enter hf hx) hd hc h hp
theorem CW.regionQ2 (fin : Nat) {id : Nat} {l : List Oper} {x : As} {R : List As} (hm : P.follows .mixedOrders = true) (hp : Pick x Γ R)
  (h : HQ fin P n w0 X l.toArray M R l.length (Array.replicate l.length false) L M Γ (X .normal)) : CW P n w0 (.region id l.toArray true) X L M Γ:=by
 intro a w ha hw
 have hc : ∀ w,St w0 M Γ w→St w0 M R w:=fun _ hw=>(hw.perm hp.perm).sub (List.sublist_cons_self _ _)
 have hw':=hw.draw (w.drawn+1)
 have h1:=h ⟨_,hc _ hw'⟩ (fun a w=>Real n w0 X .normal a w) (fun L M Γ hX a w ha hw=>⟨L,M,Γ,hX,ha,hw⟩) a _ ha hw' (hc _ hw')
 have h2 : (Code.region id l.toArray true).wp P (NormP n w0 X (fun a w=>Real n w0 X .normal a w)) a w:=wp_region_any hm (wpAny_of_G _ _ _ _ (by simpa using h1))
 refine wp_mono h2 fun e a w he=>?_
 cases e with
 | normal=>exact he
 | panic c =>
  obtain ⟨h1,M1,Γ1,h3,h4⟩:=he
  exact ⟨[],M1,Γ1,h3,h1,h4⟩
 | _=>exact he.elim
end
section
variable {P : Program} {w0 : World} {L : Lm} {M : Mem} {Γ : List As} {d : Option Nat} {ty : TypeId} {pos : String} {af : Array Edge} {g : Option (Nat×Bool)}
theorem Y.nilCheck {x : Operand} {p : Addr} (hx : evL L x = some (.pointer (some p))) : Yq P w0 L M Γ ⟨d,.nilCheck x,ty,pos,af,g⟩ (.pointer (some p)):=fun n a w ha _=>by
 simp [execOp,ha.ev hx]
theorem Y.nePtr {x y : Operand} {p : Option Addr} {t : TypeId} (ht : P.underlying t = some (.pointer (P.pointee t))) (hx : evL L x = some (.pointer p)) (hy : evL L y = some (.pointer none)) :
  Yq P w0 L M Γ ⟨d,.binOp .neq t x y t,ty,pos,af,g⟩ (.bool (decide (p ≠ none))):=fun n a w ha _=>by
 simp only [execOp,ha.ev hx,ha.ev hy]
 cases p <;> simp [eqGuard,run_neq_pointer_nil w t _ ht]
theorem Y.iface {x : Operand} {v : Value} {t : TypeId} (ht : P.concrete t = true) (hx : evL L x = some v) : Yq P w0 L M Γ ⟨d,.makeInterface t x,ty,pos,af,g⟩ (.iface t v):=fun n a w ha _=>by
 simp [execOp,ha.ev hx,run_makeInterface w t v ht]
theorem RX.panic {n : Nat} {ops : Array Oper} {rest : List Oper} {X : Pst} {x : Operand} {v : Value} {t : TypeId} (hx : evL L x = some (.iface t v)) (hp : X (.panic [{ v:=.iface t v,recovered:=false }]) L M Γ) :
  RX P n w0 ops (⟨none,.panic x,ty,pos,af,none⟩::rest) L M Γ X:=RX.halt rfl (fun n a w ha _=>by simp only [execOp,ha.ev hx];rfl) hp
theorem cellM_blk {b : Nat} {cs : List Value} {e : TypeId} {i : Nat} {v : Value} (hM : M b = some (.cells cs.toArray e (0,0))) (h : cs[i]? = some v) : cellM M (adr (some ⟨b,0,none⟩) i) = some v :=
 cellM_of hM (by simpa using h)
theorem Y.loadB {x : Operand} {t b q : Nat} {cs : List Value} {e : TypeId} {v : Value} (hx : evL L x = some (.pointer (some (adr (some ⟨b,0,none⟩) q)))) (hM : M b = some (.cells cs.toArray e (0,0))) (hq : cs[q]? = some v) (hf : flatB P t = true) :
  Yq P w0 L M Γ ⟨d,.load t x,ty,pos,af,g⟩ v:=Y.loadC hx (cellM_blk hM hq) hf
theorem Y.loadAggB {x : Operand} {t b q : Nat} {cs : List Value} {e : TypeId} (vs : List Value) (hx : evL L x = some (.pointer (some (adr (some ⟨b,0,none⟩) q)))) (hM : M b = some (.cells cs.toArray e (0,0))) (hq : ∀ j v,vs[j]? = some v→cs[q+j]? = some v) (hf : aggB P t vs.length = true) :
  Yq P w0 L M Γ ⟨d,.load t x,ty,pos,af,g⟩ (.agg vs.toArray):=Y.loadAgg hx hf fun w hw j v hj=>by
 rw [adr_add]
 exact hw.cell (cellM_blk hM (hq j v hj))
end
theorem CallP.kn {P : Program} {w0 : World} {M : Mem} {Γ : List As} {f : FuncId} {args : Array Value} {R : Post} {G : PPost} {F : Prop} (hu : Kn w0 M Γ F) (h : F→CallP P w0 M Γ f args R G) : CallP P w0 M Γ f args R G:=fun w hw=>h (hu w hw) w hw
theorem Turn.sealBlock {w0 : World} {M : Mem} {Γ R : List As} {b : Nat} {e : TypeId} {us : List Value} {F : Mem→List As→Prop} (hp : Pick (.own b e us) Γ R)
  (h : ∀ M',Sub M M'→M' b = some (.cells us.toArray e (0,0))→Turn w0 M' R F) : Turn w0 M Γ F:=fun w hw=>by
 have hw1:=hw.perm hp.perm
 obtain ⟨hM,hb⟩:=hw1.all _ (List.mem_cons_self ..)
 exact h _ (Mem.put_sub hM) (by simp [Mem.put]) w (hw1.seal_block (b:=b) rfl hb)
end Xe

namespace Xe
open Go
def ScopeM (M : Mem) : Env→Value→Prop
 | [],v=>v = .pointer none
 | x::env,v=>∃ b us up,v = .pointer (some (adr (some ⟨b,0,none⟩) 0))∧M b = some (.cells (x.1.vals++[vint x.2.1]++us++[up]).toArray 146 (0,0))∧RdL M x.2.2.enc us∧ScopeM M env up
theorem ScopeM.mono {M M' : Mem} (h : Sub M M') : ∀ {env : Env} {v : Value},ScopeM M env v→ScopeM M' env v
 | [],_,hv=>hv
 | _::_,_,⟨b,us,up,h1,h2,h3,h4⟩=>⟨b,us,up,h1,h _ _ h2,h3.mono h,ScopeM.mono h h4⟩
theorem ScopeM.ptr {M : Mem} : ∀ {env : Env} {v : Value},ScopeM M env v→∃ p,v = .pointer p∧(p = none↔env = [])
 | [],v,h=>⟨none,h,by simp⟩
 | _::_,v,⟨b,us,up,h1,_⟩=>⟨_,h1,by simp⟩
end Xe

namespace Go.Proofs.YtanbipbiblikbaaDoor
open Xe

theorem var144_eql {w0 : World} {L : Lm} {M : Mem} {Γ : List As} {d : Option Nat} {ty : TypeId} {pos : String} {af : Array Edge} {g : Option (Nat×Bool)} {x y : Operand} {i j : IdT} {n m : Int} (hx : evL L x = some (.agg (i.vals++[vint n]).toArray)) (hy : evL L y = some (.agg (j.vals++[vint m]).toArray)) :
   Yq Tryd.prog w0 L M Γ ⟨d,.binOp .eql 144 x y 144,ty,pos,af,g⟩ (.bool (decide (i = j∧n = m))):=fun k ac w ha _=>by
 obtain ⟨a,b,c⟩:=i
 obtain ⟨a',b',c'⟩:=j
 simp only [execOp,ha.ev hx,ha.ev hy,IdT.vals]
 simp [go_sem,run_eql_struct,run_eqGuard_agg]
 by_cases h1 : a = a' <;> by_cases h2 : b = b' <;> by_cases h3 : c = c' <;> by_cases h4 : n = m <;> simp [h1,h2,h3,h4]

theorem with_ok (w0 : World) (M : Mem) (Γ : List As) (env : Env) (sp : Value) (id : IdT) (n : Int) (v : Val) (usv : List Value) (hs : ScopeM M env sp) (hv : Kn w0 M Γ (RdL M v.enc usv)) :
   CallOk Tryd.prog w0 M Γ 91 #[sp,.agg id.vals.toArray,vint n,.agg usv.toArray] (Gives M Γ fun M' u=>ScopeM M' ((id,n,v)::env) u):=by
 refine CallOk.kn hv fun hv=>?_
 obtain ⟨uk,rfl,hk⟩:=Val.open hv
 obtain ⟨p,rfl,_⟩:=hs.ptr
 refine enter (f:=91) Tryd.func91 rfl Tryd.ntmps91 rfl rfl fun w1 hw1=>?_
 refine CW.seq fun K1 hK1=>?_
 refine CW.region ?_
 refine RL.box _ rfl rfl rfl fun b5=>?_
 refine RL.box _ rfl rfl rfl fun b7=>?_
 refine RL.q (Y.assign rfl) rfl ?_
 refine RL.nil ?_
 refine hK1 _ _ _ ?_
 refine CW.kp [0,2,5,7] rfl ?_
 refine CW.seq fun K2 hK2=>?_
 refine CW.region ?_
 first | refine RL.q (Y.loadAggV [_,_,_] rfl MM MM (by rfl) agg35) rfl ?_ | refine RL.q (Y.loadAll rfl MM (by rfl) agg35) rfl ?_
 refine RL.q (Y.move rfl) rfl ?_
 refine RL.q (Y.build (id.vals++[vint n]) rfl zero144 places144 (by rfl)) rfl ?_
 first | refine RL.q (Y.loadAllR rfl MM MM EL agg26) rfl ?_ | refine RL.q (Y.loadAll rfl MM (by rfl) agg26) rfl ?_ | refine RL.loadPart rfl rfl MM MM (by rfl) (by rfl) agg26 rfl fun us12 hul12 hur12=>?_
 refine RL.q (Y.move rfl) rfl ?_
 refine RL.q (Y.build (id.vals++[vint n]++[vint v.kind,vint v.n,uk]++[.pointer p]) rfl zero146 places146 (by rfl)) rfl ?_
 refine RL.box (id.vals++[vint n]++[vint v.kind,vint v.n,uk]++[.pointer p]) rfl rfl rfl fun b15=>?_
 refine RL.q (Y.assign rfl) rfl ?_
 refine RL.nil ?_
 refine hK2 _ _ _ ?_
 refine CW.kp [8] rfl ?_
 refine CW.ret ?_
 refine ⟨_,rfl,Turn.sealBlock (b:=b15) PK fun M2 hs2 hb2=>Turn.drop ⟨hs2,rfl,b15,[vint v.kind,vint v.n,uk],.pointer p,rfl,hb2,hv.mono hs2,hs.mono hs2⟩ SB⟩

theorem pre_get {vs ws zs : List Value} {j : Nat} {v : Value} (h : vs[j]? = some v) : (vs++ws++zs)[0+j]? = some v:=by
 have hl : j < vs.length:=by
   rcases Nat.lt_or_ge j vs.length with h1 | h1
   · exact h1
   · rw [List.getElem?_eq_none h1] at h;cases h
 rw [Nat.zero_add,List.append_assoc,List.getElem?_append_left hl]
 exact h
theorem mid_get {id : IdT} {n : Int} {us zs : List Value} {j : Nat} {v : Value} (h : us[j]? = some v) : (id.vals++[vint n]++us++zs)[4+j]? = some v:=by
 have hl : j < us.length:=by
   rcases Nat.lt_or_ge j us.length with h1 | h1
   · exact h1
   · rw [List.getElem?_eq_none h1] at h;cases h
 have e : (id.vals++[vint n]).length = 4:=rfl
 rw [List.append_assoc,List.getElem?_append_right OM,e,show 4+j - 4 = j from by omega,List.getElem?_append_left hl]
 exact h
theorem end_get {id : IdT} {n : Int} {us : List Value} {v : Value} (h : us.length = 3) : (id.vals++[vint n]++us++[v])[0+7]? = some v:=by
 have e : (id.vals++[vint n]++us).length = 7:=by rw [List.length_append,h];rfl
 rw [List.getElem?_append_right OM,e]
 rfl
theorem ptr133 : Tryd.prog.underlying 133 = some (.pointer (Tryd.prog.pointee 133)):=by kernel_rfl
theorem envFind_nil {id : IdT} {n : Int} : envFind [] id n = v0:=rfl
theorem envFind_hit {x : IdT×Int×Val} {env : Env} {id : IdT} {n : Int} (h : x.1 = id∧x.2.1 = n) : envFind (x::env) id n = x.2.2:=by
 simp [envFind,List.find?,h]
theorem envFind_miss {x : IdT×Int×Val} {env : Env} {id : IdT} {n : Int} (h : ¬ (x.1 = id∧x.2.1 = n)) : envFind (x::env) id n = envFind env id n:=by
 simp [envFind,List.find?,h]

theorem find_ok (w0 : World) (M : Mem) (Γ : List As) (env : Env) (sp : Value) (id : IdT) (n : Int) (hs : ScopeM M env sp) :
   CallOk Tryd.prog w0 M Γ 111 #[sp,.agg (id.vals++[vint n]).toArray] (Has M Γ fun v=>∃ us,v = .agg us.toArray∧RdL M (envFind env id n).enc us):=by
 obtain ⟨p0,rfl,hp0⟩:=hs.ptr
 refine enterCell (f:=111) Tryd.func111 rfl Tryd.ntmps111 rfl rfl fun w1 hw1=>?_
 refine CW.seq fun K1 hK1=>?_
 refine CW.region ?_
 refine RL.box (id.vals++[vint n]) rfl rfl rfl fun b3=>?_
 refine RL.alloc _ zero26 rfl rfl fun b4=>?_
 refine RL.nil ?_
 refine hK1 _ _ _ ?_
 refine CW.kp [0,3,4] rfl ?_
 refine CW.seq fun K2 hK2=>?_
 refine CW.block ?_
 -- LOOP 1: live [0,3,4] changed [0]
 refine CW.kp [0,3,4] rfl ?_
 refine CW.loopF (fun m Lc M1 Γc=>∃ (e2 : Env) (p : Option Addr),m = e2.length∧Lc = [(0,.pointer p)]∧Γc = []∧M1 = M∧ScopeM M e2 (.pointer p)∧(p = none↔e2 = [])∧envFind env id n = envFind e2 id n) env.length [(0,_)] [] rfl rfl ⟨env,p0,rfl,rfl,rfl,rfl,hs,hp0,rfl⟩ ?_
 rintro m Lc M Γc hs2 ⟨e2,p,rfl,rfl,rfl,rfl,hsc,hpe,hfe⟩
 refine CW.seq fun K3 hK3=>?_
 refine CW.seq fun K4 hK4=>?_
 refine CW.region ?_
 refine RL.q (Y.move rfl) rfl ?_
 refine RL.q (Y.nePtr ptr133 rfl rfl) rfl ?_
 refine RL.nil ?_
 refine hK4 _ _ _ ?_
 refine CW.kp [0,3,4,6] rfl ?_
 refine CW.ite rfl (fun h1=>?_) (fun h1=>?_)
 ·obtain ⟨x,e3,rfl⟩ : ∃ x e3,e2 = x::e3:=by
    cases e2 with
    | nil=>exact absurd (hpe.2 rfl) h1
    | cons x e3=>exact ⟨x,e3,rfl⟩
  obtain ⟨b,us,up,hpb,hM,hr,hrest⟩:=hsc
  injection hpb with hpb
  subst hpb
  obtain ⟨p3,rfl,hp3⟩:=hrest.ptr
  have hul : us.length = 3:=hr.1.trans (Val.enc_len _)
  refine CW.addRds hr ?_
  refine CW.skip ?_
  refine hK3 _ _ _ ?_
  refine CW.seq fun K5 hK5=>?_
  refine CW.block ?_
  refine CW.seq fun K6 hK6=>?_
  refine CW.regionH mix _ _ (fun _ hw=>hw) ?_
  refine HL.take 0 rfl KR KR KR rfl (Y.move rfl) rfl ?_
  refine HL.take 4 rfl KR KR KR rfl (Y.loadAll rfl MM (by rfl) agg144) rfl ?_
  refine HL.step 1 rfl KR ?_
  refine RL.q (Y.nilCheck rfl) rfl ?_
  refine RL.nil ⟨keep_same SB,?_⟩
  refine HL.take 2 rfl KR KR KR rfl (Y.field rfl field146_0) rfl ?_
  refine HL.take 3 rfl KR KR KR rfl (Y.loadAggB (x.1.vals++[vint x.2.1]) rfl hM (fun _ _ hj=>pre_get hj) agg144) rfl ?_
  refine HL.take 5 rfl KR KR KR rfl (var144_eql rfl rfl) rfl ?_
  refine HL.done KR ?_
  refine hK6 _ _ _ ?_
  refine CW.kp [0,3,4,16] rfl ?_
  refine CW.ite rfl (fun h2=>?_) (fun h2=>?_)
  ·refine CW.seq fun K7 hK7=>?_
   refine CW.region ?_
   refine RL.q (Y.move rfl) rfl ?_
   refine RL.q (Y.nilCheck rfl) rfl ?_
   refine RL.q (Y.field rfl field146_1) rfl ?_
   refine RL.q (Y.loadAggB us rfl hM (fun _ _ hj=>mid_get hj) (by rw [hul];exact agg26)) rfl ?_
   first | refine RL.storeRds 3 rfl rfl RP MM EL (by first | exact Kn.lenRds MM EL | exact Kn.lenLit rfl) size26 ?_ | refine RL.storeAgg _ rfl rfl RP (by rfl) (by first | (simp;done) | simp [IdT.vals]) (by first | (simp [Value.oneCell'];done) | simp [Value.oneCell',IdT.vals]) size26 ?_
   refine RL.nil ?_
   refine hK7 _ _ _ ?_
   refine CW.kp [4] rfl ?_
   refine CW.ret ?_
   refine CellAt.mk rfl MM (by first | rfl | assumption) agg26 (Turn.drop ⟨rfl,rfl,us,rfl,?_⟩ SB)
   rw [hfe,envFind_hit h2]
   exact hr
  refine CW.skip ?_
  refine hK5 _ _ _ ?_
  refine CW.region ?_
  refine RL.q (Y.move rfl) rfl ?_
  refine RL.q (Y.nilCheck rfl) rfl ?_
  refine RL.q (Y.field rfl field146_2) rfl ?_
  refine RL.q (Y.loadB rfl hM (end_get hul) flat133) rfl ?_
  refine RL.q (Y.assign rfl) rfl ?_
  refine RL.nil ?_
  refine ⟨e3.length,[(0,_)],?_,(KP [0,3,4]),?_⟩
  · simp
  · exact Turn.drop ⟨[],rfl,hs2,e3,p3,rfl,rfl,rfl,rfl,hrest,hp3,by rw [hfe,envFind_miss h2]⟩ SB
 obtain rfl : e2 = []:=hpe.1 (Decidable.not_not.1 h1)
 refine CW.exit ?_
 refine hK2 _ _ _ ?_
 refine CW.seq fun K8 hK8=>?_
 refine CW.region ?_
 refine RL.q (Y.build [_,_,_] rfl zero26 places26 (by rfl)) rfl ?_
 first | refine RL.storeRds 3 rfl rfl RP MM EL (by first | exact Kn.lenRds MM EL | exact Kn.lenLit rfl) size26 ?_ | refine RL.storeAgg _ rfl rfl RP (by rfl) (by first | (simp;done) | simp [IdT.vals]) (by first | (simp [Value.oneCell'];done) | simp [Value.oneCell',IdT.vals]) size26 ?_
 refine RL.nil ?_
 refine hK8 _ _ _ ?_
 refine CW.kp [4] rfl ?_
 refine CW.ret ?_
 refine CellAt.mk rfl MM (by rfl) agg26 (Turn.drop ⟨rfl,rfl,_,rfl,?_⟩ SB)
 rw [hfe,envFind_nil]
 exact leaf_rd 0 0

theorem edepth_ok (N : Nat) : ∀ (w0 : World) (M : Mem) (Γ : List As) (v : Val) (usv : List Value) ,v.depth = N→Kn w0 M Γ (RdL M v.enc usv)→v.depth≤4611686018427387904 → 
   CallOk Tryd.prog w0 M Γ 104 #[.agg usv.toArray] (Is M Γ (vint (v.depth : Nat))):=by
 induction N using Nat.strongRecOn
 rename_i N ih
 intro w0 M Γ v usv hN hv hd
 have hdd:=Val.depth_eq v
 refine CallOk.kn hv fun hv=>?_
 rw [Val.enc_eq] at hv
 refine enter (f:=104) Tryd.func104 rfl Tryd.ntmps104 rfl rfl fun w1 hw1=>?_
 refine CW.addRds hv ?_
 refine CW.seq fun K1 hK1=>?_
 refine CW.region ?_
 refine RL.box _ rfl rfl rfl fun b1=>?_
 refine RL.q (Y.assign rfl) rfl ?_
 refine RL.nil ?_
 refine hK1 _ _ _ ?_
 refine CW.kp [1] rfl ?_
 refine CW.seq fun K2 hK2=>?_
 refine CW.region ?_
 refine RL.q (Y.assign rfl) rfl ?_
 refine RL.nil ?_
 refine hK2 _ _ _ ?_
 refine CW.kp [1,3] rfl ?_
 refine CW.seq fun K3 hK3=>?_
 refine CW.seq fun K4 hK4=>?_
 refine CW.region ?_
 refine RL.q (Y.field rfl field26_2) rfl ?_
 first | refine RL.q (Y.loadOwnV rfl MM MM (by rfl) flat24) rfl ?_ | refine RL.q (Y.loadOwn rfl MM (by rfl) flat24) rfl ?_ | refine RL.loadOwnSl rfl rfl MM MM (by rfl) flat24 rfl fun a7 c7 hu7 hc7 hl7=>?_
 refine RL.q (Y.len rfl Tryd.underlying24) rfl ?_
 refine RL.q (Y.move rfl) rfl ?_
 refine RL.nil ?_
 refine hK4 _ _ _ ?_
 refine CW.kp [3,7,8,9] rfl ?_
 refine CW.block ?_
 -- LOOP 1: live [3,7,8,9] changed [3,9]
 refine CW.kp [3,9,7,8] rfl ?_
 refine CW.loopF (fun m Lc M1 Γc=>∃ k : Nat,m = v.kids.length - k∧k≤v.kids.length∧Lc = [(3,vint (Val.depths (v.kids.take k) : Nat)),(9,vint k)]∧Γc = []∧M1 = M) (v.kids.length) [(3,_),(9,_)] _ rfl rfl ⟨0,rfl,Nat.zero_le _,rfl,rfl,rfl⟩ ?_
 rintro m Lc M Γc hs ⟨k,rfl,hk,rfl,rfl,rfl⟩
 refine CW.seq fun K5 hK5=>?_
 refine CW.region ?_
 refine RL.q (Y.lss rfl rfl) rfl ?_
 refine RL.nil ?_
 refine hK5 _ _ _ ?_
 refine CW.kp [3,7,8,9,10] rfl ?_
 refine CW.seq fun K6 hK6=>?_
 refine CW.ite rfl (fun h1=>?_) (fun h1=>?_)
 ·have hka : k < v.kids.length:=by omega
  have hss:=Val.depths_succ v.kids k hka
  have hdk:=Val.depth_kid (List.getElem_mem hka)
  refine CW.skip ?_
  refine hK6 _ _ _ ?_
  refine CW.seq fun K7 hK7=>?_
  refine CW.block ?_
  refine CW.seq fun K8 hK8=>?_
  refine CW.region ?_
  refine RL.q (Y.index _ rfl rfl rfl AO slice24 SM) rfl ?_
  refine RL.loadAgg rfl rfl MM (Eq.trans (flat_take Val.enc_len _ _ _ (List.getElem?_eq_getElem AO)) (Val.enc_eq _)) (by rfl) agg26 rfl fun us12 hul12 hur12=>?_
  refine RL.alloc _ zero26 rfl rfl fun b5=>?_
  first | refine RL.storeRds 3 rfl rfl RP MM EL (by first | exact Kn.lenRds MM EL | exact Kn.lenLit rfl) size26 ?_ | refine RL.storeAgg _ rfl rfl RP (by rfl) (by first | (simp;done) | simp [IdT.vals]) (by first | (simp [Value.oneCell'];done) | simp [Value.oneCell',IdT.vals]) size26 ?_
  refine RL.nil ?_
  refine hK8 _ _ _ ?_
  refine CW.kp [3,5,7,8,9] rfl ?_
  refine CW.region ?_
  refine RL.q (Y.move rfl) rfl ?_
  first | refine RL.q (Y.loadAllR rfl MM MM EL agg26) rfl ?_ | refine RL.q (Y.loadAll rfl MM (by rfl) agg26) rfl ?_ | refine RL.loadPart rfl rfl MM MM (by rfl) (by rfl) agg26 rfl fun us14 hul14 hur14=>?_
  refine RL.callv rfl func104 rfl rfl (by exact ih _ (by rw [←hN];exact Val.depth_kid (List.getElem_mem hka)) _ _ _ v.kids[k] _ rfl KK OM) ?_
  refine RL.q (Y.max2 rfl rfl) rfl ?_
  refine RL.q (Y.assign rfl) rfl ?_
  refine RL.nil ?_
  refine hK7 _ _ _ ?_
  refine CW.kp [3,7,8,9] rfl ?_
  refine CW.region ?_
  refine RL.q (Y.add rfl rfl OM) rfl ?_
  refine RL.q (Y.move rfl) rfl ?_
  refine RL.nil ?_
  refine ⟨v.kids.length - (k+1),[(3,_),(9,_)],?_,(KP [3,9,7,8]),?_⟩
  · omega
  · exact Turn.drop ⟨[],rfl,hs,k+1,rfl,by omega,by rw [hss,cast_max];rfl,rfl,rfl⟩ SB
 refine CW.exit ?_
 refine hK3 _ _ _ ?_
 refine CW.seq fun K9 hK9=>?_
 have hka : k = v.kids.length:=by omega
 subst hka
 have ht : v.kids.take v.kids.length = v.kids:=List.take_length
 refine CW.region ?_
 refine RL.q (Y.move rfl) rfl ?_
 refine RL.q (Y.add rfl rfl (by rw [ht];omega)) rfl ?_
 refine RL.q (Y.assign rfl) rfl ?_
 refine RL.nil ?_
 refine hK9 _ _ _ ?_
 refine CW.kp [2] rfl ?_
 refine CW.ret ?_
 rw [ht,show ((Val.depths v.kids : Nat) : Int)+1 = (v.depth : Nat) from by omega]
 exact ⟨_,rfl,Turn.drop ⟨rfl,rfl,rfl⟩ SB⟩
end Go.Proofs.YtanbipbiblikbaaDoor

namespace Xe
open Go
abbrev RunA (br : Nat) (um ud : Value) (F s : Int) : As:=.own br 131 [um,ud,vint F,vint s]
abbrev ptrB (b : Nat) : Value:=.pointer (some (adr (some ⟨b,0,none⟩) 0))
abbrev errE (x : Int) : List PanicEntry:=[{ v:=.iface 60 (vint x),recovered:=false }]
abbrev EvPost (M : Mem) (Γ : List As) (br : Nat) (um ud : Value) (F : Int) (r : EO) : Post:=fun v M' Γ'=>∃ x s',r = .ok x s'∧0≤s'∧s'≤F∧Sub M M'∧(∃ us,v = .agg us.toArray∧RdL M' x.enc us)∧Γ' = RunA br um ud F s'::Γ
abbrev EvPanic (M : Mem) (Γ : List As) (br : Nat) (um ud : Value) (F : Int) (r : EO) : PPost:=fun ch M' Γ'=>∃ x s',r = .err x∧ch = errE x∧Sub M M'∧Γ' = RunA br um ud F s'::Γ
abbrev AllPost (M : Mem) (Γ : List As) (br : Nat) (um ud : Value) (F : Int) (r : AE) : Post:=fun v M' Γ'=>∃ l s',r = .ok l s'∧0≤s'∧s'≤F∧Sub M M'∧Rd M' (.sl l.length 3 (l.flatMap Val.enc)) v∧Γ' = RunA br um ud F s'::Γ
abbrev AllPanic (M : Mem) (Γ : List As) (br : Nat) (um ud : Value) (F : Int) (r : AE) : PPost:=fun ch M' Γ'=>∃ x s',r = .err x∧ch = errE x∧Sub M M'∧Γ' = RunA br um ud F s'::Γ
structure EvHyp (M : Mem) (p : ProgT) (um ud : Value) (F s : Int) (env : Env) (sp : Value) : Prop where
 nums : NumsM M
 prog : RdL M p.enc [um,ud]
 s0 : 0≤s
 sF : s≤F
 F1 : F≤1099511627776
 scope : ScopeM M env sp
theorem EvHyp.mono {M M' : Mem} {p : ProgT} {um ud : Value} {F s s' : Int} {env env' : Env} {sp sp' : Value} (h : EvHyp M p um ud F s env sp) (hs : Sub M M') (h0 : 0≤s') (h1 : s'≤F) (hsc : ScopeM M' env' sp') : EvHyp M' p um ud F s' env' sp' :=
 ⟨h.nums.mono hs,h.prog.mono hs,h0,h1,h.F1,hsc⟩
theorem EvHyp.next {M M' : Mem} {p : ProgT} {um ud : Value} {F s s' : Int} {env : Env} {sp : Value} (h : EvHyp M p um ud F s env sp) (hs : Sub M M') (h0 : 0≤s') (h1 : s'≤F) : EvHyp M' p um ud F s' env sp :=
 h.mono hs h0 h1 (h.scope.mono hs)
def EvOk (P : Program) (p : ProgT) (F : Int) (br : Nat) (um ud : Value) (g : Nat) : Prop :=
 ∀ (w0 : World) (M : Mem) (Γ : List As) (e : Ex) (use : List Value) (env : Env) (sp : Value) (s : Int),EvHyp M p um ud F s env sp→Kn w0 M (RunA br um ud F s::Γ) (RdL M e.enc use)→evalF p F g e env s ≠ .bad →
  CallP P w0 M (RunA br um ud F s::Γ) 74 #[ptrB br,.agg use.toArray,sp] (EvPost M Γ br um ud F (evalF p F g e env s)) (EvPanic M Γ br um ud F (evalF p F g e env s))
theorem evalF_fuel {p : ProgT} {F s : Int} {g : Nat} {e : Ex} {env : Env} (h : F≤s) : evalF p F g e env s = .err 18:=by
 cases g <;> rw [evalF,if_pos h]
theorem evalF_more {p : ProgT} {F s : Int} {g : Nat} {e : Ex} {env : Env} (h : ¬ F≤s) (hb : evalF p F g e env s ≠ .bad) : ∃ g',g = g'+1∧evalF p F g e env s = (valueF p (evalF p F g') e env (s+1)).bind chkV:=by
 cases g with
 | zero=>rw [evalF,if_neg h] at hb;exact absurd rfl hb
 | succ g=>exact ⟨g,rfl,by rw [evalF,if_neg h]⟩
theorem EO.bind_nb {r : EO} {k : Val→Int→EO} (h : r.bind k ≠ .bad) : r ≠ .bad:=fun e=>h (by rw [e];rfl)
theorem chkV_nb {v : Val} {s : Int} (h : chkV v s ≠ .bad) : v.size≤1152921504606846976:=by
 unfold chkV at h
 split at h
 ·exact absurd rfl h
 ·omega
theorem chkV_err {v : Val} {s : Int} (h : v.size≤1152921504606846976) (h2 : 256 < v.size∨24 < v.depth) : chkV v s = .err 4:=by
 unfold chkV
 rw [if_neg (by omega),if_pos h2]
theorem chkV_ok {v : Val} {s : Int} (h2 : ¬ (256 < v.size∨24 < v.depth)) : chkV v s = .ok v s:=by
 unfold chkV
 rw [if_neg (by omega),if_neg h2]
def AE.pre (l : List Val) : AE→AE
 | .ok l2 s=>.ok (l++l2) s
 | r=>r
theorem AE.pre_nil (r : AE) : r.pre [] = r:=by cases r <;> rfl
theorem allF_end {g : Ex→Int→EO} {es : List Ex} {k : Nat} {s : Int} (h : k = es.length) : allF g (es.drop k) s = .ok [] s:=by
 subst h
 rw [List.drop_length,allF]
theorem allF_drop {g : Ex→Int→EO} {es : List Ex} {k : Nat} (h : k < es.length) (s : Int) : allF g (es.drop k) s = match g es[k] s with
  | .ok v s1=>(allF g (es.drop (k+1)) s1).pre [v]
  | .err x=>.err x
  | .bad=>.bad:=by
 rw [List.drop_eq_getElem_cons h,allF]
 cases g es[k] s with
 | ok v s1 =>
  simp only
  cases allF g (es.drop (k+1)) s1 <;> rfl
 | err x=>rfl
 | bad=>rfl
theorem allF_nb {g : Ex→Int→EO} {es : List Ex} {k : Nat} (h : k < es.length) {s : Int} {l : List Val} {r : AE} (hr : r = (allF g (es.drop k) s).pre l) (hb : r ≠ .bad) : g es[k] s ≠ .bad:=by
 intro e
 rw [allF_drop h,e] at hr
 exact hb hr
theorem allF_er {g : Ex→Int→EO} {es : List Ex} {k : Nat} (h : k < es.length) {s x : Int} {l : List Val} {r : AE} (hr : r = (allF g (es.drop k) s).pre l) (he : g es[k] s = .err x) : r = .err x:=by
 rw [allF_drop h,he] at hr
 exact hr
theorem allF_go {g : Ex→Int→EO} {es : List Ex} {k : Nat} (h : k < es.length) {s s1 : Int} {v : Val} {l : List Val} {r : AE} (hr : r = (allF g (es.drop k) s).pre l) (he : g es[k] s = .ok v s1) : r = (allF g (es.drop (k+1)) s1).pre (l++[v]):=by
 rw [hr,allF_drop h]
 simp only [he]
 cases allF g (es.drop (k+1)) s1 <;> simp [AE.pre]
theorem argEnv_step {ss : List SlotT} {al : List Val} {k : Nat} (h : k < ss.length) {e2 env2 : Env} (he : argEnv (ss.drop k) (al.drop k) e2 = some env2) : ∃ h2 : k < al.length,argEnv (ss.drop (k+1)) (al.drop (k+1)) ((ss[k].id,0,al[k])::e2) = some env2:=by
 rw [List.drop_eq_getElem_cons h] at he
 rcases Nat.lt_or_ge k al.length with h2 | h2
 ·refine ⟨h2,?_⟩
  rw [List.drop_eq_getElem_cons h2,argEnv] at he
  exact he
 ·rw [List.drop_eq_nil_of_le h2,argEnv] at he
  cases he
theorem argEnv_end {ss : List SlotT} {al : List Val} {k : Nat} (h : k = ss.length) {e2 env2 : Env} (he : argEnv (ss.drop k) (al.drop k) e2 = some env2) : e2 = env2:=by
 subst h
 rw [List.drop_length,argEnv] at he
 exact Option.some.inj he
theorem kidF_at {g : Ex→Env→Int→EO} {l : List Ex} {k : Nat} {z : Int} (hz : z = (k : Int)) {env : Env} {s : Int} {r : EO} (hr : r = kidF g l z env s) (hb : r ≠ .bad) : ∃ h : k < l.length,r = g l[k] env s:=by
 subst hz
 rw [kidF,if_pos (by omega),Int.toNat_natCast] at hr
 rcases Nat.lt_or_ge k l.length with h | h
 ·rw [List.getElem?_eq_getElem h] at hr
  exact ⟨h,hr⟩
 ·rw [List.getElem?_eq_none h] at hr
  exact absurd hr hb
theorem kidF_pos {g : Ex→Env→Int→EO} {l : List Ex} {z : Int} {env : Env} {s : Int} {r : EO} (hr : r = kidF g l z env s) (hb : r ≠ .bad) : ∃ k : Nat,z = (k : Int):=by
 by_cases h : 0≤z
 ·exact ⟨z.toNat,by omega⟩
 ·rw [kidF,if_neg h] at hr
  exact absurd hr hb
theorem foldF_drop {g : Val→Val→Int→EO} {l : List Val} {k : Nat} (h : k < l.length) (acc : Val) (s : Int) : foldF g (l.drop k) acc s = (g l[k] acc s).bind fun a s1=>foldF g (l.drop (k+1)) a s1:=by
 rw [List.drop_eq_getElem_cons h,foldF]
theorem foldF_end {g : Val→Val→Int→EO} {l : List Val} {k : Nat} (h : k = l.length) (acc : Val) (s : Int) : foldF g (l.drop k) acc s = .ok acc s:=by
 subst h
 rw [List.drop_length,foldF]
theorem bind_nb {a r : EO} {k : Val→Int→EO} (hr : r = a.bind k) (hb : r ≠ .bad) : a ≠ .bad:=fun e=>by
 rw [e] at hr
 exact hb hr
theorem bind_er {a r : EO} {k : Val→Int→EO} {x : Int} (hr : r = a.bind k) (he : a = .err x) : r = .err x:=by rw [hr,he];rfl
theorem bind_ok {a r : EO} {k : Val→Int→EO} {v : Val} {s : Int} (hr : r = a.bind k) (he : a = .ok v s) : r = k v s:=by rw [hr,he];rfl
theorem okOpt_at {o : Option Val} {s : Int} {r : EO} (hr : r = okOpt o s) (hb : r ≠ .bad) : ∃ v,o = some v∧r = .ok v s:=by
 cases o with
 | none=>exact absurd hr hb
 | some v=>exact ⟨v,rfl,hr⟩
theorem allK_nb {g : Ex→Int→EO} {l : List Ex} {s : Int} {r : AE} (hr : r = allK g l s) (hb : r ≠ .bad) : l.length≤1000000∧r = allF g l s:=by
 unfold allK at hr
 split at hr
 ·exact absurd hr hb
 ·exact ⟨by omega,hr⟩
theorem abind_nb {a : AE} {r : EO} {k : List Val→Int→EO} (hr : r = a.bind k) (hb : r ≠ .bad) : a ≠ .bad:=fun e=>by
 rw [e] at hr
 exact hb hr
theorem abind_er {a : AE} {r : EO} {k : List Val→Int→EO} {x : Int} (hr : r = a.bind k) (he : a = .err x) : r = .err x:=by rw [hr,he];rfl
theorem abind_ok {a : AE} {r : EO} {k : List Val→Int→EO} {v : List Val} {s : Int} (hr : r = a.bind k) (he : a = .ok v s) : r = k v s:=by rw [hr,he];rfl
theorem allF_small {p : ProgT} {F : Int} {g : Nat} {env : Env} : ∀ {es : List Ex} {s s' : Int} {l : List Val},allF (fun x s=>evalF p F g x env s) es s = .ok l s'→∀ v∈l,v.size≤256
 | [],s,s',l,h,v,hv=>by
  rw [allF] at h
  injection h with h1 _
  subst h1
  simp at hv
 | e::es,s,s',l,h,v,hv=>by
  rw [allF] at h
  cases he : evalF p F g e env s with
  | err x=>simp only [he] at h;cases h
  | bad=>simp only [he] at h;cases h
  | ok u s1 =>
   simp only [he] at h
   cases ha : allF (fun x s=>evalF p F g x env s) es s1 with
   | err x=>simp only [ha] at h;cases h
   | bad=>simp only [ha] at h;cases h
   | ok l1 s2 =>
    simp only [ha] at h
    injection h with h1 _
    subst h1
    rcases List.mem_cons.1 hv with rfl | hv
    ·exact (evalF_small he).1
    ·exact allF_small ha v hv
end Xe

namespace Go.Proofs.YtanbipbiblikbaaDoor
open Xe

theorem concrete60 : Tryd.prog.concrete 60 = true:=by kernel_rfl
def ValOk (p : ProgT) (F : Int) (br : Nat) (um ud : Value) (g : Nat) : Prop :=
 ∀ (w0 : World) (M : Mem) (Γ : List As) (e : Ex) (use : List Value) (env : Env) (sp : Value) (s : Int),EvHyp M p um ud F s env sp→Kn w0 M (RunA br um ud F s::Γ) (RdL M e.enc use)→valueF p (evalF p F g) e env s ≠ .bad →
   CallP Tryd.prog w0 M (RunA br um ud F s::Γ) 102 #[ptrB br,.agg use.toArray,sp] (EvPost M Γ br um ud F (valueF p (evalF p F g) e env s)) (EvPanic M Γ br um ud F (valueF p (evalF p F g) e env s))

theorem eval_step {p : ProgT} {F : Int} {br : Nat} {um ud : Value} (g : Nat) (ihv : ∀ g',g = g'+1→ValOk p F br um ud g') : EvOk Tryd.prog p F br um ud g:=by
 intro w0 M Γ e use env sp s hE he hb
 refine CallP.kn he fun he=>?_
 have hs0:=hE.s0
 have hsF:=hE.sF
 have hF1:=hE.F1
 refine enterCellP (f:=74) Tryd.func74 rfl Tryd.ntmps74 rfl rfl fun w1 hw1=>?_
 rw [Ex.enc_eq] at he
 refine CW.addRds he ?_
 refine CW.seq fun K1 hK1=>?_
 refine CW.region ?_
 refine RL.box _ rfl rfl rfl fun b4=>?_
 refine RL.alloc _ zero26 rfl rfl fun b6=>?_
 refine RL.nil ?_
 refine hK1 _ _ _ ?_
 refine CW.kp [0,2,4,6] rfl ?_
 refine CW.seq fun K2 hK2=>?_
 refine CW.seq fun K3 hK3=>?_
 refine CW.regionQ mix KR ?_
 refine QL.q (Y.move rfl) rfl ?_
 refine QL.q (Y.nilCheck rfl) rfl ?_
 refine QL.q (Y.field rfl field131_2) rfl ?_
 first | refine QL.q (Y.loadOwnV rfl MM MM (by rfl) flat3) rfl ?_ | refine QL.q (Y.loadOwn rfl MM (by rfl) flat3) rfl ?_ | refine QL.loadOwnSl rfl rfl MM MM (by rfl) flat3 rfl fun a11 c11 hu11 hc11 hl11=>?_
 refine QL.q (Y.move rfl) rfl ?_
 refine QL.q (Y.nilCheck rfl) rfl ?_
 refine QL.q (Y.field rfl field131_1) rfl ?_
 first | refine QL.q (Y.loadOwnV rfl MM MM (by rfl) flat3) rfl ?_ | refine QL.q (Y.loadOwn rfl MM (by rfl) flat3) rfl ?_ | refine QL.loadOwnSl rfl rfl MM MM (by rfl) flat3 rfl fun a15 c15 hu15 hc15 hl15=>?_
 refine QL.q (Y.geq rfl rfl) rfl ?_
 refine QL.nil ?_
 refine hK3 _ _ _ ?_
 refine CW.kp [0,2,4,6,16] rfl ?_
 refine CW.ite rfl (fun h1=>?_) (fun h1=>?_)
 ·refine CW.regionX ?_
  refine RX.step ?_
  refine RL.q (Y.iface concrete60 rfl) rfl ?_
  refine RL.nil ?_
  refine RX.panic rfl ?_
  exact Turn.drop ⟨18,s,evalF_fuel h1,rfl,Sub.refl _,rfl⟩ SB
 obtain ⟨g',rfl,hev⟩:=evalF_more h1 hb
 rw [hev] at hb
 have hvb:=EO.bind_nb hb
 refine CW.skip ?_
 refine hK2 _ _ _ ?_
 refine CW.seq fun K4 hK4=>?_
 refine CW.region ?_
 refine RL.q (Y.move rfl) rfl ?_
 refine RL.q (Y.nilCheck rfl) rfl ?_
 refine RL.q (Y.field rfl field131_2) rfl ?_
 first | refine RL.q (Y.loadOwnV rfl MM MM (by rfl) flat3) rfl ?_ | refine RL.q (Y.loadOwn rfl MM (by rfl) flat3) rfl ?_ | refine RL.loadOwnSl rfl rfl MM MM (by rfl) flat3 rfl fun a21 c21 hu21 hc21 hl21=>?_
 refine RL.q (Y.add rfl rfl OM) rfl ?_
 refine RL.q (Y.nilCheck rfl) rfl ?_
 refine RL.q (Y.field rfl field131_2) rfl ?_
 refine RL.store _ rfl rfl RP (by rfl) (by simp) (by rfl) size3 ?_
 refine RL.nil ?_
 refine hK4 _ _ _ ?_
 refine CW.kp [0,2,4,6] rfl ?_
 refine CW.seq fun K5 hK5=>?_
 refine CW.regionX ?_
 refine RX.step ?_
 refine RL.q (Y.move rfl) rfl ?_
 refine RL.nil ?_
 refine RX.step ?_
 first | refine RL.q (Y.loadAllR rfl MM MM EL agg50) rfl ?_ | refine RL.q (Y.loadAll rfl MM (by rfl) agg50) rfl ?_ | refine RL.loadPart rfl rfl MM MM (by rfl) (by rfl) agg50 rfl fun us26 hul26 hur26=>?_
 refine RL.nil ?_
 refine RX.step ?_
 refine RL.q (Y.move rfl) rfl ?_
 refine RL.nil ?_
 refine RX.call rfl func102 rfl rfl (by exact CallP.pick (x:=.own br 131 [um,ud,vint F,vint (s+1)]) PK (ihv g' rfl _ _ _ e _ env sp (s+1) (hE.next (Sub.refl _) OM OM) KK hvb)) ?_ (by rintro ch Mp _ ⟨x,sp2,hpe,rfl,hsp,rfl⟩;exact Turn.drop ⟨x,sp2,by rw [hev,hpe,EO.bind],rfl,hsp,rfl⟩ SB)
 rintro v28 M28 _ ⟨x28,s28,hv28,h028,h1F28,hs28,⟨us28,rfl,hr28⟩,rfl⟩
 have hul28 : us28.length = 3:=hr28.1.trans (Val.enc_len _)
 have hsz:=chkV_nb (v:=x28) (s:=s28) (by rw [hv28] at hb;exact hb)
 have hw : w64 (x28.size : Int) = (x28.size : Int):=w64_in OM
 have hdl:=Val.depth_le x28
 refine RX.of ?_
 refine RL.addRds hr28 ?_
 refine RL.alloc _ zero26 rfl rfl fun b7=>?_
 first | refine RL.storeRds 3 rfl rfl RP MM EL (by first | exact Kn.lenRds MM EL | exact Kn.lenLit rfl) size26 ?_ | refine RL.storeAgg _ rfl rfl RP (by rfl) (by first | (simp;done) | simp [IdT.vals]) (by first | (simp [Value.oneCell'];done) | simp [Value.oneCell',IdT.vals]) size26 ?_
 refine RL.nil ?_
 refine hK5 _ _ _ ?_
 refine CW.kp [6,7] rfl ?_
 refine CW.seq fun K6 hK6=>?_
 refine CW.seq fun K7 hK7=>?_
 refine CW.region ?_
 first | refine RL.q (Y.loadAllR rfl MM MM EL agg26) rfl ?_ | refine RL.q (Y.loadAll rfl MM (by rfl) agg26) rfl ?_ | refine RL.loadPart rfl rfl MM MM (by rfl) (by rfl) agg26 rfl fun us29 hul29 hur29=>?_
 refine RL.callv rfl func103 rfl rfl (by exact (hw ▸ size_ok _ _ _ _ x28 us28 rfl KK)) ?_
 refine RL.qs (Y.gtr rfl rfl) rfl (fun g31=>?_) (fun g31=>?_)
 ·refine RL.q (Y.move rfl) rfl ?_
  refine RL.no WG rfl ?_
  refine RL.no WG rfl ?_
  refine RL.no WG rfl ?_
  refine RL.q (Y.pickT rfl rfl) rfl ?_
  refine RL.nil ?_
  refine hK7 _ _ _ ?_
  refine CW.kp [6,7,36] rfl ?_
  refine CW.yes rfl ?_
  refine CW.regionX ?_
  refine RX.step ?_
  refine RL.q (Y.iface concrete60 rfl) rfl ?_
  refine RL.nil ?_
  refine RX.panic rfl ?_
  exact Turn.drop ⟨4,s28,by rw [hev,hv28];exact chkV_err hsz OM,rfl,hs28,rfl⟩ SB
 refine RL.q (Y.move rfl) rfl ?_
 first | refine RL.qg WG (Y.loadAllR rfl MM MM EL agg26) rfl ?_ | refine RL.qg WG (Y.loadAll rfl MM (by rfl) agg26) rfl ?_ | refine RL.loadPart WG rfl MM MM (by rfl) (by rfl) agg26 rfl fun us33 hul33 hur33=>?_
 refine RL.callv WG func104 rfl rfl (by exact edepth_ok _ _ _ _ x28 us28 rfl KK OM) ?_
 refine RL.qg WG (Y.gtr rfl rfl) rfl ?_
 refine RL.q (Y.pickF rfl rfl) rfl ?_
 refine RL.nil ?_
 refine hK7 _ _ _ ?_
 refine CW.kp [6,7,36] rfl ?_
 refine CW.ite rfl (fun h2=>?_) (fun h2=>?_)
 ·refine CW.regionX ?_
  refine RX.step ?_
  refine RL.q (Y.iface concrete60 rfl) rfl ?_
  refine RL.nil ?_
  refine RX.panic rfl ?_
  exact Turn.drop ⟨4,s28,by rw [hev,hv28];exact chkV_err hsz OM,rfl,hs28,rfl⟩ SB
 refine CW.skip ?_
 refine hK6 _ _ _ ?_
 refine CW.seq fun K8 hK8=>?_
 refine CW.region ?_
 first | refine RL.q (Y.loadAllR rfl MM MM EL agg26) rfl ?_ | refine RL.q (Y.loadAll rfl MM (by rfl) agg26) rfl ?_ | refine RL.loadPart rfl rfl MM MM (by rfl) (by rfl) agg26 rfl fun us38 hul38 hur38=>?_
 first | refine RL.storeRds 3 rfl rfl RP MM EL (by first | exact Kn.lenRds MM EL | exact Kn.lenLit rfl) size26 ?_ | refine RL.storeAgg _ rfl rfl RP (by rfl) (by first | (simp;done) | simp [IdT.vals]) (by first | (simp [Value.oneCell'];done) | simp [Value.oneCell',IdT.vals]) size26 ?_
 refine RL.nil ?_
 refine hK8 _ _ _ ?_
 refine CW.kp [6] rfl ?_
 refine CW.ret ?_
 refine CellAt.mk rfl MM (by first | rfl | exact hul28) agg26 (Turn.drop ⟨x28,s28,?_,h028,h1F28,hs28,⟨_,rfl,hr28⟩,rfl⟩ SB)
 rw [hev,hv28]
 exact chkV_ok OM
end Go.Proofs.YtanbipbiblikbaaDoor

namespace Go.Proofs.YtanbipbiblikbaaDoor
open Xe

theorem all_ok {p : ProgT} {F : Int} {br : Nat} {um ud : Value} {g : Nat} (ih : EvOk Tryd.prog p F br um ud g) (w0 : World) (M : Mem) (Γ : List As) (es : List Ex) (u : Value) (env : Env) (sp : Value) (s : Int) (hE : EvHyp M p um ud F s env sp) (hu : Kn w0 M (RunA br um ud F s::Γ) (Rd M (.sl es.length 15 (es.flatMap Ex.enc)) u)) (hl : es.length≤1000000) (r : AE) (hr : r = allF (fun x s=>evalF p F g x env s) es s) (hb : r ≠ .bad) :
   CallP Tryd.prog w0 M (RunA br um ud F s::Γ) 112 #[ptrB br,u,sp] (AllPost M Γ br um ud F r) (AllPanic M Γ br um ud F r):=by
 refine CallP.kn hu fun hu=>?_
 obtain ⟨a1,c1,rfl,hc1,hlim1,hlen1⟩:=hu.slice
 have hs0:=hE.s0
 have hsF:=hE.sF
 have hF1:=hE.F1
 refine enterP (f:=112) Tryd.func112 rfl Tryd.ntmps112 rfl rfl fun w1 hw1=>?_
 refine CW.addRd hu ?_
 refine CW.seq fun K1 hK1=>?_
 refine CW.region ?_
 refine RL.q (Y.assign rfl) rfl ?_
 refine RL.nil ?_
 refine hK1 _ _ _ ?_
 refine CW.kp [0,1,2] rfl ?_
 refine CW.seq fun K2 hK2=>?_
 refine CW.region ?_
 refine RL.q (Y.assign rfl) rfl ?_
 refine RL.nil ?_
 refine hK2 _ _ _ ?_
 refine CW.kp [0,1,2,7] rfl ?_
 refine CW.seq fun K3 hK3=>?_
 refine CW.seq fun K4 hK4=>?_
 refine CW.front (x:=RunA br um ud F s) PK ?_
 refine CW.accNil 26 3 ?_
 refine CW.addRds (RdL.nil _) ?_
 refine CW.region ?_
 refine RL.q (Y.move rfl) rfl ?_
 refine RL.q (Y.len rfl Tryd.underlying47) rfl ?_
 refine RL.q (Y.move rfl) rfl ?_
 refine RL.nil ?_
 refine hK4 _ _ _ ?_
 refine CW.kp [0,2,7,10,11,12] rfl ?_
 refine CW.block ?_
 -- LOOP 1: live [0,2,7,10,11,12] changed [7,12]
 refine CW.kp [7,12,0,2,10,11] rfl ?_
 refine CW.loopF (fun m Lc M1 Γc=>∃ (k : Nat) (dn : List Val) (sk : Int) (ua : Option Addr) (ca : Nat) (us : List Value),m = es.length - k∧k≤es.length∧Lc = [(7,.slice ua k ca),(12,vint k)]∧Γc = [.rds (dn.flatMap Val.enc) us,.acc (.slice ua k ca) 26 3 k us,RunA br um ud F sk]∧dn.length = k∧0≤sk∧sk≤F∧r = (allF (fun x s=>evalF p F g x env s) (es.drop k) sk).pre dn) es.length [(7,_),(12,_)] [_,_,_] rfl rfl ⟨0,[],s,none,0,[],rfl,Nat.zero_le _,rfl,rfl,rfl,hs0,hsF,by rw [hr,AE.pre_nil];rfl⟩ ?_
 rintro m Lc M1 Γc hs ⟨k,dn,sk,ua,ca,us,rfl,hk,rfl,rfl,hdn,hk0,hkF,hrk⟩
 refine CW.seq fun K5 hK5=>?_
 refine CW.region ?_
 refine RL.q (Y.lss rfl rfl) rfl ?_
 refine RL.nil ?_
 refine hK5 _ _ _ ?_
 refine CW.kp [0,2,7,10,11,12,13] rfl ?_
 refine CW.seq fun K6 hK6=>?_
 refine CW.ite rfl (fun h1=>?_) (fun h1=>?_)
 ·have hka : k < es.length:=by omega
  have hnb:=allF_nb hka hrk hb
  refine CW.skip ?_
  refine hK6 _ _ _ ?_
  refine CW.seq fun K7 hK7=>?_
  refine CW.block ?_
  refine CW.seq fun K8 hK8=>?_
  refine CW.region ?_
  refine RL.q (Y.index _ rfl rfl rfl AO slice47 SM) rfl ?_
  refine RL.loadAgg rfl rfl MM (Eq.trans (flat_take Ex.enc_len _ _ _ (List.getElem?_eq_getElem AO)) (Ex.enc_eq _)) (by rfl) agg50 rfl fun us15 hul15 hur15=>?_
  refine RL.alloc _ zero50 rfl rfl fun b9=>?_
  first | refine RL.storeRds 15 rfl rfl RP MM EL (by first | exact Kn.lenRds MM EL | exact Kn.lenLit rfl) size50 ?_ | refine RL.storeAgg _ rfl rfl RP (by rfl) (by first | (simp;done) | simp [IdT.vals]) (by first | (simp [Value.oneCell'];done) | simp [Value.oneCell',IdT.vals]) size50 ?_
  refine RL.nil ?_
  refine hK8 _ _ _ ?_
  refine CW.kp [0,2,7,9,10,11,12] rfl ?_
  refine CW.regionX ?_
  refine RX.step ?_
  refine RL.q (Y.move rfl) rfl ?_
  refine RL.nil ?_
  refine RX.step ?_
  refine RL.q (Y.move rfl) rfl ?_
  refine RL.nil ?_
  refine RX.step ?_
  first | refine RL.q (Y.loadAllR rfl MM MM EL agg50) rfl ?_ | refine RL.q (Y.loadAll rfl MM (by rfl) agg50) rfl ?_ | refine RL.loadPart rfl rfl MM MM (by rfl) (by rfl) agg50 rfl fun us18 hul18 hur18=>?_
  refine RL.nil ?_
  refine RX.step ?_
  refine RL.q (Y.move rfl) rfl ?_
  refine RL.nil ?_
  refine RX.call rfl func74 rfl rfl (by exact CallP.pick (x:=RunA br um ud F sk) PK (ih _ _ _ es[k] _ env sp sk (hE.next hs hk0 hkF) KK hnb)) ?_ (by rintro ch Mp _ ⟨x,sp2,hpe,rfl,hsp,rfl⟩;exact Turn.drop ⟨x,sp2,allF_er hka hrk hpe,rfl,hs.trans hsp,rfl⟩ SB)
  rintro v20 M20 _ ⟨x20,s20,he20,h020,h1F20,hs20,⟨us20,rfl,hr20⟩,rfl⟩
  have hul20 : us20.length = 3:=hr20.1.trans (Val.enc_len _)
  refine RX.of ?_
  refine RL.addRds hr20 ?_
  refine RL.buildSlice us20 elem24 rfl (by decide) (fill1 rfl hul20) rfl fun b21=>?_
  refine RL.append elem24 rfl rfl PK (SrcOk.own (sz:=3) (m:=1) MM (by simp [hul20]) hr20.one) OM (by unfold lim;omega) rfl fun a22 c22 hc22=>?_
  refine RL.q (Y.assign rfl) rfl ?_
  refine RL.nil ?_
  refine hK7 _ _ _ ?_
  refine CW.kp [0,2,7,10,11,12] rfl ?_
  refine CW.region ?_
  refine RL.q (Y.add rfl rfl OM) rfl ?_
  refine RL.q (Y.move rfl) rfl ?_
  refine RL.nil ?_
  refine ⟨es.length - (k+1),[(7,_),(12,_)],?_,(KP [7,12,0,2,10,11]),?_⟩
  · omega
  · refine Turn.kn (Kn.rds (ds:=dn.flatMap Val.enc) (us:=us) MM) fun hrd=>?_
    refine Turn.front (x:=RunA br um ud F s20) PK ?_
    refine Turn.front (x:=.acc (.slice a22 (k+1) c22) 26 3 (k+1) (us++us20)) PK ?_
    refine Turn.addRds (hrd.append hr20) ?_
    exact Turn.drop ⟨[_,_,_],rfl,hs.trans hs20,k+1,dn++[x20],s20,a22,c22,us++us20,rfl,by omega,rfl,by rw [snoc_flat] <;> rfl,by simp [hdn],h020,h1F20,allF_go hka hrk he20⟩ SB
 refine CW.exit ?_
 refine hK3 _ _ _ ?_
 refine CW.seq fun K9 hK9=>?_
 refine CW.region ?_
 refine RL.q (Y.move rfl) rfl ?_
 refine RL.q (Y.assign rfl) rfl ?_
 refine RL.nil ?_
 refine hK9 _ _ _ ?_
 refine CW.kp [6] rfl ?_
 refine CW.ret ?_
 obtain rfl : k = es.length:=by omega
 rw [allF_end rfl,AE.pre,List.append_nil] at hrk
 refine ⟨_,rfl,Turn.kn (Kn.rds (ds:=dn.flatMap Val.enc) (us:=us) MM) fun hrd=>?_⟩
 exact Turn.sealAcc (u:=.slice ua es.length ca) PK hrd (by unfold lim;omega) (show List.Sublist (RunA br um ud F sk::Γ) _ from SB) fun M2 hs2 hr2=>⟨dn,sk,hrk,hk0,hkF,hs.trans hs2,by rw [hdn];exact hr2,rfl⟩
end Go.Proofs.YtanbipbiblikbaaDoor

namespace Go.Proofs.YtanbipbiblikbaaDoor
open Xe

set_option maxRecDepth 4000 in
theorem call_ok {p : ProgT} {F : Int} {br : Nat} {um ud : Value} {g : Nat} (ih : EvOk Tryd.prog p F br um ud g) (w0 : World) (M : Mem) (Γ : List As) (d : DefT) (usd : List Value) (args : List Val) (ua : Value) (env2 : Env) (s : Int) (hE : EvHyp M p um ud F s [] (.pointer none)) (hd : Kn w0 M (RunA br um ud F s::Γ) (RdL M d.enc usd)) (ha : Kn w0 M (RunA br um ud F s::Γ) (Rd M (.sl args.length 3 (args.flatMap Val.enc)) ua)) (he : argEnv d.slots args [] = some env2) (hb : evalF p F g d.body env2 s ≠ .bad) :
   CallP Tryd.prog w0 M (RunA br um ud F s::Γ) 63 #[ptrB br,.agg usd.toArray,ua] (EvPost M Γ br um ud F (evalF p F g d.body env2 s)) (EvPanic M Γ br um ud F (evalF p F g d.body env2 s)):=by
 refine CallP.kn hd fun hd=>?_
 refine CallP.kn ha fun ha=>?_
 obtain ⟨a1,c1,rfl,hc1,hlim1,hlen1⟩:=ha.slice
 have hs0:=hE.s0
 have hsF:=hE.sF
 have hF1:=hE.F1
 rw [DefT.enc_eq] at hd
 refine enterCellP (f:=63) Tryd.func63 rfl Tryd.ntmps63 rfl rfl fun w1 hw1=>?_
 refine CW.addRds hd ?_
 refine CW.addRd ha ?_
 refine CW.seq fun K1 hK1=>?_
 refine CW.region ?_
 refine RL.box _ rfl rfl rfl fun b4=>?_
 refine RL.alloc _ zero26 rfl rfl fun b6=>?_
 refine RL.nil ?_
 refine hK1 _ _ _ ?_
 refine CW.kp [0,2,4,6] rfl ?_
 refine CW.seq fun K2 hK2=>?_
 refine CW.region ?_
 refine RL.q (Y.assign rfl) rfl ?_
 refine RL.nil ?_
 refine hK2 _ _ _ ?_
 refine CW.kp [0,2,4,6,7] rfl ?_
 refine CW.seq fun K3 hK3=>?_
 refine CW.seq fun K4 hK4=>?_
 refine CW.region ?_
 refine RL.q (Y.field rfl field52_4) rfl ?_
 first | refine RL.q (Y.loadOwnV rfl MM MM (by rfl) flat46) rfl ?_ | refine RL.q (Y.loadOwn rfl MM (by rfl) flat46) rfl ?_ | refine RL.loadOwnSl rfl rfl MM MM (by rfl) flat46 rfl fun a11 c11 hu11 hc11 hl11=>?_
 refine RL.q (Y.len rfl Tryd.underlying46) rfl ?_
 refine RL.q (Y.move rfl) rfl ?_
 refine RL.nil ?_
 refine hK4 _ _ _ ?_
 refine CW.kp [0,2,4,6,7,11,12,13] rfl ?_
 refine CW.block ?_
 -- LOOP 1: live [0,2,4,6,7,11,12,13] changed [7,13]
 refine CW.kp [7,13,0,2,4,6,11,12] rfl ?_
 refine CW.loopF (fun m Lc M1 Γc=>∃ (k : Nat) (e2 : Env) (q : Option Addr),m = d.slots.length - k∧k≤d.slots.length∧Lc = [(7,.pointer q),(13,vint k)]∧Γc = []∧ScopeM M1 e2 (.pointer q)∧argEnv (d.slots.drop k) (args.drop k) e2 = some env2) d.slots.length [(7,_),(13,_)] [] rfl rfl ⟨0,[],none,rfl,Nat.zero_le _,rfl,rfl,rfl,he⟩ ?_
 rintro m Lc M1 Γc hs ⟨k,e2,q,rfl,hk,rfl,rfl,hsc,hek⟩
 refine CW.seq fun K5 hK5=>?_
 refine CW.region ?_
 refine RL.q (Y.lss rfl rfl) rfl ?_
 refine RL.nil ?_
 refine hK5 _ _ _ ?_
 refine CW.kp [0,2,4,6,7,11,12,13,14] rfl ?_
 refine CW.seq fun K6 hK6=>?_
 refine CW.ite rfl (fun h1=>?_) (fun h1=>?_)
 ·have hka : k < d.slots.length:=by omega
  obtain ⟨hkb,hek2⟩:=argEnv_step hka hek
  refine CW.skip ?_
  refine hK6 _ _ _ ?_
  refine CW.seq fun K7 hK7=>?_
  refine CW.block ?_
  refine CW.seq fun K8 hK8=>?_
  refine CW.region ?_
  refine RL.q (Y.move rfl) rfl ?_
  refine RL.q (Y.index _ rfl rfl rfl AO slice46 SM) rfl ?_
  refine RL.loadAgg rfl rfl MM (Eq.trans (flat_take SlotT.enc_len _ _ _ (List.getElem?_eq_getElem AO)) (SlotT.enc_eq _)) (by rfl) agg68 rfl fun us17 hul17 hur17=>?_
  refine RL.alloc _ zero68 rfl rfl fun b9=>?_
  refine RL.q (Y.assign rfl) rfl ?_
  first | refine RL.storeRds 11 rfl rfl RP MM EL (by first | exact Kn.lenRds MM EL | exact Kn.lenLit rfl) size68 ?_ | refine RL.storeAgg _ rfl rfl RP (by rfl) (by first | (simp;done) | simp [IdT.vals]) (by first | (simp [Value.oneCell'];done) | simp [Value.oneCell',IdT.vals]) size68 ?_
  refine RL.nil ?_
  refine hK8 _ _ _ ?_
  refine CW.kp [0,2,4,6,7,8,9,11,12,13] rfl ?_
  refine CW.regionH mix _ _ (fun _ hw=>hw) ?_
  refine HL.take 0 rfl KR KR KR rfl (Y.move rfl) rfl ?_
  refine HL.take 1 rfl KR KR KR rfl (Y.field rfl field68_0) rfl ?_
  first | refine HL.take 2 rfl KR KR KR rfl (Y.loadAggV [_,_,_] rfl MM MM (by rfl) agg35) rfl ?_ | refine HL.take 2 rfl KR KR KR rfl (Y.loadAll rfl MM (by rfl) agg35) rfl ?_
  refine HL.take 3 rfl KR KR KR rfl (Y.move rfl) rfl ?_
  refine HL.take 4 rfl KR KR KR rfl (Y.move rfl) rfl ?_
  refine HL.take 5 rfl KR KR KR rfl (Y.index _ rfl rfl rfl AO slice24 SM) rfl ?_
  refine HL.loadAgg 6 rfl KR KR KR rfl rfl MM (Eq.trans (flat_take Val.enc_len _ _ _ (List.getElem?_eq_getElem AO)) (Val.enc_eq _)) (by rfl) agg26 rfl fun us24 hul24 hur24=>?_
  refine HL.step 7 rfl KR ?_
  refine RL.call rfl func91 rfl rfl (by exact with_ok _ _ _ e2 _ (d.slots[k]).id 0 args[k] us24 hsc KK) ?_
  rintro v25 M25 _ ⟨hs25,rfl,hsc25⟩
  obtain ⟨p25,rfl,_⟩:=hsc25.ptr
  refine RL.nil ⟨keep_more (hs25) SB,?_⟩
  refine HL.take 8 rfl KR KR KR rfl (Y.assign rfl) rfl ?_
  refine HL.done KR ?_
  refine hK7 _ _ _ ?_
  refine CW.kp [0,2,4,6,7,11,12,13] rfl ?_
  refine CW.region ?_
  refine RL.q (Y.add rfl rfl OM) rfl ?_
  refine RL.q (Y.move rfl) rfl ?_
  refine RL.nil ?_
  refine ⟨d.slots.length - (k+1),[(7,_),(13,_)],?_,(KP [7,13,0,2,4,6,11,12]),?_⟩
  · omega
  · exact Turn.drop ⟨[],rfl,hs.trans hs25,k+1,_,p25,rfl,by omega,rfl,rfl,hsc25,hek2⟩ SB
 refine CW.exit ?_
 refine hK3 _ _ _ ?_
 refine CW.seq fun K9 hK9=>?_
 obtain rfl : k = d.slots.length:=by omega
 obtain rfl:=argEnv_end rfl hek
 refine CW.regionX ?_
 refine RX.step ?_
 refine RL.q (Y.move rfl) rfl ?_
 refine RL.nil ?_
 refine RX.step ?_
 refine RL.q (Y.field rfl field52_6) rfl ?_
 refine RL.nil ?_
 refine RX.step ?_
 first | refine RL.q (Y.loadAllR rfl MM MM EL agg50) rfl ?_ | refine RL.q (Y.loadAll rfl MM (by rfl) agg50) rfl ?_ | refine RL.loadPart rfl rfl MM MM (by rfl) (by rfl) agg50 rfl fun us29 hul29 hur29=>?_
 refine RL.nil ?_
 refine RX.step ?_
 refine RL.q (Y.move rfl) rfl ?_
 refine RL.nil ?_
 refine RX.call rfl func74 rfl rfl (by exact CallP.pick (x:=RunA br um ud F s) PK (ih _ _ _ d.body us29 e2 _ s (hE.mono hs hs0 hsF hsc) (Kn.of (by rw [Ex.enc_eq];exact hur29)) hb)) ?_ (by rintro ch Mp _ ⟨x,sp2,hpe,rfl,hsp,rfl⟩;exact Turn.drop ⟨x,sp2,hpe,rfl,hs.trans hsp,rfl⟩ SB)
 rintro v31 M31 _ ⟨x31,s31,he31,h031,h1F31,hs31,⟨us31,rfl,hr31⟩,rfl⟩
 have hul31 : us31.length = 3:=hr31.1.trans (Val.enc_len _)
 refine RX.of ?_
 refine RL.addRds hr31 ?_
 first | refine RL.storeRds 3 rfl rfl RP MM EL (by first | exact Kn.lenRds MM EL | exact Kn.lenLit rfl) size26 ?_ | refine RL.storeAgg _ rfl rfl RP (by rfl) (by first | (simp;done) | simp [IdT.vals]) (by first | (simp [Value.oneCell'];done) | simp [Value.oneCell',IdT.vals]) size26 ?_
 refine RL.nil ?_
 refine hK9 _ _ _ ?_
 refine CW.kp [6] rfl ?_
 refine CW.ret ?_
 exact CellAt.mk rfl MM (by first | rfl | exact hul31) agg26 (Turn.drop ⟨x31,s31,he31,h031,h1F31,hs.trans hs31,⟨_,rfl,hr31⟩,rfl⟩ SB)
end Go.Proofs.YtanbipbiblikbaaDoor

namespace Go.Proofs.YtanbipbiblikbaaDoor
open Xe

set_option maxRecDepth 4000 in
set_option maxHeartbeats 1000000 in
theorem branch_ok {p : ProgT} {F : Int} {br : Nat} {um ud : Value} {g : Nat} (ih : EvOk Tryd.prog p F br um ud g) (w0 : World) (M : Mem) (Γ : List As) (e : Ex) (use : List Value) (env : Env) (sp : Value) (v : Val) (usv : List Value) (s : Int) (hE : EvHyp M p um ud F s env sp) (he : Kn w0 M (RunA br um ud F s::Γ) (RdL M e.enc use)) (hv : Kn w0 M (RunA br um ud F s::Γ) (RdL M v.enc usv)) (r : EO) (hr : r = branchF (evalF p F g) e env v s) (hb : r ≠ .bad) :
   CallP Tryd.prog w0 M (RunA br um ud F s::Γ) 113 #[ptrB br,.agg use.toArray,sp,.agg usv.toArray] (EvPost M Γ br um ud F r) (EvPanic M Γ br um ud F r):=by
 refine CallP.kn he fun he=>?_
 refine CallP.kn hv fun hv=>?_
 have hs0:=hE.s0
 have hsF:=hE.sF
 have hF1:=hE.F1
 rw [Ex.enc_eq] at he
 rw [Val.enc_eq] at hv
 refine enterCellP (f:=113) Tryd.func113 rfl Tryd.ntmps113 rfl rfl fun w1 hw1=>?_
 refine CW.addRds he ?_
 refine CW.addRds hv ?_
 refine CW.seq fun K1 hK1=>?_
 refine CW.region ?_
 refine RL.box _ rfl rfl rfl fun b5=>?_
 refine RL.box _ rfl rfl rfl fun b7=>?_
 refine RL.alloc _ zero26 rfl rfl fun b8=>?_
 refine RL.nil ?_
 refine hK1 _ _ _ ?_
 refine CW.kp [0,2,5,7,8] rfl ?_
 refine CW.seq fun K2 hK2=>?_
 refine CW.seq fun K3 hK3=>?_
 refine CW.region ?_
 refine RL.q (Y.field rfl field50_1) rfl ?_
 first | refine RL.q (Y.loadOwnV rfl MM MM (by rfl) flat3) rfl ?_ | refine RL.q (Y.loadOwn rfl MM (by rfl) flat3) rfl ?_ | refine RL.loadOwnSl rfl rfl MM MM (by rfl) flat3 rfl fun a13 c13 hu13 hc13 hl13=>?_
 refine RL.nil ?_
 refine hK3 _ _ _ ?_
 refine CW.kp [0,2,5,7,8,13] rfl ?_
 refine CW.block ?_
 refine CW.seq fun K4 hK4=>?_
 refine CW.region ?_
 refine RL.q (Y.eql rfl rfl) rfl ?_
 refine RL.q (Y.assign rfl) rfl ?_
 refine RL.nil ?_
 refine hK4 _ _ _ ?_
 refine CW.kp [0,2,5,7,8,13,14] rfl ?_
 refine CW.ite rfl (fun h1=>?_) (fun h1=>?_)
 ·rw [branchF,if_pos h1] at hr
  refine CW.seq fun K5 hK5=>?_
  refine CW.seq fun K6 hK6=>?_
  refine CW.region ?_
  refine RL.q (Y.field rfl field26_1) rfl ?_
  first | refine RL.q (Y.loadOwnV rfl MM MM (by rfl) flat3) rfl ?_ | refine RL.q (Y.loadOwn rfl MM (by rfl) flat3) rfl ?_ | refine RL.loadOwnSl rfl rfl MM MM (by rfl) flat3 rfl fun a17 c17 hu17 hc17 hl17=>?_
  refine RL.q (Y.neq rfl rfl) rfl ?_
  refine RL.nil ?_
  refine hK6 _ _ _ ?_
  refine CW.kp [0,2,5,8,18] rfl ?_
  refine CW.ite rfl (fun h2=>?_) (fun h2=>?_)
  ·rw [if_pos h2] at hr
   obtain ⟨hkl,hr⟩:=kidF_at (k:=1) rfl hr hb
   refine CW.seq fun K7 hK7=>?_
   refine CW.regionX ?_
   refine RX.step ?_
   refine RL.q (Y.move rfl) rfl ?_
   refine RL.nil ?_
   refine RX.step ?_
   refine RL.q (Y.field rfl field50_5) rfl ?_
   refine RL.nil ?_
   refine RX.step ?_
   first | refine RL.q (Y.loadOwnV rfl MM MM (by rfl) flat47) rfl ?_ | refine RL.q (Y.loadOwn rfl MM (by rfl) flat47) rfl ?_ | refine RL.loadOwnSl rfl rfl MM MM (by rfl) flat47 rfl fun a21 c21 hu21 hc21 hl21=>?_
   refine RL.nil ?_
   refine RX.step ?_
   refine RL.q (Y.index 1 rfl rfl rfl AO slice47 SM) rfl ?_
   refine RL.nil ?_
   refine RX.step ?_
   refine RL.loadAgg rfl rfl MM (Eq.trans (flat_take Ex.enc_len _ _ _ (List.getElem?_eq_getElem AO)) (Ex.enc_eq _)) (by rfl) agg50 rfl fun us23 hul23 hur23=>?_
   refine RL.nil ?_
   refine RX.step ?_
   refine RL.q (Y.move rfl) rfl ?_
   refine RL.nil ?_
   refine RX.call rfl func74 rfl rfl (by exact CallP.pick (x:=RunA br um ud F s) PK (ih _ _ _ e.kids[1] _ env _ s (hE) KK (hr ▸ hb))) ?_ (by rintro ch Mp _ ⟨x,sp2,hpe,rfl,hsp,rfl⟩;exact Turn.drop ⟨x,sp2,hr.trans hpe,rfl,hsp,rfl⟩ SB)
   rintro v25 M25 _ ⟨x25,s25,he25,h025,h1F25,hs25,⟨us25,rfl,hr25⟩,rfl⟩
   have hul25 : us25.length = 3:=hr25.1.trans (Val.enc_len _)
   refine RX.of ?_
   refine RL.addRds hr25 ?_
   first | refine RL.storeRds 3 rfl rfl RP MM EL (by first | exact Kn.lenRds MM EL | exact Kn.lenLit rfl) size26 ?_ | refine RL.storeAgg _ rfl rfl RP (by rfl) (by first | (simp;done) | simp [IdT.vals]) (by first | (simp [Value.oneCell'];done) | simp [Value.oneCell',IdT.vals]) size26 ?_
   refine RL.nil ?_
   refine hK7 _ _ _ ?_
   refine CW.kp [8] rfl ?_
   refine CW.ret ?_
   exact CellAt.mk rfl MM (by first | rfl | exact hul25) agg26 (Turn.drop ⟨x25,s25,hr.trans he25,h025,h1F25,hs25,⟨_,rfl,hr25⟩,rfl⟩ SB)
  rw [if_neg h2] at hr
  obtain ⟨hkl,hr⟩:=kidF_at (k:=2) rfl hr hb
  refine CW.skip ?_
  refine hK5 _ _ _ ?_
  refine CW.seq fun K8 hK8=>?_
  refine CW.regionX ?_
  refine RX.step ?_
  refine RL.q (Y.move rfl) rfl ?_
  refine RL.nil ?_
  refine RX.step ?_
  refine RL.q (Y.field rfl field50_5) rfl ?_
  refine RL.nil ?_
  refine RX.step ?_
  first | refine RL.q (Y.loadOwnV rfl MM MM (by rfl) flat47) rfl ?_ | refine RL.q (Y.loadOwn rfl MM (by rfl) flat47) rfl ?_ | refine RL.loadOwnSl rfl rfl MM MM (by rfl) flat47 rfl fun a28 c28 hu28 hc28 hl28=>?_
  refine RL.nil ?_
  refine RX.step ?_
  refine RL.q (Y.index 2 rfl rfl rfl AO slice47 SM) rfl ?_
  refine RL.nil ?_
  refine RX.step ?_
  refine RL.loadAgg rfl rfl MM (Eq.trans (flat_take Ex.enc_len _ _ _ (List.getElem?_eq_getElem AO)) (Ex.enc_eq _)) (by rfl) agg50 rfl fun us30 hul30 hur30=>?_
  refine RL.nil ?_
  refine RX.step ?_
  refine RL.q (Y.move rfl) rfl ?_
  refine RL.nil ?_
  refine RX.call rfl func74 rfl rfl (by exact CallP.pick (x:=RunA br um ud F s) PK (ih _ _ _ e.kids[2] _ env _ s (hE) KK (hr ▸ hb))) ?_ (by rintro ch Mp _ ⟨x,sp2,hpe,rfl,hsp,rfl⟩;exact Turn.drop ⟨x,sp2,hr.trans hpe,rfl,hsp,rfl⟩ SB)
  rintro v32 M32 _ ⟨x32,s32,he32,h032,h1F32,hs32,⟨us32,rfl,hr32⟩,rfl⟩
  have hul32 : us32.length = 3:=hr32.1.trans (Val.enc_len _)
  refine RX.of ?_
  refine RL.addRds hr32 ?_
  first | refine RL.storeRds 3 rfl rfl RP MM EL (by first | exact Kn.lenRds MM EL | exact Kn.lenLit rfl) size26 ?_ | refine RL.storeAgg _ rfl rfl RP (by rfl) (by first | (simp;done) | simp [IdT.vals]) (by first | (simp [Value.oneCell'];done) | simp [Value.oneCell',IdT.vals]) size26 ?_
  refine RL.nil ?_
  refine hK8 _ _ _ ?_
  refine CW.kp [8] rfl ?_
  refine CW.ret ?_
  exact CellAt.mk rfl MM (by first | rfl | exact hul32) agg26 (Turn.drop ⟨x32,s32,hr.trans he32,h032,h1F32,hs32,⟨_,rfl,hr32⟩,rfl⟩ SB)
 refine CW.seq fun K9 hK9=>?_
 refine CW.region ?_
 refine RL.q (Y.eql rfl rfl) rfl ?_
 refine RL.q (Y.assign rfl) rfl ?_
 refine RL.nil ?_
 refine hK9 _ _ _ ?_
 refine CW.kp [0,2,5,7,8,13,33] rfl ?_
 refine CW.ite rfl (fun h3=>?_) (fun h3=>?_)
 ·rw [branchF,if_neg h1,if_pos h3] at hr
  obtain ⟨hkl,hr⟩:=kidF_at (k:=1) rfl hr hb
  refine CW.seq fun K10 hK10=>?_
  refine CW.regionQ2 11 mix (x:=RunA br um ud F s) PK ?_
  refine HQ.take 0 rfl KR KR KR rfl (Y.move rfl) rfl ?_
  refine HQ.take 1 rfl KR KR KR rfl (Y.field rfl field50_5) rfl ?_
  first | refine HQ.take 2 rfl KR KR KR rfl (Y.loadOwnV rfl MM MM (by rfl) flat47) rfl ?_ | refine HQ.take 2 rfl KR KR KR rfl (Y.loadOwn rfl MM (by rfl) flat47) rfl ?_ | refine HQ.loadOwnSl 2 rfl KR KR KR rfl rfl MM MM (by rfl) flat47 rfl fun a37 c37 hu37 hc37 hl37=>?_
  refine HQ.take 3 rfl KR KR KR rfl (Y.index 1 rfl rfl rfl AO slice47 SM) rfl ?_
  refine HQ.loadAgg 4 rfl KR KR KR rfl rfl MM (Eq.trans (flat_take Ex.enc_len _ _ _ (List.getElem?_eq_getElem AO)) (Ex.enc_eq _)) (by rfl) agg50 rfl fun us39 hul39 hur39=>?_
  refine HQ.take 5 rfl KR KR KR rfl (Y.move rfl) rfl ?_
  refine HQ.take 6 rfl KR KR KR rfl (Y.field rfl field50_0) rfl ?_
  first | refine HQ.take 7 rfl KR KR KR rfl (Y.loadAggV [_,_,_] rfl MM MM (by rfl) agg35) rfl ?_ | refine HQ.take 7 rfl KR KR KR rfl (Y.loadAll rfl MM (by rfl) agg35) rfl ?_
  first | refine HQ.take 8 rfl KR KR KR rfl (Y.loadAllR rfl MM MM EL agg26) rfl ?_ | refine HQ.take 8 rfl KR KR KR rfl (Y.loadAll rfl MM (by rfl) agg26) rfl ?_ | refine HQ.loadPart 8 rfl KR KR KR rfl rfl MM MM (by rfl) (by rfl) agg26 rfl fun us43 hul43 hur43=>?_
  refine HQ.step 9 rfl KR ?_
  refine RL.call rfl func91 rfl rfl (by exact with_ok _ _ _ env _ e.id 0 v usv hE.scope KK) ?_
  rintro v44 M44 _ ⟨hs44,rfl,hsc44⟩
  obtain ⟨p44,rfl,_⟩:=hsc44.ptr
  refine RL.nil ⟨keep_more (hs44) SB,?_⟩
  refine HQ.call 10 rfl KR rfl func74 rfl rfl (by exact CallP.pick (x:=RunA br um ud F s) PK (ih _ _ _ e.kids[1] _ ((e.id,0,v)::env) _ s (hE.mono hs44 hs0 hsF hsc44) KK (hr ▸ hb))) ?_ (by rintro ch Mp _ ⟨x,sp2,hpe,rfl,hsp,rfl⟩;exact Turn.drop ⟨x,sp2,hr.trans hpe,rfl,hs44.trans hsp,rfl⟩ SB)
  rintro v45 M45 _ ⟨x45,s45,he45,h045,h1F45,hs45,⟨us45,rfl,hr45⟩,rfl⟩
  have hul45 : us45.length = 3:=hr45.1.trans (Val.enc_len _)
  refine ⟨keep_more (hs44.trans (hs45)) SB,?_⟩
  refine HQ.last 11 rfl ⟨KR,rfl⟩ KR ?_
  refine RL.addRds hr45 ?_
  first | refine RL.storeRds 3 rfl rfl RP MM EL (by first | exact Kn.lenRds MM EL | exact Kn.lenLit rfl) size26 ?_ | refine RL.storeAgg _ rfl rfl RP (by rfl) (by first | (simp;done) | simp [IdT.vals]) (by first | (simp [Value.oneCell'];done) | simp [Value.oneCell',IdT.vals]) size26 ?_
  refine RL.nil ?_
  refine hK10 _ _ _ ?_
  refine CW.kp [8] rfl ?_
  refine CW.ret ?_
  exact CellAt.mk rfl MM (by first | rfl | exact hul45) agg26 (Turn.drop ⟨x45,s45,hr.trans he45,h045,h1F45,hs44.trans hs45,⟨_,rfl,hr45⟩,rfl⟩ SB)
 refine CW.seq fun K11 hK11=>?_
 refine CW.region ?_
 refine RL.q (Y.eql rfl rfl) rfl ?_
 refine RL.q (Y.assign rfl) rfl ?_
 refine RL.nil ?_
 refine hK11 _ _ _ ?_
 refine CW.kp [0,2,5,7,8,13,46] rfl ?_
 refine CW.ite rfl (fun h4=>?_) (fun h4=>?_)
 ·rw [branchF,if_neg h1,if_neg h3,if_pos h4] at hr
  have hn0 : 0≤e.n:=Decidable.byContradiction fun h=>hb (by rw [hr,if_neg h])
  rw [if_pos hn0] at hr
  obtain ⟨kk,hkk⟩:=Int.eq_ofNat_of_zero_le hn0
  obtain ⟨x,hx,hr⟩:=okOpt_at hr hb
  rw [hkk,Int.toNat_natCast] at hx
  obtain ⟨hkl,rfl⟩:=List.getElem?_eq_some_iff.1 hx
  refine CW.seq fun K12 hK12=>?_
  refine CW.region ?_
  refine RL.q (Y.field rfl field26_2) rfl ?_
  first | refine RL.q (Y.loadOwnV rfl MM MM (by rfl) flat24) rfl ?_ | refine RL.q (Y.loadOwn rfl MM (by rfl) flat24) rfl ?_ | refine RL.loadOwnSl rfl rfl MM MM (by rfl) flat24 rfl fun a49 c49 hu49 hc49 hl49=>?_
  refine RL.q (Y.field rfl field50_2) rfl ?_
  first | refine RL.q (Y.loadOwnV rfl MM MM (by rfl) flat3) rfl ?_ | refine RL.q (Y.loadOwn rfl MM (by rfl) flat3) rfl ?_ | refine RL.loadOwnSl rfl rfl MM MM (by rfl) flat3 rfl fun a51 c51 hu51 hc51 hl51=>?_
  refine RL.q (Y.index kk rfl rfl hkk hkl slice24 (fun _ hw=>hw.rd_some MM OM)) rfl ?_
  refine RL.loadAgg rfl rfl MM (Eq.trans (flat_take Val.enc_len _ _ _ (List.getElem?_eq_getElem AO)) (Val.enc_eq _)) (by rfl) agg26 rfl fun us53 hul53 hur53=>?_
  first | refine RL.storeRds 3 rfl rfl RP MM EL (by first | exact Kn.lenRds MM EL | exact Kn.lenLit rfl) size26 ?_ | refine RL.storeAgg _ rfl rfl RP (by rfl) (by first | (simp;done) | simp [IdT.vals]) (by first | (simp [Value.oneCell'];done) | simp [Value.oneCell',IdT.vals]) size26 ?_
  refine RL.nil ?_
  refine hK12 _ _ _ ?_
  refine CW.kp [8] rfl ?_
  refine CW.ret ?_
  exact CellAt.mk rfl MM (by first | rfl | exact hul53) agg26 (Turn.drop ⟨v.kids[kk],s,hr,hs0,hsF,Sub.refl _,⟨_,rfl,by rw [Val.enc_eq];exact hur53⟩,rfl⟩ SB)
 refine CW.seq fun K13 hK13=>?_
 refine CW.region ?_
 refine RL.q (Y.eql rfl rfl) rfl ?_
 refine RL.q (Y.assign rfl) rfl ?_
 refine RL.nil ?_
 refine hK13 _ _ _ ?_
 refine CW.kp [0,2,5,7,8,54] rfl ?_
 refine CW.ite rfl (fun h5=>?_) (fun h5=>?_)
 ·rw [branchF,if_neg h1,if_neg h3,if_neg h4,if_pos h5] at hr
  obtain ⟨hv0,hvl⟩ : ∃ h : 0 < v.kids.length,v.kids[0]? = some v.kids[0]:=by
    rcases Nat.eq_zero_or_pos v.kids.length with h | h
    · rw [List.eq_nil_of_length_eq_zero h] at hr;exact absurd hr hb
    · exact ⟨h,List.getElem?_eq_getElem h⟩
  rw [hvl] at hr
  simp only at hr
  have hvn : -4611686018427387904≤v.n∧v.n≤4611686018427387904:=Decidable.byContradiction fun h=>hb (by rw [hr,if_neg h])
  rw [if_pos hvn] at hr
  obtain ⟨kk,hkk⟩:=kidF_pos hr hb
  obtain ⟨hkl,hr⟩:=kidF_at hkk hr hb
  refine CW.seq fun K14 hK14=>?_
  refine CW.regionQ2 19 mix (x:=RunA br um ud F s) PK ?_
  refine HQ.take 0 rfl KR KR KR rfl (Y.move rfl) rfl ?_
  refine HQ.take 1 rfl KR KR KR rfl (Y.field rfl field50_5) rfl ?_
  first | refine HQ.take 2 rfl KR KR KR rfl (Y.loadOwnV rfl MM MM (by rfl) flat47) rfl ?_ | refine HQ.take 2 rfl KR KR KR rfl (Y.loadOwn rfl MM (by rfl) flat47) rfl ?_ | refine HQ.loadOwnSl 2 rfl KR KR KR rfl rfl MM MM (by rfl) flat47 rfl fun a58 c58 hu58 hc58 hl58=>?_
  refine HQ.take 3 rfl KR KR KR rfl (Y.field rfl field26_1) rfl ?_
  first | refine HQ.take 4 rfl KR KR KR rfl (Y.loadOwnV rfl MM MM (by rfl) flat3) rfl ?_ | refine HQ.take 4 rfl KR KR KR rfl (Y.loadOwn rfl MM (by rfl) flat3) rfl ?_ | refine HQ.loadOwnSl 4 rfl KR KR KR rfl rfl MM MM (by rfl) flat3 rfl fun a60 c60 hu60 hc60 hl60=>?_
  refine HQ.take 5 rfl KR KR KR rfl (Y.add rfl rfl OM) rfl ?_
  refine HQ.take 6 rfl KR KR KR rfl (Y.index kk rfl rfl hkk hkl slice47 (fun _ hw=>hw.rd_some MM OM)) rfl ?_
  refine HQ.loadAgg 7 rfl KR KR KR rfl rfl MM (Eq.trans (flat_take Ex.enc_len _ _ _ (List.getElem?_eq_getElem AO)) (Ex.enc_eq _)) (by rfl) agg50 rfl fun us63 hul63 hur63=>?_
  refine HQ.take 8 rfl KR KR KR rfl (Y.move rfl) rfl ?_
  refine HQ.take 9 rfl KR KR KR rfl (Y.field rfl field50_0) rfl ?_
  first | refine HQ.take 10 rfl KR KR KR rfl (Y.loadAggV [_,_,_] rfl MM MM (by rfl) agg35) rfl ?_ | refine HQ.take 10 rfl KR KR KR rfl (Y.loadAll rfl MM (by rfl) agg35) rfl ?_
  refine HQ.take 11 rfl KR KR KR rfl (Y.field rfl field26_1) rfl ?_
  first | refine HQ.take 12 rfl KR KR KR rfl (Y.loadOwnV rfl MM MM (by rfl) flat3) rfl ?_ | refine HQ.take 12 rfl KR KR KR rfl (Y.loadOwn rfl MM (by rfl) flat3) rfl ?_ | refine HQ.loadOwnSl 12 rfl KR KR KR rfl rfl MM MM (by rfl) flat3 rfl fun a68 c68 hu68 hc68 hl68=>?_
  refine HQ.take 13 rfl KR KR KR rfl (Y.field rfl field26_2) rfl ?_
  first | refine HQ.take 14 rfl KR KR KR rfl (Y.loadOwnV rfl MM MM (by rfl) flat24) rfl ?_ | refine HQ.take 14 rfl KR KR KR rfl (Y.loadOwn rfl MM (by rfl) flat24) rfl ?_ | refine HQ.loadOwnSl 14 rfl KR KR KR rfl rfl MM MM (by rfl) flat24 rfl fun a70 c70 hu70 hc70 hl70=>?_
  refine HQ.take 15 rfl KR KR KR rfl (Y.index 0 rfl rfl rfl AO slice24 SM) rfl ?_
  refine HQ.loadAgg 16 rfl KR KR KR rfl rfl MM (Eq.trans (flat_take Val.enc_len _ _ _ (List.getElem?_eq_getElem AO)) (Val.enc_eq _)) (by rfl) agg26 rfl fun us72 hul72 hur72=>?_
  refine HQ.step 17 rfl KR ?_
  refine RL.call rfl func91 rfl rfl (by exact with_ok _ _ _ env _ e.id v.n v.kids[0] us72 hE.scope KK) ?_
  rintro v73 M73 _ ⟨hs73,rfl,hsc73⟩
  obtain ⟨p73,rfl,_⟩:=hsc73.ptr
  refine RL.nil ⟨keep_more (hs73) SB,?_⟩
  refine HQ.call 18 rfl KR rfl func74 rfl rfl (by exact CallP.pick (x:=RunA br um ud F s) PK (ih _ _ _ e.kids[kk] _ ((e.id,v.n,v.kids[0])::env) _ s (hE.mono hs73 hs0 hsF hsc73) KK (hr ▸ hb))) ?_ (by rintro ch Mp _ ⟨x,sp2,hpe,rfl,hsp,rfl⟩;exact Turn.drop ⟨x,sp2,hr.trans hpe,rfl,hs73.trans hsp,rfl⟩ SB)
  rintro v74 M74 _ ⟨x74,s74,he74,h074,h1F74,hs74,⟨us74,rfl,hr74⟩,rfl⟩
  have hul74 : us74.length = 3:=hr74.1.trans (Val.enc_len _)
  refine ⟨keep_more (hs73.trans (hs74)) SB,?_⟩
  refine HQ.last 19 rfl ⟨KR,rfl⟩ KR ?_
  refine RL.addRds hr74 ?_
  first | refine RL.storeRds 3 rfl rfl RP MM EL (by first | exact Kn.lenRds MM EL | exact Kn.lenLit rfl) size26 ?_ | refine RL.storeAgg _ rfl rfl RP (by rfl) (by first | (simp;done) | simp [IdT.vals]) (by first | (simp [Value.oneCell'];done) | simp [Value.oneCell',IdT.vals]) size26 ?_
  refine RL.nil ?_
  refine hK14 _ _ _ ?_
  refine CW.kp [8] rfl ?_
  refine CW.ret ?_
  exact CellAt.mk rfl MM (by first | rfl | exact hul74) agg26 (Turn.drop ⟨x74,s74,hr.trans he74,h074,h1F74,hs73.trans hs74,⟨_,rfl,hr74⟩,rfl⟩ SB)
 rw [branchF,if_neg h1,if_neg h3,if_neg h4,if_neg h5] at hr
 have hab:=bind_nb hr hb
 obtain ⟨ra,hra0⟩ : ∃ ra,ra = kidF (evalF p F g) e.kids 1 env s:=⟨_,rfl⟩
 rw [←hra0] at hr hab
 obtain ⟨hk1,hk1e⟩:=kidF_at (k:=1) rfl hra0 hab
 rw [hk1e] at hr hab
 refine CW.skip ?_
 refine hK2 _ _ _ ?_
 refine CW.seq fun K15 hK15=>?_
 refine CW.regionX ?_
 refine RX.step ?_
 refine RL.q (Y.move rfl) rfl ?_
 refine RL.nil ?_
 refine RX.step ?_
 refine RL.q (Y.field rfl field50_5) rfl ?_
 refine RL.nil ?_
 refine RX.step ?_
 first | refine RL.q (Y.loadOwnV rfl MM MM (by rfl) flat47) rfl ?_ | refine RL.q (Y.loadOwn rfl MM (by rfl) flat47) rfl ?_ | refine RL.loadOwnSl rfl rfl MM MM (by rfl) flat47 rfl fun a77 c77 hu77 hc77 hl77=>?_
 refine RL.nil ?_
 refine RX.step ?_
 refine RL.q (Y.index 1 rfl rfl rfl AO slice47 SM) rfl ?_
 refine RL.nil ?_
 refine RX.step ?_
 refine RL.loadAgg rfl rfl MM (Eq.trans (flat_take Ex.enc_len _ _ _ (List.getElem?_eq_getElem AO)) (Ex.enc_eq _)) (by rfl) agg50 rfl fun us79 hul79 hur79=>?_
 refine RL.nil ?_
 refine RX.step ?_
 refine RL.q (Y.move rfl) rfl ?_
 refine RL.nil ?_
 refine RX.call rfl func74 rfl rfl (by exact CallP.pick (x:=RunA br um ud F s) PK (ih _ _ _ e.kids[1] _ env _ s (hE) KK (hab))) ?_ (by rintro ch Mp _ ⟨x,sp2,hpe,rfl,hsp,rfl⟩;exact Turn.drop ⟨x,sp2,bind_er hr hpe,rfl,hsp,rfl⟩ SB)
 rintro v81 M81 _ ⟨x81,s81,he81,h081,h1F81,hs81,⟨us81,rfl,hr81⟩,rfl⟩
 have hul81 : us81.length = 3:=hr81.1.trans (Val.enc_len _)
 refine RX.of ?_
 refine RL.addRds hr81 ?_
 refine RL.alloc _ zero26 rfl rfl fun b9=>?_
 first | refine RL.storeRds 3 rfl rfl RP MM EL (by first | exact Kn.lenRds MM EL | exact Kn.lenLit rfl) size26 ?_ | refine RL.storeAgg _ rfl rfl RP (by rfl) (by first | (simp;done) | simp [IdT.vals]) (by first | (simp [Value.oneCell'];done) | simp [Value.oneCell',IdT.vals]) size26 ?_
 refine RL.nil ?_
 refine hK15 _ _ _ ?_
 refine CW.kp [0,2,5,7,8,9] rfl ?_
 refine CW.seq fun K16 hK16=>?_
 refine CW.seq fun K17 hK17=>?_
 refine CW.front (x:=RunA br um ud F s81) PK ?_
 refine CW.front (x:=.own b9 26 us81) PK ?_
 refine CW.addRds hr81 ?_
 refine CW.region ?_
 refine RL.q (Y.field rfl field26_2) rfl ?_
 first | refine RL.q (Y.loadOwnV rfl MM MM (by rfl) flat24) rfl ?_ | refine RL.q (Y.loadOwn rfl MM (by rfl) flat24) rfl ?_ | refine RL.loadOwnSl rfl rfl MM MM (by rfl) flat24 rfl fun a83 c83 hu83 hc83 hl83=>?_
 refine RL.q (Y.len rfl Tryd.underlying24) rfl ?_
 refine RL.q (Y.move rfl) rfl ?_
 refine RL.nil ?_
 refine hK17 _ _ _ ?_
 refine CW.kp [0,2,5,8,9,83,84,85] rfl ?_
 refine CW.block ?_
 -- LOOP 1: live [0,2,5,8,9,83,84,85] changed [85]
 refine CW.kp [85,0,2,5,8,9,83,84] rfl ?_
 refine CW.front (x:=RunA br um ud F s81) PK ?_
 refine CW.front (x:=.own b9 26 us81) PK ?_
 refine CW.front (x:=.rds x81.enc us81) PK ?_
 refine CW.loopF (fun m Lc M1 Γc=>∃ (k : Nat) (acc : Val) (sk : Int) (usa : List Value),m = v.kids.length - k∧k≤v.kids.length∧Lc = [(85,vint k)]∧Γc = [.rds acc.enc usa,.own b9 26 usa,RunA br um ud F sk]∧0≤sk∧sk≤F∧RdL M1 acc.enc usa∧Sub M M1∧r = foldF (fun x a s2=>kidF (evalF p F g) e.kids 2 ((e.id,1,a)::(e.id,0,x)::env) s2) (v.kids.drop k) acc sk) v.kids.length [(85,_)] [_,_,_] rfl rfl ⟨0,x81,s81,us81,rfl,Nat.zero_le _,rfl,rfl,h081,h1F81,hr81,hs81,bind_ok hr he81⟩ ?_
 rintro m Lc M1 Γc hs0x ⟨k,acc,sk,usa,rfl,hk,rfl,rfl,hk0,hkF,hra,hs,hrk⟩
 have hula : usa.length = 3:=hra.1.trans (Val.enc_len _)
 refine CW.seq fun K18 hK18=>?_
 refine CW.region ?_
 refine RL.q (Y.lss rfl rfl) rfl ?_
 refine RL.nil ?_
 refine hK18 _ _ _ ?_
 refine CW.kp [0,2,5,8,9,83,84,85,86] rfl ?_
 refine CW.seq fun K19 hK19=>?_
 refine CW.ite rfl (fun h6=>?_) (fun h6=>?_)
 ·have hka : k < v.kids.length:=by omega
  rw [foldF_drop hka] at hrk
  have hfb:=bind_nb hrk hb
  obtain ⟨hk2,hkr⟩:=kidF_at (k:=2) rfl rfl hfb
  refine CW.skip ?_
  refine hK19 _ _ _ ?_
  refine CW.seq fun K20 hK20=>?_
  refine CW.block ?_
  refine CW.seq fun K21 hK21=>?_
  refine CW.region ?_
  refine RL.q (Y.index _ rfl rfl rfl AO slice24 SM) rfl ?_
  refine RL.loadAgg rfl rfl MM (Eq.trans (flat_take Val.enc_len _ _ _ (List.getElem?_eq_getElem AO)) (Val.enc_eq _)) (by rfl) agg26 rfl fun us88 hul88 hur88=>?_
  refine RL.alloc _ zero26 rfl rfl fun b11=>?_
  first | refine RL.storeRds 3 rfl rfl RP MM EL (by first | exact Kn.lenRds MM EL | exact Kn.lenLit rfl) size26 ?_ | refine RL.storeAgg _ rfl rfl RP (by rfl) (by first | (simp;done) | simp [IdT.vals]) (by first | (simp [Value.oneCell'];done) | simp [Value.oneCell',IdT.vals]) size26 ?_
  refine RL.nil ?_
  refine hK21 _ _ _ ?_
  refine CW.kp [0,2,5,8,9,11,83,84,85] rfl ?_
  refine CW.regionQ2 15 mix (x:=RunA br um ud F sk) PK ?_
  refine HQ.take 0 rfl KR KR KR rfl (Y.move rfl) rfl ?_
  refine HQ.take 1 rfl KR KR KR rfl (Y.field rfl field50_5) rfl ?_
  first | refine HQ.take 2 rfl KR KR KR rfl (Y.loadOwnV rfl MM MM (by rfl) flat47) rfl ?_ | refine HQ.take 2 rfl KR KR KR rfl (Y.loadOwn rfl MM (by rfl) flat47) rfl ?_ | refine HQ.loadOwnSl 2 rfl KR KR KR rfl rfl MM MM (by rfl) flat47 rfl fun a91 c91 hu91 hc91 hl91=>?_
  refine HQ.take 3 rfl KR KR KR rfl (Y.index 2 rfl rfl rfl AO slice47 SM) rfl ?_
  refine HQ.loadAgg 4 rfl KR KR KR rfl rfl MM (Eq.trans (flat_take Ex.enc_len _ _ _ (List.getElem?_eq_getElem AO)) (Ex.enc_eq _)) (by rfl) agg50 rfl fun us93 hul93 hur93=>?_
  refine HQ.take 5 rfl KR KR KR rfl (Y.move rfl) rfl ?_
  refine HQ.take 6 rfl KR KR KR rfl (Y.field rfl field50_0) rfl ?_
  first | refine HQ.take 7 rfl KR KR KR rfl (Y.loadAggV [_,_,_] rfl MM MM (by rfl) agg35) rfl ?_ | refine HQ.take 7 rfl KR KR KR rfl (Y.loadAll rfl MM (by rfl) agg35) rfl ?_
  first | refine HQ.take 8 rfl KR KR KR rfl (Y.loadAllR rfl MM MM EL agg26) rfl ?_ | refine HQ.take 8 rfl KR KR KR rfl (Y.loadAll rfl MM (by rfl) agg26) rfl ?_ | refine HQ.loadPart 8 rfl KR KR KR rfl rfl MM MM (by rfl) (by rfl) agg26 rfl fun us97 hul97 hur97=>?_
  refine HQ.take 10 rfl KR KR KR rfl (Y.field rfl field50_0) rfl ?_
  first | refine HQ.take 11 rfl KR KR KR rfl (Y.loadAggV [_,_,_] rfl MM MM (by rfl) agg35) rfl ?_ | refine HQ.take 11 rfl KR KR KR rfl (Y.loadAll rfl MM (by rfl) agg35) rfl ?_
  first | refine HQ.take 12 rfl KR KR KR rfl (Y.loadAllR rfl MM MM EL agg26) rfl ?_ | refine HQ.take 12 rfl KR KR KR rfl (Y.loadAll rfl MM (by rfl) agg26) rfl ?_ | refine HQ.loadPart 12 rfl KR KR KR rfl rfl MM MM (by rfl) (by rfl) agg26 rfl fun us101 hul101 hur101=>?_
  refine HQ.step 9 rfl KR ?_
  refine RL.call rfl func91 rfl rfl (by exact with_ok _ _ _ env _ e.id 0 v.kids[k] us88 (hE.scope.mono hs) KK) ?_
  rintro v98 M98 _ ⟨hs98,rfl,hsc98⟩
  obtain ⟨p98,rfl,_⟩:=hsc98.ptr
  refine RL.nil ⟨keep_more (hs98) SB,?_⟩
  refine HQ.step 13 rfl KR ?_
  refine RL.call rfl func91 rfl rfl (by exact with_ok _ _ _ ((e.id,0,v.kids[k])::env) _ e.id 1 acc usa hsc98 KK) ?_
  rintro v102 M102 _ ⟨hs102,rfl,hsc102⟩
  obtain ⟨p102,rfl,_⟩:=hsc102.ptr
  refine RL.nil ⟨keep_more (hs98.trans (hs102)) SB,?_⟩
  refine HQ.call 14 rfl KR rfl func74 rfl rfl (by exact CallP.pick (x:=RunA br um ud F sk) PK (ih _ _ _ e.kids[2] _ ((e.id,1,acc)::(e.id,0,v.kids[k])::env) _ sk (hE.mono (hs.trans (hs98.trans hs102)) hk0 hkF hsc102) KK (hkr ▸ hfb))) ?_ (by rintro ch Mp _ ⟨x,sp2,hpe,rfl,hsp,rfl⟩;exact Turn.drop ⟨x,sp2,bind_er hrk (hkr.trans hpe),rfl,(hs.trans (hs98.trans hs102)).trans hsp,rfl⟩ SB)
  rintro v103 M103 _ ⟨x103,s103,he103,h0103,h1F103,hs103,⟨us103,rfl,hr103⟩,rfl⟩
  have hul103 : us103.length = 3:=hr103.1.trans (Val.enc_len _)
  refine ⟨keep_more (hs98.trans (hs102.trans (hs103))) SB,?_⟩
  refine HQ.last 15 rfl ⟨KR,rfl⟩ KR ?_
  refine RL.addRds hr103 ?_
  first | refine RL.storeRds 3 rfl rfl RP MM EL (by first | exact Kn.lenRds MM EL | exact Kn.lenLit rfl) size26 ?_ | refine RL.storeAgg _ rfl rfl RP (by rfl) (by first | (simp;done) | simp [IdT.vals]) (by first | (simp [Value.oneCell'];done) | simp [Value.oneCell',IdT.vals]) size26 ?_
  refine RL.nil ?_
  refine hK20 _ _ _ ?_
  refine CW.kp [0,2,5,8,9,83,84,85] rfl ?_
  refine CW.region ?_
  refine RL.q (Y.add rfl rfl OM) rfl ?_
  refine RL.q (Y.move rfl) rfl ?_
  refine RL.nil ?_
  refine ⟨v.kids.length - (k+1),[(85,_)],?_,(KP [85,0,2,5,8,9,83,84]),?_⟩
  · omega
  · refine Turn.front (x:=RunA br um ud F s103) PK ?_
    refine Turn.front (x:=.own b9 26 us103) PK ?_
    refine Turn.addRds hr103 ?_
    exact Turn.drop ⟨[_,_,_],rfl,hs0x.trans (hs98.trans (hs102.trans hs103)),k+1,x103,s103,us103,rfl,by omega,rfl,rfl,h0103,h1F103,hr103,hs.trans (hs98.trans (hs102.trans hs103)),bind_ok hrk (hkr.trans he103)⟩ SB
 refine CW.exit ?_
 refine hK16 _ _ _ ?_
 refine CW.seq fun K22 hK22=>?_
 refine CW.region ?_
 first | refine RL.q (Y.loadAllR rfl MM MM EL agg26) rfl ?_ | refine RL.q (Y.loadAll rfl MM (by rfl) agg26) rfl ?_ | refine RL.loadPart rfl rfl MM MM (by rfl) (by rfl) agg26 rfl fun us105 hul105 hur105=>?_
 first | refine RL.storeRds 3 rfl rfl RP MM EL (by first | exact Kn.lenRds MM EL | exact Kn.lenLit rfl) size26 ?_ | refine RL.storeAgg _ rfl rfl RP (by rfl) (by first | (simp;done) | simp [IdT.vals]) (by first | (simp [Value.oneCell'];done) | simp [Value.oneCell',IdT.vals]) size26 ?_
 refine RL.nil ?_
 refine hK22 _ _ _ ?_
 refine CW.kp [8] rfl ?_
 refine CW.ret ?_
 obtain rfl : k = v.kids.length:=by omega
 rw [foldF_end rfl] at hrk
 exact CellAt.mk rfl MM (by first | rfl | exact hula) agg26 (Turn.drop ⟨acc,sk,hrk,hk0,hkF,hs,⟨_,rfl,hra⟩,rfl⟩ SB)
end Go.Proofs.YtanbipbiblikbaaDoor

namespace Go.Proofs.YtanbipbiblikbaaDoor
open Xe

set_option maxRecDepth 4000 in
set_option maxHeartbeats 2000000 in
theorem value_of {p : ProgT} {F : Int} {br : Nat} {um ud : Value} {g : Nat} (ih : EvOk Tryd.prog p F br um ud g) (w0 : World) (M : Mem) (Γ : List As) (e : Ex) (use : List Value) (env : Env) (sp : Value) (s : Int) (hE : EvHyp M p um ud F s env sp) (he : Kn w0 M (RunA br um ud F s::Γ) (RdL M e.enc use)) (r : EO) (hr : r = valueF p (evalF p F g) e env s) (hb : r ≠ .bad) :
   CallP Tryd.prog w0 M (RunA br um ud F s::Γ) 102 #[ptrB br,.agg use.toArray,sp] (EvPost M Γ br um ud F r) (EvPanic M Γ br um ud F r):=by
 refine CallP.kn he fun he=>?_
 have hs0:=hE.s0
 have hsF:=hE.sF
 have hF1:=hE.F1
 rw [Ex.enc_eq] at he
 refine enterCellP (f:=102) Tryd.func102 rfl Tryd.ntmps102 rfl rfl fun w1 hw1=>?_
 refine CW.addRds he ?_
 refine CW.seq fun K1 hK1=>?_
 refine CW.region ?_
 refine RL.box _ rfl rfl rfl fun b4=>?_
 refine RL.alloc _ zero26 rfl rfl fun b6=>?_
 refine RL.nil ?_
 refine hK1 _ _ _ ?_
 refine CW.kp [0,2,4,6] rfl ?_
 refine CW.seq fun K2 hK2=>?_
 refine CW.seq fun K3 hK3=>?_
 refine CW.region ?_
 refine RL.q (Y.field rfl field50_1) rfl ?_
 first | refine RL.q (Y.loadOwnV rfl MM MM (by rfl) flat3) rfl ?_ | refine RL.q (Y.loadOwn rfl MM (by rfl) flat3) rfl ?_ | refine RL.loadOwnSl rfl rfl MM MM (by rfl) flat3 rfl fun a10 c10 hu10 hc10 hl10=>?_
 refine RL.nil ?_
 refine hK3 _ _ _ ?_
 refine CW.kp [0,2,4,6,10] rfl ?_
 refine CW.block ?_
 refine CW.seq fun K4 hK4=>?_
 refine CW.region ?_
 refine RL.q (Y.eql rfl rfl) rfl ?_
 refine RL.q (Y.assign rfl) rfl ?_
 refine RL.nil ?_
 refine hK4 _ _ _ ?_
 refine CW.kp [0,2,4,6,10,11] rfl ?_
 refine CW.ite rfl (fun h1=>?_) (fun h1=>?_)
 ·rw [valueF,if_pos h1] at hr
  refine CW.seq fun K5 hK5=>?_
  refine CW.region ?_
  refine RL.q (Y.field rfl field50_2) rfl ?_
  first | refine RL.q (Y.loadOwnV rfl MM MM (by rfl) flat3) rfl ?_ | refine RL.q (Y.loadOwn rfl MM (by rfl) flat3) rfl ?_ | refine RL.loadOwnSl rfl rfl MM MM (by rfl) flat3 rfl fun a14 c14 hu14 hc14 hl14=>?_
  refine RL.q (Y.build [_,_,_] rfl zero26 places26 (by rfl)) rfl ?_
  first | refine RL.storeRds 3 rfl rfl RP MM EL (by first | exact Kn.lenRds MM EL | exact Kn.lenLit rfl) size26 ?_ | refine RL.storeAgg _ rfl rfl RP (by rfl) (by first | (simp;done) | simp [IdT.vals]) (by first | (simp [Value.oneCell'];done) | simp [Value.oneCell',IdT.vals]) size26 ?_
  refine RL.nil ?_
  refine hK5 _ _ _ ?_
  refine CW.kp [6] rfl ?_
  refine CW.ret ?_
  exact CellAt.mk rfl MM (by first | rfl | exact rfl) agg26 (Turn.drop ⟨.mk 0 e.n [],s,hr,hs0,hsF,Sub.refl _,⟨_,rfl,leaf_rd 0 e.n⟩,rfl⟩ SB)
 refine CW.seq fun K6 hK6=>?_
 refine CW.region ?_
 refine RL.q (Y.eql rfl rfl) rfl ?_
 refine RL.q (Y.assign rfl) rfl ?_
 refine RL.nil ?_
 refine hK6 _ _ _ ?_
 refine CW.kp [0,2,4,6,10,16] rfl ?_
 refine CW.ite rfl (fun h2=>?_) (fun h2=>?_)
 ·rw [valueF,if_neg h1,if_pos h2] at hr
  refine CW.seq fun K7 hK7=>?_
  refine CW.region ?_
  refine RL.q (Y.field rfl field50_2) rfl ?_
  first | refine RL.q (Y.loadOwnV rfl MM MM (by rfl) flat3) rfl ?_ | refine RL.q (Y.loadOwn rfl MM (by rfl) flat3) rfl ?_ | refine RL.loadOwnSl rfl rfl MM MM (by rfl) flat3 rfl fun a19 c19 hu19 hc19 hl19=>?_
  refine RL.q (Y.neq rfl rfl) rfl ?_
  refine RL.callv rfl func31 rfl rfl (by exact etruth_ok _ _ _ _) ?_
  first | refine RL.storeRds 3 rfl rfl RP MM EL (by first | exact Kn.lenRds MM EL | exact Kn.lenLit rfl) size26 ?_ | refine RL.storeAgg _ rfl rfl RP (by rfl) (by first | (simp;done) | simp [IdT.vals]) (by first | (simp [Value.oneCell'];done) | simp [Value.oneCell',IdT.vals]) size26 ?_
  refine RL.nil ?_
  refine hK7 _ _ _ ?_
  refine CW.kp [6] rfl ?_
  refine CW.ret ?_
  exact CellAt.mk rfl MM (by first | rfl | exact rfl) agg26 (Turn.drop ⟨truthV (e.n ≠ 0),s,hr,hs0,hsF,Sub.refl _,⟨_,rfl,truthV_rd _ decide_eq_true_iff⟩,rfl⟩ SB)
 refine CW.seq fun K8 hK8=>?_
 refine CW.region ?_
 refine RL.q (Y.eql rfl rfl) rfl ?_
 refine RL.q (Y.assign rfl) rfl ?_
 refine RL.nil ?_
 refine hK8 _ _ _ ?_
 refine CW.kp [0,2,4,6,10,22] rfl ?_
 refine CW.ite rfl (fun h3=>?_) (fun h3=>?_)
 ·rw [valueF,if_neg h1,if_neg h2,if_pos h3] at hr
  refine CW.seq fun K9 hK9=>?_
  refine CW.region ?_
  refine RL.q (Y.move rfl) rfl ?_
  refine RL.q (Y.field rfl field50_3) rfl ?_
  first | refine RL.q (Y.loadAggV [_,_,_] rfl MM MM (by rfl) agg35) rfl ?_ | refine RL.q (Y.loadAll rfl MM (by rfl) agg35) rfl ?_
  refine RL.q (Y.field rfl field50_2) rfl ?_
  first | refine RL.q (Y.loadOwnV rfl MM MM (by rfl) flat3) rfl ?_ | refine RL.q (Y.loadOwn rfl MM (by rfl) flat3) rfl ?_ | refine RL.loadOwnSl rfl rfl MM MM (by rfl) flat3 rfl fun a28 c28 hu28 hc28 hl28=>?_
  refine RL.q (Y.build (e.ref.vals++[vint e.n]) rfl zero144 places144 (by rfl)) rfl ?_
  refine RL.call rfl func111 rfl rfl (by exact find_ok _ _ _ env _ e.ref e.n hE.scope) ?_
  rintro v30 M _ ⟨rfl,rfl,us30,rfl,hr30⟩
  refine RL.addRds hr30 ?_
  have hul30 : us30.length = 3:=hr30.1.trans (Val.enc_len _)
  first | refine RL.storeRds 3 rfl rfl RP MM EL (by first | exact Kn.lenRds MM EL | exact Kn.lenLit rfl) size26 ?_ | refine RL.storeAgg _ rfl rfl RP (by rfl) (by first | (simp;done) | simp [IdT.vals]) (by first | (simp [Value.oneCell'];done) | simp [Value.oneCell',IdT.vals]) size26 ?_
  refine RL.nil ?_
  refine hK9 _ _ _ ?_
  refine CW.kp [6] rfl ?_
  refine CW.ret ?_
  exact CellAt.mk rfl MM (by first | rfl | exact hul30) agg26 (Turn.drop ⟨envFind env e.ref e.n,s,hr,hs0,hsF,Sub.refl _,⟨_,rfl,hr30⟩,rfl⟩ SB)
 refine CW.seq fun K10 hK10=>?_
 refine CW.region ?_
 refine RL.q (Y.eql rfl rfl) rfl ?_
 refine RL.q (Y.assign rfl) rfl ?_
 refine RL.nil ?_
 refine hK10 _ _ _ ?_
 refine CW.kp [0,2,4,6,10,31] rfl ?_
 refine CW.ite rfl (fun h4=>?_) (fun h4=>?_)
 ·rw [valueF,if_neg h1,if_neg h2,if_neg h3,if_pos h4] at hr
  have hab:=abind_nb hr hb
  obtain ⟨ra,hra0⟩ : ∃ ra,ra = allK (fun x s=>evalF p F g x env s) e.kids s:=⟨_,rfl⟩
  rw [←hra0] at hr hab
  obtain ⟨hkl,hra⟩:=allK_nb hra0 hab
  refine CW.seq fun K11 hK11=>?_
  refine CW.regionH mix _ _ (fun _ hw=>hw) ?_
  refine HL.take 0 rfl KR KR KR rfl (Y.move rfl) rfl ?_
  refine HL.take 1 rfl KR KR KR rfl (Y.nilCheck rfl) rfl ?_
  refine HL.take 2 rfl KR KR KR rfl (Y.field rfl field131_0) rfl ?_
  refine HL.take 3 rfl KR KR KR rfl (Y.loadAggOwn [um,ud] rfl MM (fun j v hj=>by rcases j with _ | _ | j;exact hj;exact hj;simp at hj) agg32) rfl ?_
  refine HL.take 4 rfl KR KR KR rfl (Y.field rfl field50_3) rfl ?_
  first | refine HL.take 5 rfl KR KR KR rfl (Y.loadAggV [_,_,_] rfl MM MM (by rfl) agg35) rfl ?_ | refine HL.take 5 rfl KR KR KR rfl (Y.loadAll rfl MM (by rfl) agg35) rfl ?_
  refine HL.step2 6 10 rfl rfl KR ?_ ?_
  ·refine RL.call rfl func57 rfl rfl (by exact def_ok _ _ _ p _ e.ref (Kn.of hE.prog)) ?_
   rintro v40 M _ ⟨rfl,rfl,us40,rfl,hr40⟩
   refine RL.addRds hr40 ?_
   have hul40 : us40.length = 31:=hr40.1.trans (DefT.enc_len _)
   refine RL.nil ⟨keep_same SB,?_⟩
   refine HL.take 7 rfl KR KR KR rfl (Y.move rfl) rfl ?_
   refine HL.take 8 rfl KR KR KR rfl (Y.extract rfl rfl) rfl ?_
   refine HL.take 9 rfl KR KR KR rfl (Y.extract rfl rfl) rfl ?_
   refine HL.step 10 rfl KR ?_
   refine RL.alloc _ zero52 rfl rfl fun b7=>?_
   refine RL.nil ⟨keep_same SB,?_⟩
   refine HL.step 11 rfl KR ?_
   first | refine RL.storeRds 31 rfl rfl RP MM EL (by first | exact Kn.lenRds MM EL | exact Kn.lenLit rfl) size52 ?_ | refine RL.storeAgg _ rfl rfl RP (by rfl) (by first | (simp;done) | simp [IdT.vals]) (by first | (simp [Value.oneCell'];done) | simp [Value.oneCell',IdT.vals]) size52 ?_
   refine RL.nil ⟨keep_same SB,?_⟩
   refine HL.take 12 rfl KR KR KR rfl (Y.assign rfl) rfl ?_
   refine HL.done KR ?_
   refine hK11 _ _ _ ?_
   refine CW.kp [0,2,4,6,7] rfl ?_
   refine CW.seq fun K12 hK12=>?_
   refine CW.regionQ2 8 mix (x:=RunA br um ud F s) PK ?_
   refine HQ.take 0 rfl KR KR KR rfl (Y.move rfl) rfl ?_
   first | refine HQ.take 1 rfl KR KR KR rfl (Y.loadAllR rfl MM MM EL agg52) rfl ?_ | refine HQ.take 1 rfl KR KR KR rfl (Y.loadAll rfl MM (by rfl) agg52) rfl ?_ | refine HQ.loadPart 1 rfl KR KR KR rfl rfl MM MM (by rfl) (by rfl) agg52 rfl fun us44 hul44 hur44=>?_
   refine HQ.take 2 rfl KR KR KR rfl (Y.move rfl) rfl ?_
   refine HQ.take 3 rfl KR KR KR rfl (Y.field rfl field50_5) rfl ?_
   first | refine HQ.take 4 rfl KR KR KR rfl (Y.loadOwnV rfl MM MM (by rfl) flat47) rfl ?_ | refine HQ.take 4 rfl KR KR KR rfl (Y.loadOwn rfl MM (by rfl) flat47) rfl ?_ | refine HQ.loadOwnSl 4 rfl KR KR KR rfl rfl MM MM (by rfl) flat47 rfl fun a47 c47 hu47 hc47 hl47=>?_
   refine HQ.take 5 rfl KR KR KR rfl (Y.move rfl) rfl ?_
   refine HQ.call 6 rfl KR rfl func112 rfl rfl (by exact CallP.pick (x:=RunA br um ud F s) PK (all_ok ih _ _ _ e.kids _ env sp s hE KK hkl ra hra hab)) ?_ (by rintro ch Mp _ ⟨x,sp2,hpe,rfl,hsp,rfl⟩;exact Turn.drop ⟨x,sp2,abind_er hr hpe,rfl,hsp,rfl⟩ SB)
   rintro v49 M49 _ ⟨l49,s49,he49,h049,h1F49,hs49,hr49,rfl⟩
   obtain ⟨a49,c49,rfl,hc49,hlm49,hln49⟩:=hr49.slice
   have hr:=abind_ok hr he49
   have hsm49:=allF_small (hra.symm.trans he49)
   obtain ⟨env2,hae⟩ : ∃ env2,argEnv (theDef p e.ref).slots l49 [] = some env2:=by
     cases h : argEnv (theDef p e.ref).slots l49 [] with
     | none=>rw [h] at hr;exact absurd hr hb
     | some env2=>exact ⟨env2,rfl⟩
   rw [hae] at hr
   simp only at hr
   refine ⟨keep_more (hs49) SB,?_⟩
   refine HQ.call 7 rfl KR rfl func63 rfl rfl (by exact CallP.pick (x:=RunA br um ud F s49) PK (call_ok ih _ _ _ (theDef p e.ref) us40 l49 _ env2 s49 (hE.mono hs49 h049 h1F49 rfl) KK (Kn.of hr49) hae (hr ▸ hb))) ?_ (by rintro ch Mp _ ⟨x,sp2,hpe,rfl,hsp,rfl⟩;exact Turn.drop ⟨x,sp2,hr.trans hpe,rfl,hs49.trans hsp,rfl⟩ SB)
   rintro v50 M50 _ ⟨x50,s50,he50,h050,h1F50,hs50,⟨us50,rfl,hr50⟩,rfl⟩
   have hul50 : us50.length = 3:=hr50.1.trans (Val.enc_len _)
   refine ⟨keep_more (hs49.trans (hs50)) SB,?_⟩
   refine HQ.last 8 rfl ⟨KR,rfl⟩ KR ?_
   refine RL.addRds hr50 ?_
   first | refine RL.storeRds 3 rfl rfl RP MM EL (by first | exact Kn.lenRds MM EL | exact Kn.lenLit rfl) size26 ?_ | refine RL.storeAgg _ rfl rfl RP (by rfl) (by first | (simp;done) | simp [IdT.vals]) (by first | (simp [Value.oneCell'];done) | simp [Value.oneCell',IdT.vals]) size26 ?_
   refine RL.nil ?_
   refine hK12 _ _ _ ?_
   refine CW.kp [6] rfl ?_
   refine CW.ret ?_
   exact CellAt.mk rfl MM (by first | rfl | exact hul50) agg26 (Turn.drop ⟨x50,s50,hr.trans he50,h050,h1F50,hs49.trans hs50,⟨_,rfl,hr50⟩,rfl⟩ SB)
  refine RL.alloc _ zero52 rfl rfl fun b7=>?_
  refine RL.nil ⟨keep_same SB,?_⟩
  refine HL.step 6 rfl KR ?_
  refine RL.call rfl func57 rfl rfl (by exact def_ok _ _ _ p _ e.ref (Kn.of hE.prog)) ?_
  rintro v40 M _ ⟨rfl,rfl,us40,rfl,hr40⟩
  refine RL.addRds hr40 ?_
  have hul40 : us40.length = 31:=hr40.1.trans (DefT.enc_len _)
  refine RL.nil ⟨keep_same SB,?_⟩
  refine HL.take 7 rfl KR KR KR rfl (Y.move rfl) rfl ?_
  refine HL.take 8 rfl KR KR KR rfl (Y.extract rfl rfl) rfl ?_
  refine HL.take 9 rfl KR KR KR rfl (Y.extract rfl rfl) rfl ?_
  refine HL.step 11 rfl KR ?_
  first | refine RL.storeRds 31 rfl rfl RP MM EL (by first | exact Kn.lenRds MM EL | exact Kn.lenLit rfl) size52 ?_ | refine RL.storeAgg _ rfl rfl RP (by rfl) (by first | (simp;done) | simp [IdT.vals]) (by first | (simp [Value.oneCell'];done) | simp [Value.oneCell',IdT.vals]) size52 ?_
  refine RL.nil ⟨keep_same SB,?_⟩
  refine HL.take 12 rfl KR KR KR rfl (Y.assign rfl) rfl ?_
  refine HL.done KR ?_
  refine hK11 _ _ _ ?_
  refine CW.kp [0,2,4,6,7] rfl ?_
  refine CW.seq fun K13 hK13=>?_
  refine CW.regionQ2 8 mix (x:=RunA br um ud F s) PK ?_
  refine HQ.take 0 rfl KR KR KR rfl (Y.move rfl) rfl ?_
  first | refine HQ.take 1 rfl KR KR KR rfl (Y.loadAllR rfl MM MM EL agg52) rfl ?_ | refine HQ.take 1 rfl KR KR KR rfl (Y.loadAll rfl MM (by rfl) agg52) rfl ?_ | refine HQ.loadPart 1 rfl KR KR KR rfl rfl MM MM (by rfl) (by rfl) agg52 rfl fun us44 hul44 hur44=>?_
  refine HQ.take 2 rfl KR KR KR rfl (Y.move rfl) rfl ?_
  refine HQ.take 3 rfl KR KR KR rfl (Y.field rfl field50_5) rfl ?_
  first | refine HQ.take 4 rfl KR KR KR rfl (Y.loadOwnV rfl MM MM (by rfl) flat47) rfl ?_ | refine HQ.take 4 rfl KR KR KR rfl (Y.loadOwn rfl MM (by rfl) flat47) rfl ?_ | refine HQ.loadOwnSl 4 rfl KR KR KR rfl rfl MM MM (by rfl) flat47 rfl fun a47 c47 hu47 hc47 hl47=>?_
  refine HQ.take 5 rfl KR KR KR rfl (Y.move rfl) rfl ?_
  refine HQ.call 6 rfl KR rfl func112 rfl rfl (by exact CallP.pick (x:=RunA br um ud F s) PK (all_ok ih _ _ _ e.kids _ env sp s hE KK hkl ra hra hab)) ?_ (by rintro ch Mp _ ⟨x,sp2,hpe,rfl,hsp,rfl⟩;exact Turn.drop ⟨x,sp2,abind_er hr hpe,rfl,hsp,rfl⟩ SB)
  rintro v49 M49 _ ⟨l49,s49,he49,h049,h1F49,hs49,hr49,rfl⟩
  obtain ⟨a49,c49,rfl,hc49,hlm49,hln49⟩:=hr49.slice
  have hr:=abind_ok hr he49
  have hsm49:=allF_small (hra.symm.trans he49)
  obtain ⟨env2,hae⟩ : ∃ env2,argEnv (theDef p e.ref).slots l49 [] = some env2:=by
    cases h : argEnv (theDef p e.ref).slots l49 [] with
    | none=>rw [h] at hr;exact absurd hr hb
    | some env2=>exact ⟨env2,rfl⟩
  rw [hae] at hr
  simp only at hr
  refine ⟨keep_more (hs49) SB,?_⟩
  refine HQ.call 7 rfl KR rfl func63 rfl rfl (by exact CallP.pick (x:=RunA br um ud F s49) PK (call_ok ih _ _ _ (theDef p e.ref) us40 l49 _ env2 s49 (hE.mono hs49 h049 h1F49 rfl) KK (Kn.of hr49) hae (hr ▸ hb))) ?_ (by rintro ch Mp _ ⟨x,sp2,hpe,rfl,hsp,rfl⟩;exact Turn.drop ⟨x,sp2,hr.trans hpe,rfl,hs49.trans hsp,rfl⟩ SB)
  rintro v50 M50 _ ⟨x50,s50,he50,h050,h1F50,hs50,⟨us50,rfl,hr50⟩,rfl⟩
  have hul50 : us50.length = 3:=hr50.1.trans (Val.enc_len _)
  refine ⟨keep_more (hs49.trans (hs50)) SB,?_⟩
  refine HQ.last 8 rfl ⟨KR,rfl⟩ KR ?_
  refine RL.addRds hr50 ?_
  first | refine RL.storeRds 3 rfl rfl RP MM EL (by first | exact Kn.lenRds MM EL | exact Kn.lenLit rfl) size26 ?_ | refine RL.storeAgg _ rfl rfl RP (by rfl) (by first | (simp;done) | simp [IdT.vals]) (by first | (simp [Value.oneCell'];done) | simp [Value.oneCell',IdT.vals]) size26 ?_
  refine RL.nil ?_
  refine hK13 _ _ _ ?_
  refine CW.kp [6] rfl ?_
  refine CW.ret ?_
  exact CellAt.mk rfl MM (by first | rfl | exact hul50) agg26 (Turn.drop ⟨x50,s50,hr.trans he50,h050,h1F50,hs49.trans hs50,⟨_,rfl,hr50⟩,rfl⟩ SB)
 refine CW.seq fun K14 hK14=>?_
 refine CW.region ?_
 refine RL.q (Y.eql rfl rfl) rfl ?_
 refine RL.q (Y.assign rfl) rfl ?_
 refine RL.nil ?_
 refine hK14 _ _ _ ?_
 refine CW.kp [0,2,4,6,10,51] rfl ?_
 refine CW.ite rfl (fun h5=>?_) (fun h5=>?_)
 ·rw [valueF,if_neg h1,if_neg h2,if_neg h3,if_neg h4,if_pos h5] at hr
  have hab:=abind_nb hr hb
  obtain ⟨ra,hra0⟩ : ∃ ra,ra = allK (fun x s=>evalF p F g x env s) e.kids s:=⟨_,rfl⟩
  rw [←hra0] at hr hab
  obtain ⟨hkl,hra⟩:=allK_nb hra0 hab
  refine CW.seq fun K15 hK15=>?_
  refine CW.regionQ2 8 mix (x:=RunA br um ud F s) PK ?_
  refine HQ.take 0 rfl KR KR KR rfl (Y.field rfl field50_2) rfl ?_
  first | refine HQ.take 1 rfl KR KR KR rfl (Y.loadOwnV rfl MM MM (by rfl) flat3) rfl ?_ | refine HQ.take 1 rfl KR KR KR rfl (Y.loadOwn rfl MM (by rfl) flat3) rfl ?_ | refine HQ.loadOwnSl 1 rfl KR KR KR rfl rfl MM MM (by rfl) flat3 rfl fun a54 c54 hu54 hc54 hl54=>?_
  refine HQ.take 2 rfl KR KR KR rfl (Y.move rfl) rfl ?_
  refine HQ.take 3 rfl KR KR KR rfl (Y.field rfl field50_5) rfl ?_
  first | refine HQ.take 4 rfl KR KR KR rfl (Y.loadOwnV rfl MM MM (by rfl) flat47) rfl ?_ | refine HQ.take 4 rfl KR KR KR rfl (Y.loadOwn rfl MM (by rfl) flat47) rfl ?_ | refine HQ.loadOwnSl 4 rfl KR KR KR rfl rfl MM MM (by rfl) flat47 rfl fun a57 c57 hu57 hc57 hl57=>?_
  refine HQ.take 5 rfl KR KR KR rfl (Y.move rfl) rfl ?_
  refine HQ.call 6 rfl KR rfl func112 rfl rfl (by exact CallP.pick (x:=RunA br um ud F s) PK (all_ok ih _ _ _ e.kids _ env sp s hE KK hkl ra hra hab)) ?_ (by rintro ch Mp _ ⟨x,sp2,hpe,rfl,hsp,rfl⟩;exact Turn.drop ⟨x,sp2,abind_er hr hpe,rfl,hsp,rfl⟩ SB)
  rintro v59 M59 _ ⟨l59,s59,he59,h059,h1F59,hs59,hr59,rfl⟩
  obtain ⟨a59,c59,rfl,hc59,hlm59,hln59⟩:=hr59.slice
  have hr:=abind_ok hr he59
  have hsm59:=allF_small (hra.symm.trans he59)
  obtain ⟨x60,hx60,hr⟩:=okOpt_at hr hb
  refine ⟨keep_more (hs59) SB,?_⟩
  refine HQ.step 7 rfl KR ?_
  refine RL.addRd hr59 ?_
  refine RL.call rfl func12 rfl rfl (by exact op_ok _ _ _ e.n l59 _ x60 (Kn.of hr59) (hE.nums.mono hs59) (fun v hv=>Nat.le_trans (hsm59 v hv) OM) hx60) ?_
  rintro v60 M60 _ ⟨hs60,rfl,us60,rfl,hr60⟩
  refine RL.addRds hr60 ?_
  have hul60 : us60.length = 3:=hr60.1.trans (Val.enc_len _)
  refine RL.nil ⟨keep_more (hs59.trans (hs60)) SB,?_⟩
  refine HQ.last 8 rfl ⟨KR,rfl⟩ KR ?_
  first | refine RL.storeRds 3 rfl rfl RP MM EL (by first | exact Kn.lenRds MM EL | exact Kn.lenLit rfl) size26 ?_ | refine RL.storeAgg _ rfl rfl RP (by rfl) (by first | (simp;done) | simp [IdT.vals]) (by first | (simp [Value.oneCell'];done) | simp [Value.oneCell',IdT.vals]) size26 ?_
  refine RL.nil ?_
  refine hK15 _ _ _ ?_
  refine CW.kp [6] rfl ?_
  refine CW.ret ?_
  exact CellAt.mk rfl MM (by first | rfl | exact hul60) agg26 (Turn.drop ⟨x60,s59,hr,h059,h1F59,hs59.trans hs60,⟨_,rfl,hr60⟩,rfl⟩ SB)
 refine CW.seq fun K16 hK16=>?_
 refine CW.region ?_
 refine RL.q (Y.eql rfl rfl) rfl ?_
 refine RL.q (Y.assign rfl) rfl ?_
 refine RL.nil ?_
 refine hK16 _ _ _ ?_
 refine CW.kp [0,2,4,6,10,61] rfl ?_
 refine CW.ite rfl (fun h6=>?_) (fun h6=>?_)
 ·rw [valueF,if_neg h1,if_neg h2,if_neg h3,if_neg h4,if_neg h5,if_pos h6] at hr
  have hab:=abind_nb hr hb
  obtain ⟨ra,hra0⟩ : ∃ ra,ra = allK (fun x s=>evalF p F g x env s) e.kids s:=⟨_,rfl⟩
  rw [←hra0] at hr hab
  obtain ⟨hkl,hra⟩:=allK_nb hra0 hab
  refine CW.seq fun K17 hK17=>?_
  refine CW.regionX ?_
  refine RX.step ?_
  refine RL.q (Y.move rfl) rfl ?_
  refine RL.nil ?_
  refine RX.step ?_
  refine RL.q (Y.field rfl field50_5) rfl ?_
  refine RL.nil ?_
  refine RX.step ?_
  first | refine RL.q (Y.loadOwnV rfl MM MM (by rfl) flat47) rfl ?_ | refine RL.q (Y.loadOwn rfl MM (by rfl) flat47) rfl ?_ | refine RL.loadOwnSl rfl rfl MM MM (by rfl) flat47 rfl fun a65 c65 hu65 hc65 hl65=>?_
  refine RL.nil ?_
  refine RX.step ?_
  refine RL.q (Y.move rfl) rfl ?_
  refine RL.nil ?_
  refine RX.call rfl func112 rfl rfl (by exact CallP.pick (x:=RunA br um ud F s) PK (all_ok ih _ _ _ e.kids _ env sp s hE KK hkl ra hra hab)) ?_ (by rintro ch Mp _ ⟨x,sp2,hpe,rfl,hsp,rfl⟩;exact Turn.drop ⟨x,sp2,abind_er hr hpe,rfl,hsp,rfl⟩ SB)
  rintro v67 M67 _ ⟨l67,s67,he67,h067,h1F67,hs67,hr67,rfl⟩
  obtain ⟨a67,c67,rfl,hc67,hlm67,hln67⟩:=hr67.slice
  have hr:=abind_ok hr he67
  have hsm67:=allF_small (hra.symm.trans he67)
  refine RX.of ?_
  refine RL.addRd hr67 ?_
  refine RL.q (Y.build [_,_,_] rfl zero26 places26 (by rfl)) rfl ?_
  first | refine RL.storeRds 3 rfl rfl RP MM EL (by first | exact Kn.lenRds MM EL | exact Kn.lenLit rfl) size26 ?_ | refine RL.storeAgg _ rfl rfl RP (by rfl) (by first | (simp;done) | simp [IdT.vals]) (by first | (simp [Value.oneCell'];done) | simp [Value.oneCell',IdT.vals]) size26 ?_
  refine RL.nil ?_
  refine hK17 _ _ _ ?_
  refine CW.kp [6] rfl ?_
  refine CW.ret ?_
  exact CellAt.mk rfl MM (by rfl) agg26 (Turn.drop ⟨.mk 2 0 l67,s67,hr,h067,h1F67,hs67,⟨_,rfl,node_rd 2 0 l67 hr67⟩,rfl⟩ SB)
 refine CW.seq fun K18 hK18=>?_
 refine CW.region ?_
 refine RL.q (Y.eql rfl rfl) rfl ?_
 refine RL.q (Y.assign rfl) rfl ?_
 refine RL.nil ?_
 refine hK18 _ _ _ ?_
 refine CW.kp [0,2,4,6,10,69] rfl ?_
 refine CW.ite rfl (fun h7=>?_) (fun h7=>?_)
 ·rw [valueF,if_neg h1,if_neg h2,if_neg h3,if_neg h4,if_neg h5,if_neg h6,if_pos h7] at hr
  have hab:=abind_nb hr hb
  obtain ⟨ra,hra0⟩ : ∃ ra,ra = allK (fun x s=>evalF p F g x env s) e.kids s:=⟨_,rfl⟩
  rw [←hra0] at hr hab
  obtain ⟨hkl,hra⟩:=allK_nb hra0 hab
  refine CW.seq fun K19 hK19=>?_
  refine CW.regionQ2 8 mix (x:=RunA br um ud F s) PK ?_
  refine HQ.take 0 rfl KR KR KR rfl (Y.field rfl field50_2) rfl ?_
  first | refine HQ.take 1 rfl KR KR KR rfl (Y.loadOwnV rfl MM MM (by rfl) flat3) rfl ?_ | refine HQ.take 1 rfl KR KR KR rfl (Y.loadOwn rfl MM (by rfl) flat3) rfl ?_ | refine HQ.loadOwnSl 1 rfl KR KR KR rfl rfl MM MM (by rfl) flat3 rfl fun a72 c72 hu72 hc72 hl72=>?_
  refine HQ.take 2 rfl KR KR KR rfl (Y.move rfl) rfl ?_
  refine HQ.take 3 rfl KR KR KR rfl (Y.field rfl field50_5) rfl ?_
  first | refine HQ.take 4 rfl KR KR KR rfl (Y.loadOwnV rfl MM MM (by rfl) flat47) rfl ?_ | refine HQ.take 4 rfl KR KR KR rfl (Y.loadOwn rfl MM (by rfl) flat47) rfl ?_ | refine HQ.loadOwnSl 4 rfl KR KR KR rfl rfl MM MM (by rfl) flat47 rfl fun a75 c75 hu75 hc75 hl75=>?_
  refine HQ.take 5 rfl KR KR KR rfl (Y.move rfl) rfl ?_
  refine HQ.call 6 rfl KR rfl func112 rfl rfl (by exact CallP.pick (x:=RunA br um ud F s) PK (all_ok ih _ _ _ e.kids _ env sp s hE KK hkl ra hra hab)) ?_ (by rintro ch Mp _ ⟨x,sp2,hpe,rfl,hsp,rfl⟩;exact Turn.drop ⟨x,sp2,abind_er hr hpe,rfl,hsp,rfl⟩ SB)
  rintro v77 M77 _ ⟨l77,s77,he77,h077,h1F77,hs77,hr77,rfl⟩
  obtain ⟨a77,c77,rfl,hc77,hlm77,hln77⟩:=hr77.slice
  have hr:=abind_ok hr he77
  have hsm77:=allF_small (hra.symm.trans he77)
  refine ⟨keep_more (hs77) SB,?_⟩
  refine HQ.take 7 rfl KR KR KR rfl (Y.build [_,_,_] rfl zero26 places26 (by rfl)) rfl ?_
  refine HQ.last 8 rfl ⟨KR,rfl⟩ KR ?_
  refine RL.addRd hr77 ?_
  first | refine RL.storeRds 3 rfl rfl RP MM EL (by first | exact Kn.lenRds MM EL | exact Kn.lenLit rfl) size26 ?_ | refine RL.storeAgg _ rfl rfl RP (by rfl) (by first | (simp;done) | simp [IdT.vals]) (by first | (simp [Value.oneCell'];done) | simp [Value.oneCell',IdT.vals]) size26 ?_
  refine RL.nil ?_
  refine hK19 _ _ _ ?_
  refine CW.kp [6] rfl ?_
  refine CW.ret ?_
  exact CellAt.mk rfl MM (by rfl) agg26 (Turn.drop ⟨.mk 3 e.n l77,s77,hr,h077,h1F77,hs77,⟨_,rfl,node_rd 3 e.n l77 hr77⟩,rfl⟩ SB)
 refine CW.seq fun K20 hK20=>?_
 refine CW.region ?_
 refine RL.q (Y.eql rfl rfl) rfl ?_
 refine RL.q (Y.assign rfl) rfl ?_
 refine RL.nil ?_
 refine hK20 _ _ _ ?_
 refine CW.kp [0,2,4,6,79] rfl ?_
 refine CW.ite rfl (fun h8=>?_) (fun h8=>?_)
 ·rw [valueF,if_neg h1,if_neg h2,if_neg h3,if_neg h4,if_neg h5,if_neg h6,if_neg h7,if_pos h8] at hr
  have hab:=abind_nb hr hb
  obtain ⟨ra,hra0⟩ : ∃ ra,ra = allK (fun x s=>evalF p F g x env s) e.kids s:=⟨_,rfl⟩
  rw [←hra0] at hr hab
  obtain ⟨hkl,hra⟩:=allK_nb hra0 hab
  refine CW.seq fun K21 hK21=>?_
  refine CW.regionX ?_
  refine RX.step ?_
  refine RL.q (Y.move rfl) rfl ?_
  refine RL.nil ?_
  refine RX.step ?_
  refine RL.q (Y.field rfl field50_5) rfl ?_
  refine RL.nil ?_
  refine RX.step ?_
  first | refine RL.q (Y.loadOwnV rfl MM MM (by rfl) flat47) rfl ?_ | refine RL.q (Y.loadOwn rfl MM (by rfl) flat47) rfl ?_ | refine RL.loadOwnSl rfl rfl MM MM (by rfl) flat47 rfl fun a83 c83 hu83 hc83 hl83=>?_
  refine RL.nil ?_
  refine RX.step ?_
  refine RL.q (Y.move rfl) rfl ?_
  refine RL.nil ?_
  refine RX.call rfl func112 rfl rfl (by exact CallP.pick (x:=RunA br um ud F s) PK (all_ok ih _ _ _ e.kids _ env sp s hE KK hkl ra hra hab)) ?_ (by rintro ch Mp _ ⟨x,sp2,hpe,rfl,hsp,rfl⟩;exact Turn.drop ⟨x,sp2,abind_er hr hpe,rfl,hsp,rfl⟩ SB)
  rintro v85 M85 _ ⟨l85,s85,he85,h085,h1F85,hs85,hr85,rfl⟩
  obtain ⟨a85,c85,rfl,hc85,hlm85,hln85⟩:=hr85.slice
  have hr:=abind_ok hr he85
  have hsm85:=allF_small (hra.symm.trans he85)
  refine RX.of ?_
  refine RL.addRd hr85 ?_
  refine RL.q (Y.build [_,_,_] rfl zero26 places26 (by rfl)) rfl ?_
  first | refine RL.storeRds 3 rfl rfl RP MM EL (by first | exact Kn.lenRds MM EL | exact Kn.lenLit rfl) size26 ?_ | refine RL.storeAgg _ rfl rfl RP (by rfl) (by first | (simp;done) | simp [IdT.vals]) (by first | (simp [Value.oneCell'];done) | simp [Value.oneCell',IdT.vals]) size26 ?_
  refine RL.nil ?_
  refine hK21 _ _ _ ?_
  refine CW.kp [6] rfl ?_
  refine CW.ret ?_
  exact CellAt.mk rfl MM (by rfl) agg26 (Turn.drop ⟨.mk 4 0 l85,s85,hr,h085,h1F85,hs85,⟨_,rfl,node_rd 4 0 l85 hr85⟩,rfl⟩ SB)
 rw [valueF,if_neg h1,if_neg h2,if_neg h3,if_neg h4,if_neg h5,if_neg h6,if_neg h7,if_neg h8] at hr
 have hab:=bind_nb hr hb
 obtain ⟨ra,hra0⟩ : ∃ ra,ra = kidF (evalF p F g) e.kids 0 env s:=⟨_,rfl⟩
 rw [←hra0] at hr hab
 obtain ⟨hk1,hk1e⟩:=kidF_at (k:=0) rfl hra0 hab
 rw [hk1e] at hr hab
 refine CW.skip ?_
 refine hK2 _ _ _ ?_
 refine CW.seq fun K22 hK22=>?_
 refine CW.regionQ2 11 mix (x:=RunA br um ud F s) PK ?_
 refine HQ.take 0 rfl KR KR KR rfl (Y.move rfl) rfl ?_
 first | refine HQ.take 1 rfl KR KR KR rfl (Y.loadAllR rfl MM MM EL agg50) rfl ?_ | refine HQ.take 1 rfl KR KR KR rfl (Y.loadAll rfl MM (by rfl) agg50) rfl ?_ | refine HQ.loadPart 1 rfl KR KR KR rfl rfl MM MM (by rfl) (by rfl) agg50 rfl fun us88 hul88 hur88=>?_
 refine HQ.take 2 rfl KR KR KR rfl (Y.move rfl) rfl ?_
 refine HQ.take 3 rfl KR KR KR rfl (Y.move rfl) rfl ?_
 refine HQ.take 4 rfl KR KR KR rfl (Y.field rfl field50_5) rfl ?_
 first | refine HQ.take 5 rfl KR KR KR rfl (Y.loadOwnV rfl MM MM (by rfl) flat47) rfl ?_ | refine HQ.take 5 rfl KR KR KR rfl (Y.loadOwn rfl MM (by rfl) flat47) rfl ?_ | refine HQ.loadOwnSl 5 rfl KR KR KR rfl rfl MM MM (by rfl) flat47 rfl fun a92 c92 hu92 hc92 hl92=>?_
 refine HQ.take 6 rfl KR KR KR rfl (Y.index 0 rfl rfl rfl AO slice47 SM) rfl ?_
 refine HQ.loadAgg 7 rfl KR KR KR rfl rfl MM (Eq.trans (flat_take Ex.enc_len _ _ _ (List.getElem?_eq_getElem AO)) (Ex.enc_eq _)) (by rfl) agg50 rfl fun us94 hul94 hur94=>?_
 refine HQ.take 8 rfl KR KR KR rfl (Y.move rfl) rfl ?_
 refine HQ.call 9 rfl KR rfl func74 rfl rfl (by exact CallP.pick (x:=RunA br um ud F s) PK (ih _ _ _ e.kids[0] _ env sp s hE KK hab)) ?_ (by rintro ch Mp _ ⟨x,sp2,hpe,rfl,hsp,rfl⟩;exact Turn.drop ⟨x,sp2,bind_er hr hpe,rfl,hsp,rfl⟩ SB)
 rintro v96 M96 _ ⟨x96,s96,he96,h096,h1F96,hs96,⟨us96,rfl,hr96⟩,rfl⟩
 have hul96 : us96.length = 3:=hr96.1.trans (Val.enc_len _)
 have hr:=bind_ok hr he96
 refine ⟨keep_more (hs96) SB,?_⟩
 refine HQ.call 10 rfl KR rfl func113 rfl rfl (by exact CallP.pick (x:=RunA br um ud F s96) PK (branch_ok ih _ _ _ e _ env sp x96 us96 s96 (hE.next hs96 h096 h1F96) KK (Kn.of hr96) r hr hb)) ?_ (by rintro ch Mp _ ⟨x,sp2,hpe,rfl,hsp,rfl⟩;exact Turn.drop ⟨x,sp2,hpe,rfl,hs96.trans hsp,rfl⟩ SB)
 rintro v97 M97 _ ⟨x97,s97,he97,h097,h1F97,hs97,⟨us97,rfl,hr97⟩,rfl⟩
 have hul97 : us97.length = 3:=hr97.1.trans (Val.enc_len _)
 refine ⟨keep_more (hs96.trans (hs97)) SB,?_⟩
 refine HQ.last 11 rfl ⟨KR,rfl⟩ KR ?_
 refine RL.addRds hr97 ?_
 first | refine RL.storeRds 3 rfl rfl RP MM EL (by first | exact Kn.lenRds MM EL | exact Kn.lenLit rfl) size26 ?_ | refine RL.storeAgg _ rfl rfl RP (by rfl) (by first | (simp;done) | simp [IdT.vals]) (by first | (simp [Value.oneCell'];done) | simp [Value.oneCell',IdT.vals]) size26 ?_
 refine RL.nil ?_
 refine hK22 _ _ _ ?_
 refine CW.kp [6] rfl ?_
 refine CW.ret ?_
 exact CellAt.mk rfl MM (by first | rfl | exact hul97) agg26 (Turn.drop ⟨x97,s97,he97,h097,h1F97,hs96.trans hs97,⟨_,rfl,hr97⟩,rfl⟩ SB)
end Go.Proofs.YtanbipbiblikbaaDoor

namespace Go.Proofs.YtanbipbiblikbaaDoor
open Xe

theorem eval_all {p : ProgT} {F : Int} {br : Nat} {um ud : Value} : ∀ g,EvOk Tryd.prog p F br um ud g
 | 0=>eval_step 0 (fun g' h=>absurd h OM)
 | g+1=>eval_step (g+1) (fun g' h=>by
  have : g' = g:=by omega
  subst this
  exact fun w0 M Γ e use env sp s hE he hb=>value_of (eval_all g') w0 M Γ e use env sp s hE he _ rfl hb)
end Go.Proofs.YtanbipbiblikbaaDoor

namespace Go.Proofs.YtanbipbiblikbaaDoor
open Xe

theorem rescue_idle (p6 p7 p8 : Addr) (w : World) :
  CallsD Tryd.prog 90 #[.pointer (some p6),.pointer (some p7),.pointer (some p8)] .returning w fun e u' w'=>e = .returned (.tuple #[])∧u' = .returning∧w' = w:=by
 refine callsD_of_wpS Tryd.func90 rfl fun c₀ cs hu=>?_
 apply wpS_seq
 apply wpS_region
 simp [wpOpsS,go_sem,recoverD,hu,Tryd.ntmps90,Exit.thenS]
 apply wpS_seq
 apply wpS_region
 simp [wpOpsS,go_sem,Tryd.ntmps90,Exit.thenS]
 refine wpS_cond (t:=false) (by simp [Act.eval,Array.replicate]) ?_
 simp only [Bool.false_eq_true,if_false]
 refine wpS_of_wp (wp_skip ?_)
 cases c₀
 simp_all [bodyPostS,results,Tryd.results90]

theorem asrt60 (W : World) (v : Value) : (Instr.typeAssert (.iface 60 v) 20 60 true).run Tryd.prog W = .ok (.tuple #[v,.bool true]) W:=by kernel_rfl
theorem Y.assert60 {w0 : World} {L : Lm} {M : Mem} {Γ : List As} {d : Option Nat} {ty : TypeId} {pos : String} {af : Array Edge} {g : Option (Nat×Bool)} {x : Operand} {v : Value} (hx : evL L x = some (.iface 60 v)) :
  Yq Tryd.prog w0 L M Γ ⟨d,.typeAssert x 20 60 true,ty,pos,af,g⟩ (.tuple #[v,.bool true]):=fun n a w ha _=>by
 simp [execOp,ha.ev hx]
 rw [asrt60]
 rfl
theorem Y.someIface {w0 : World} {L : Lm} {M : Mem} {Γ : List As} {d : Option Nat} {ty : TypeId} {pos : String} {af : Array Edge} {g : Option (Nat×Bool)} {x : Operand} {v : Value} (hx : evL L x = some (.iface 60 v)) :
  Yq Tryd.prog w0 L M Γ ⟨d,.binOp .neq 20 x (.const .nilIface) 20,ty,pos,af,g⟩ (.bool true):=fun n a w ha _=>by
 simp only [execOp,ha.ev hx]
 simp [go_sem,Act.eval]
theorem rescue_some (w0 : World) (M : Mem) (Γ : List As) (x : Int) (b6 b7 b8 : Nat) (us : List Value) (y z : Value) (hus : us.length = 3) (w : World) (hw : St w0 M (.own b8 60 [y]::.own b7 3 [z]::.own b6 26 us::Γ) w) :
  CallsD Tryd.prog 90 #[ptrB b6,ptrB b7,ptrB b8] (.panicking (errE x)) w fun e u' w'=>e = .returned (.tuple #[])∧u' = .panicking [{ v:=.iface 60 (vint x),recovered:=true }]∧St w0 M (.own b8 60 [vint x]::.own b7 3 [vint 0]::.own b6 26 [vint 0,vint 0,.slice none 0 0]::Γ) w':=by
 refine callsD_of_wpS Tryd.func90 rfl fun c₀ cs hu=>?_
 apply wpS_seq
 apply wpS_region
 simp [wpOpsS,go_sem,recoverD,hu,Tryd.ntmps90,Exit.thenS,errE]
 refine wpS_of_wp (wp_mono (P:=Tryd.prog) (Q:=Real 19 w0 (fun e L M' Γ'=>e = .normal∧M' = M∧∀ w,St w0 M Γ' w→St w0 M (.own b8 60 [vint x]::.own b7 3 [vint 0]::.own b6 26 [vint 0,vint 0,.slice none 0 0]::Γ) w)) ?_ ?_)
 ·have hsat : Sat 19 [(3,.iface 60 (vint x)),(0,ptrB b6),(1,ptrB b7),(2,ptrB b8)] ({ tmps:=#[ptrB b6,ptrB b7,ptrB b8]++((Array.replicate 16 undef).setIfInBounds 3 (Value.iface 60 (vint x))).setIfInBounds 0 (Value.iface 60 (vint x)),defers:=[] } : Act):=by
   refine ⟨by simp,rfl,fun t v h=>?_⟩
   rcases t with _ | _ | _ | _ | t
   ·simp [getL] at h ⊢;simp_all
   ·simp [getL] at h ⊢;simp_all
   ·simp [getL] at h ⊢;simp_all
   ·simp [getL] at h ⊢;simp_all
   ·exfalso;simp [getL,Nat.beq] at h
  refine (?_ : CW Tryd.prog 19 w0 _ _ [(3,.iface 60 (vint x)),(0,ptrB b6),(1,ptrB b7),(2,ptrB b8)] M _) _ w hsat hw
  refine CW.seq fun K1 hK1=>?_
  refine CW.region ?_
  refine RL.q (Y.move rfl) rfl ?_
  refine RL.q (Y.someIface rfl) rfl ?_
  refine RL.nil ?_
  refine hK1 _ _ _ ?_
  refine CW.yes rfl ?_
  refine CW.seq fun K2 hK2=>?_
  refine CW.region ?_
  refine RL.q (Y.move rfl) rfl ?_
  refine RL.q (Y.assert60 rfl) rfl ?_
  refine RL.q (Y.move rfl) rfl ?_
  refine RL.q (Y.extract rfl rfl) rfl ?_
  refine RL.q (Y.extract rfl rfl) rfl ?_
  refine RL.q (Y.assign rfl) rfl ?_
  refine RL.q (Y.assign rfl) rfl ?_
  refine RL.nil ?_
  refine hK2 _ _ _ ?_
  refine CW.seq fun K3 hK3=>?_
  refine CW.seq fun K4 hK4=>?_
  refine CW.region ?_
  refine RL.q (Y.move rfl) rfl ?_
  refine RL.q (Y.not rfl) rfl ?_
  refine RL.nil ?_
  refine hK4 _ _ _ ?_
  refine CW.no rfl ?_
  refine CW.skip ?_
  refine hK3 _ _ _ ?_
  refine CW.region ?_
  refine RL.q (Y.build [_,_,_] rfl zero26 places26 (by rfl)) rfl ?_
  refine RL.q (Y.move rfl) rfl ?_
  refine RL.storeAgg [vint 0,vint 0,.slice none 0 0] rfl rfl RP (by rw [List.drop_eq_nil_of_le (by simp [hus])];rfl) (by simp [hus]) (by first | (simp [Value.oneCell'];done) | simp [Value.oneCell',IdT.vals]) size26 ?_
  refine RL.store _ rfl rfl RP (by rfl) (by simp) (by rfl) size3 ?_
  refine RL.store _ rfl rfl RP (by rfl) (by simp) (by rfl) size60 ?_
  refine RL.nil ?_
  refine ⟨rfl,rfl,fun w hw=>?_⟩
  exact hw
 ·rintro e a w' ⟨L,M',Γ',⟨rfl,rfl,hG⟩,hs,hw'⟩
  cases c₀
  simp_all [bodyPostS,results,Tryd.results90]
  exact hs.defers
end Go.Proofs.YtanbipbiblikbaaDoor

namespace Xe
open Go
theorem wpOp_addD {P : Program} {ops : Array Oper} {D : List Deferred} {Q Q' : Exit→Act→World→Prop} {i : Nat} {K K' : Act→World→Prop} (hK : ∀ a w,K a w→K' (addD D a) w) (hQ : ∀ e a w,Q e a w→Q' e (addD D a) w) {a : Act} {w : World} (h : wpOp P ops Q i K a w) : wpOp P ops Q' i K' (addD D a) w:=by
 have hl : LetsOut Q→LetsOut Q':=fun ⟨a,w,h⟩=>⟨_,w,hQ _ _ _ h⟩
 unfold wpOp at h ⊢
 cases ho : ops[i]? with
 | none=>simp only [ho] at h;exact hK _ _ h
 | some o =>
  simp only [ho] at h ⊢
  have ht : (addD D a).tmps = a.tmps:=rfl
  rw [ht]
  split
  ·rename_i hw
   rw [if_pos hw] at h
   refine h.imp (fun h=>?_) (fun h=>⟨?_,hl h.2⟩)
   ·unfold Oper.wp at h ⊢
    rw [addD_eval]
    exact addD_upon hK hQ h
   ·have:=h.1
    unfold Oper.asks at this ⊢
    rw [addD_eval]
    exact this
  ·rename_i hw
   rw [if_neg hw] at h
   rw [addD_put]
   exact hK _ _ h
theorem wpAny_addD {P : Program} {md : Region.Mode} {ops : Array Oper} {D : List Deferred} {Q Q' : Exit→Act→World→Prop} (hQ : ∀ e a w,Q e a w→Q' e (addD D a) w) : ∀ (fuel : Nat) (listed : Array Bool) (a : Act) (w : World),wpAny P md ops Q fuel listed a w→wpAny P md ops Q' fuel listed (addD D a) w
 | 0,_,_,_,h=>⟨h.1,hQ _ _ _ h.2⟩
 | fuel+1,_,_,_,h=>⟨fun hr=>hQ _ _ _ (h.1 hr),fun i hi=>wpOp_addD (fun _ _ h=>wpAny_addD hQ fuel _ _ _ h) hQ (h.2 i hi)⟩
theorem CWD.regionH {P : Program} {n : Nat} {w0 : World} {X : DPst} {D : List Deferred} {L : Lm} {M : Mem} {Γ : List As} {id : Nat} {l : List Oper} (hm : P.follows .mixedOrders = true) (Mc : Mem) (Γc : List As) (hc : ∀ w,St w0 M Γ w→St w0 Mc Γc w)
  (h : HL P n w0 l.toArray Mc Γc l.length (Array.replicate l.length false) L M Γ (X D .normal)) : CWD P n w0 (.region id l.toArray true) X D L M Γ:=by
 intro a w ha hw
 have hw':=hw.draw (w.drawn+1)
 have h1:=h ⟨_,hc _ hw'⟩ (fun a w=>Real n w0 (X D) .normal a w) (fun L M Γ hX a w ha hw=>⟨L,M,Γ,hX,ha,hw⟩) a _ ha hw' (hc _ hw')
 refine wp_region_any hm (wpAny_addD (Q:=Norm (fun a w=>Real n w0 (X D) .normal a w)) (fun e a w he=>?_) _ _ _ _ (wpAny_of_held _ _ _ _ (by simpa using h1)))
 cases e <;> first | exact ⟨D,a,rfl,he⟩ | exact he.elim
theorem CWD.kp {P : Program} {n : Nat} {w0 : World} {c : Code} {X : DPst} {D : List Deferred} {L L' : Lm} {M : Mem} {Γ : List As} (ks : List Nat) (hs : selL L ks = some L') (h : CWD P n w0 c X D L' M Γ) : CWD P n w0 c X D L M Γ:=CWD.keep (Keep.sel hs) h
theorem HL.takeS {P : Program} {n : Nat} {w0 : World} {ops : Array Oper} {Mc : Mem} {Γc : List As} {fuel : Nat} {listed : Array Bool} {L : Lm} {M : Mem} {Γ : List As} {K : Lm→Mem→List As→Prop} (i : Nat) {op : Op} {ty : TypeId} {pos : String} {after : Array Edge} {g : Option (Nat×Bool)} {d : Nat} {p : Prop} [Decidable p] (hi : ops[i]? = some ⟨some d,op,ty,pos,after,g⟩) (hs : Region.noSelect ops = true) (hf : Region.free .any ops listed i = true)
  (hr : (Region.ready .any ops listed).contains i = true) (hg : Want ops L ⟨some d,op,ty,pos,after,g⟩ true) (hy : Yq P w0 L Mc Γc ⟨some d,op,ty,pos,after,g⟩ (.bool (decide p))) (hd : Nat.blt d n = true)
  (h1 : p→HL P n w0 ops Mc Γc fuel (listed.setIfInBounds i true) ((d,.bool true)::L) M Γ K) (h2 : ¬ p→HL P n w0 ops Mc Γc fuel (listed.setIfInBounds i true) ((d,.bool false)::L) M Γ K) : HL P n w0 ops Mc Γc (fuel+1) listed L M Γ K:=by
 by_cases hp : p
 ·rw [decide_eq_true hp] at hy
  exact HL.take i hi hs hf hr hg hy hd (h1 hp)
 ·rw [decide_eq_false hp] at hy
  exact HL.take i hi hs hf hr hg hy hd (h2 hp)
end Xe

namespace Go.Proofs.YtanbipbiblikbaaDoor
open Xe

def dDef (b6 b7 b8 : Nat) : Deferred:={ target:=.fn (.func 90) #[ptrB b6,ptrB b7,ptrB b8],args:=#[] }
def doR : EO→Val×Int×Int
 | .ok x s=>(x,s,0)
 | .err k=>(v0,0,k)
 | .bad=>(v0,0,0)
def doX (w0 : World) (M : Mem) (Γ : List As) (r : EO) : DPst:=fun D e L M' Γ'=>match e with
 | .ret=>∃ b6 b7 b8 x s us,D = [dDef b6 b7 b8]∧getL L 6 = some (ptrB b6)∧getL L 7 = some (ptrB b7)∧getL L 8 = some (ptrB b8)∧r = .ok x s∧Sub M M'∧us.length = 3∧RdL M' x.enc us∧∀ w,St w0 M' Γ' w→St w0 M' (.own b8 60 [vint 0]::.own b7 3 [vint s]::.own b6 26 us::Γ) w
 | .panic ch=>∃ b6 b7 b8 k us y z,D = [dDef b6 b7 b8]∧getL L 6 = some (ptrB b6)∧getL L 7 = some (ptrB b7)∧getL L 8 = some (ptrB b8)∧r = .err k∧ch = errE k∧Sub M M'∧us.length = 3∧∀ w,St w0 M' Γ' w→St w0 M' (.own b8 60 [y]::.own b7 3 [z]::.own b6 26 us::Γ) w
 | _=>False
theorem results_do {w0 w : World} {M : Mem} {Γ : List As} {b6 b7 b8 : Nat} {us : List Value} {s e : Int} {tmps : Array Value} (hw : St w0 M (.own b8 60 [vint e]::.own b7 3 [vint s]::.own b6 26 us::Γ) w) (hl : us.length = 3)
  (t6 : tmps[6]? = some (ptrB b6)) (t7 : tmps[7]? = some (ptrB b7)) (t8 : tmps[8]? = some (ptrB b8)) :
  (results Tryd.f61 tmps).run Tryd.prog w = .ok (.tuple #[.agg us.toArray,vint s,vint e]) w:=by
 have l6:=run_loadOwn (P:=Tryd.prog) (t:=26) hw (b:=b6) (e:=26) (cs:=us) MM (by rw [hl];exact agg26)
 have c7 : w.cell? (adr (some ⟨b7,0,none⟩) 0) = some (vint s):=hw.own_cell (b:=b7) (e:=3) (cs:=[vint s]) MM rfl
 have c8 : w.cell? (adr (some ⟨b8,0,none⟩) 0) = some (vint e):=hw.own_cell (b:=b8) (e:=60) (cs:=[vint e]) MM rfl
 have l7 : (loadVar 3 (adr (some ⟨b7,0,none⟩) 0)).run Tryd.prog w = .ok (vint s) w:=by simp [loadVar,run_flat flat3,c7]
 have l8 : (loadVar 60 (adr (some ⟨b8,0,none⟩) 0)).run Tryd.prog w = .ok (vint e) w:=by simp [loadVar,run_flat flat60,c8]
 simp [results,Tryd.results61,t6,t7,t8,asAddr,l6,l7,l8]

set_option maxRecDepth 4000 in
set_option maxHeartbeats 1000000 in
theorem do_ok (w0 : World) (M : Mem) (Γ : List As) (um ud : Value) (fuel : Int) (ff : FuncId) (cap : Array Value) (hff : funcB Tryd.prog ff = true) (r : EO)
  (hc : ∀ br Γ',(∀ w,St w0 M Γ' w→St w0 M Γ w)→CallP Tryd.prog w0 M (RunA br um ud (max fuel 0) 0::Γ') ff (#[]++#[ptrB br]++cap) (EvPost M Γ' br um ud (max fuel 0) r) (EvPanic M Γ' br um ud (max fuel 0) r))
  (hsz : ∀ x s,r = .ok x s→x.size≤100000) :
  CallOk Tryd.prog w0 M Γ 61 #[.agg #[um,ud],vint fuel,.func (.func ff) #[] cap] (Gives M Γ fun M' v=>∃ us,v = .tuple #[.agg us.toArray,vint (doR r).2.1,vint (doR r).2.2]∧RdL M' (doR r).1.enc us):=by
 refine enterD (f:=61) (args:=[.agg #[um,ud],vint fuel,.func (.func ff) #[] cap]) (X:=doX w0 M Γ r) Tryd.func61 rfl Tryd.ntmps61 rfl ?_ ?_ ?_ ?_
 rotate_left
 ·rintro D L M1 Γ1 tmps w hget hw (h | h)
  ·exact h.elim
  ·obtain ⟨b6,b7,b8,x,s,us,rfl,g6,g7,g8,rfl,hsub,hl,hr,hG⟩:=h
   refine leaves_cons (f:=90) (args:=#[ptrB b6,ptrB b7,ptrB b8]) (by simp) (by simp [invoke]) ((rescue_idle _ _ _ w).mono ?_)
   rintro e u1 w1 ⟨rfl,rfl,rfl⟩
   exact ⟨_,results_do (hG _ hw) hl (hget _ _ g6) (hget _ _ g7) (hget _ _ g8),_,_,_,rfl,⟨hsub,rfl,us,rfl,hr⟩,(hG _ hw).sub SB⟩
 ·rintro D L M1 Γ1 tmps w ch hget hw h
  obtain ⟨b6,b7,b8,k,us,y,z,rfl,g6,g7,g8,rfl,rfl,hsub,hl,hG⟩:=h
  refine leaves_cons (f:=90) (args:=#[ptrB b6,ptrB b7,ptrB b8]) (by simp) (by simp [invoke]) ((rescue_some w0 M1 Γ k b6 b7 b8 us y z hl w (hG _ hw)).mono ?_)
  rintro e u1 w1 ⟨rfl,rfl,hw1⟩
  exact ⟨_,results_do hw1 rfl (hget _ _ g6) (hget _ _ g7) (hget _ _ g8),_,_,_,rfl,⟨hsub,rfl,_,rfl,leaf_rd 0 0⟩,hw1.sub SB⟩
 ·intro D e L M1 Γ1 h
  cases e <;> first | exact h.elim | exact .inl rfl | exact .inr (.inl rfl) | exact .inr (.inr ⟨_,rfl⟩)
 refine CWD.seq fun K1 hK1=>?_
 refine CWD.region (RD.of (RX.of ?_))
 refine RL.box [um,ud] rfl rfl rfl fun b3=>?_
 refine RL.alloc _ zero26 rfl rfl fun b6=>?_
 refine RL.alloc _ zero3 rfl rfl fun b7=>?_
 refine RL.alloc _ zero60 rfl rfl fun b8=>?_
 refine RL.nil ?_
 refine hK1 _ _ _ _ ?_
 refine CWD.kp [1,2,3,6,7,8] rfl ?_
 refine CWD.seq fun K2 hK2=>?_
 refine CWD.region (RD.of (RX.of ?_))
 first | refine RL.q (Y.loadAllR rfl MM MM EL agg32) rfl ?_ | refine RL.q (Y.loadAll rfl MM (by rfl) agg32) rfl ?_ | refine RL.loadPart rfl rfl MM MM (by rfl) (by rfl) agg32 rfl fun us10 hul10 hur10=>?_
 refine RL.q (Y.move rfl) rfl ?_
 refine RL.q (Y.max2 rfl rfl) rfl ?_
 refine RL.q (Y.build [um,ud,vint (max fuel 0),vint 0] rfl zero131 places131 (by rfl)) rfl ?_
 refine RL.box [um,ud,vint (max fuel 0),vint 0] rfl rfl rfl fun b14=>?_
 refine RL.q (Y.assign rfl) rfl ?_
 refine RL.nil ?_
 refine hK2 _ _ _ _ ?_
 refine CWD.kp [2,6,7,8,9] rfl ?_
 refine CWD.seq fun K3 hK3=>?_
 refine CWD.region ?_
 refine RD.step ?_
 refine RL.q (Y.makeFunc rfl rfl) rfl ?_
 refine RL.nil ?_
 refine RD.defer0 (d:=dDef b6 b7 b8) rfl rfl (fun n a w ha hw=>?_) ?_
 ·simp [execOp,ha.ev (x:=.tmp 15) (v:=.func (.func 90) #[] #[ptrB b6,ptrB b7,ptrB b8]) rfl,dDef,resolve,Deferred.ofValue]
 refine RD.done ?_
 refine hK3 _ _ _ _ ?_
 refine CWD.kp [2,6,7,8,9] rfl ?_
 refine CWD.seq fun K4 hK4=>?_
 refine CWD.region (RD.of ?_)
 refine RX.step ?_
 refine RL.q (Y.move rfl) rfl ?_
 refine RL.nil ?_
 refine RX.step ?_
 refine RL.q (Y.move rfl) rfl ?_
 refine RL.nil ?_
 refine RX.callf rfl hff rfl rfl rfl (by exact hc _ _ fun _ hw=>hw.sub SB) ?_ (by rintro ch Mp _ ⟨k,sp2,rfl,rfl,hsp,rfl⟩;exact ⟨b6,b7,b8,k,_,_,_,rfl,rfl,rfl,rfl,rfl,rfl,hsp,rfl,fun _ hw=>hw.sub SB⟩)
 rintro v18 M18 _ ⟨x18,s18,rfl,h018,h1F18,hs18,⟨us18,rfl,hr18⟩,rfl⟩
 have hz18:=hsz _ _ rfl
 have hkz:=kids_le_size x18
 obtain ⟨uk,rfl,hkids⟩:=Val.open hr18
 obtain ⟨ak,ck,rfl,hck,hlk,_⟩:=hkids.slice
 refine RX.of ?_
 refine RL.addRd hkids ?_
 refine RL.storeAgg [vint x18.kind,vint x18.n,.slice ak x18.kids.length ck] rfl rfl RP (by rfl) (by simp) (fun _ _=>hr18.one) size26 ?_
 refine RL.nil ?_
 refine hK4 _ _ _ _ ?_
 refine CWD.kp [6,7,8,9] rfl ?_
 refine CWD.seq fun K5 hK5=>?_
 refine CWD.region (RD.of (RX.of ?_))
 refine RL.q (Y.field rfl field26_2) rfl ?_
 first | refine RL.q (Y.loadOwnV rfl MM MM (by rfl) flat24) rfl ?_ | refine RL.q (Y.loadOwn rfl MM (by rfl) flat24) rfl ?_ | refine RL.loadOwnSl rfl rfl MM MM (by rfl) flat24 rfl fun a20 c20 hu20 hc20 hl20=>?_
 refine RL.call rfl func33 rfl rfl (by exact copies_ok x18.size _ _ _ x18.kids _ (fun v hv=>Val.size_kid hv) OM OM (Kn.rd MM)) ?_
 rintro v21 M21 _ ⟨hs21,rfl,hr21⟩
 obtain ⟨a21,c21,rfl,hc21,hl21,hln21⟩:=hr21.slice
 refine RL.addRd hr21 ?_
 refine RL.q (Y.field rfl field26_2) rfl ?_
 refine RL.store _ rfl rfl RP (by rfl) (by simp) (by rfl) size24 ?_
 refine RL.nil ?_
 refine hK5 _ _ _ _ ?_
 refine CWD.kp [6,7,8,9] rfl ?_
 refine CWD.seq fun K6 hK6=>?_
 have hnd:=node_rd x18.kind x18.n x18.kids hr21
 rw [v_eta] at hnd
 refine CWD.regionH mix _ (RunA b14 um ud (max fuel 0) s18::Γ) (fun _ hw=>hw.sub SB) ?_
 refine HL.take 1 rfl KR KR KR rfl (Y.move rfl) rfl ?_
 refine HL.take 2 rfl KR KR KR rfl (Y.nilCheck rfl) rfl ?_
 refine HL.take 3 rfl KR KR KR rfl (Y.field rfl field131_2) rfl ?_
 first | refine HL.take 4 rfl KR KR KR rfl (Y.loadOwnV rfl MM MM (by rfl) flat3) rfl ?_ | refine HL.take 4 rfl KR KR KR rfl (Y.loadOwn rfl MM (by rfl) flat3) rfl ?_ | refine HL.loadOwnSl 4 rfl KR KR KR rfl rfl MM MM (by rfl) flat3 rfl fun a27 c27 hu27 hc27 hl27=>?_
 refine HL.step 0 rfl KR ?_
 first | refine RL.q (Y.loadAllR rfl MM MM EL agg26) rfl ?_ | refine RL.q (Y.loadAll rfl MM (by rfl) agg26) rfl ?_ | refine RL.loadPart rfl rfl MM MM (by rfl) (by rfl) agg26 rfl fun us23 hul23 hur23=>?_
 refine RL.nil ⟨keep_same SB,?_⟩
 refine HL.step 5 rfl KR ?_
 refine RL.storeAgg [vint x18.kind,vint x18.n,.slice a21 x18.kids.length c21] rfl rfl RP (by rfl) (by first | (simp;done) | simp [IdT.vals]) (by first | (simp [Value.oneCell'];done) | simp [Value.oneCell',IdT.vals]) size26 ?_
 refine RL.nil ⟨keep_same SB,?_⟩
 refine HL.step 6 rfl KR ?_
 refine RL.store _ rfl rfl RP (by rfl) (by simp) (by rfl) size3 ?_
 refine RL.nil ⟨keep_same SB,?_⟩
 refine HL.step 7 rfl KR ?_
 refine RL.store _ rfl rfl RP (by rfl) (by simp) (by rfl) size60 ?_
 refine RL.nil ⟨keep_same SB,?_⟩
 refine HL.done KR ?_
 refine hK6 _ _ _ _ ?_
 refine CWD.kp [6,7,8] rfl ?_
 refine CWD.ret ?_
 exact ⟨b6,b7,b8,x18,s18,_,rfl,rfl,rfl,rfl,rfl,hs18.trans hs21,rfl,hnd,fun _ hw=>hw.sub SB⟩
end Go.Proofs.YtanbipbiblikbaaDoor

namespace Xe
open Go
def exN (i : IdT) (k n : Int) (r : IdT) (l : List Ex) : Ex:=.mk i k n r ty0 l []
abbrev exV (i : IdT) (k n : Int) (r : IdT) (u : Value) : List Value:=[vint i.shop,vint i.seq,vint i.index,vint k,vint n,vint r.shop,vint r.seq,vint r.index,vint 0,vint 0,vint 0,vint 0,.slice none 0 0,u,.slice none 0 0]
theorem ex_rd {M : Mem} (i : IdT) (k n : Int) (r : IdT) (l : List Ex) {u : Value} (h : Rd M (.sl l.length 15 (l.flatMap Ex.enc)) u) : RdL M (exN i k n r l).enc (exV i k n r u):=by
 rw [Ex.enc_eq]
 show RdL M [dint i.shop,dint i.seq,dint i.index,dint k,dint n,dint r.shop,dint r.seq,dint r.index,dint 0,dint 0,dint 0,dint 0,.sl 0 5 [],.sl l.length 15 (l.flatMap Ex.enc),.sl 0 1 []] _
 repeat (first | exact RdL.nil _ | refine RdL.cons (by first | exact Rd.i _ | exact Rd.nilS | assumption) ?_)
theorem kidsE2 {M : Mem} {v w : Ex} {us xs : List Value} (h : RdL M v.enc us) (k : RdL M w.enc xs) : RdL M ([v,w].flatMap Ex.enc) (us++xs):=by simpa using h.append k
theorem kidsE3 {M : Mem} {v w x : Ex} {us xs ys : List Value} (h : RdL M v.enc us) (k : RdL M w.enc xs) (q : RdL M x.enc ys) : RdL M ([v,w,x].flatMap Ex.enc) (us++xs++ys):=by simpa using (h.append k).append q
def prog0 : ProgT:=⟨[],[]⟩
theorem prog0_rd {M : Mem} : RdL M prog0.enc [.slice none 0 0,.slice none 0 0]:=RdL.cons Rd.nilS (RdL.cons Rd.nilS (RdL.nil _))
def id5 : IdT:=⟨0,1,5⟩
abbrev eNum (n : Int) : Ex:=exN id0 0 n id0 []
def eAdd : Ex:=exN id0 4 0 id0 [eNum 2,eNum 3]
def eStep : Ex:=exN id0 4 0 id0 [exN id0 2 1 id5 [],exN id0 2 0 id5 []]
def eList : Ex:=exN id0 11 0 id0 [eNum 1,eNum 2]
def eFold : Ex:=exN id5 12 0 id0 [eList,eNum 10,eStep]
theorem lv1 : evalF prog0 (max 3 0) 3 eAdd [] 0 = .ok (vnum 5) 3:=by kernel_rfl
theorem lv2 : evalF prog0 (max 2 0) 3 eAdd [] 0 = .err 18:=by kernel_rfl
theorem lv3 : evalF prog0 (max 50 0) 4 eFold [] 0 = .ok (vnum 13) 11:=by kernel_rfl
theorem lv4 : opV 3 [vnum (-7),vnum 2] = some (vnum (-4)):=by kernel_rfl
theorem lv5 : opV 4 [vnum (-7),vnum 2] = some (vnum 1):=by kernel_rfl
theorem lv6 : opV 2 [vnum 1099511627776,vnum 2] = some (vnum 1099511627776):=by kernel_rfl
theorem lv7 (i : IdT) : ¬ hasDef prog0 i:=by
 intro h
 simp [hasDef,prog0] at h
end Xe
