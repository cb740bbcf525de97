/- Va, Ea, Ec, Gn14, Gn28, Gn29, Gn30, Ed, Ee, Ef, Eg, Eh, Ei, Ej, Ek, El, Em, En, Eo, EI, Gn15, Gn31, Gn21, Gn26, Gn27, Gn32, XeLd, Arg, Laid, put together. -/
import Derived.Test.YtanbipbiblikbaaDoorPs5
import Derived.Deep.DeepHandedRow
import Derived.LaidMore
import Derived.Test.YtanbipbiblikbaaDoorCards
import Derived.Test.YtanbipbiblikbaaDoorTie
import Derived.Stop.Joined
namespace Go.Proofs.YtanbipbiblikbaaDoor
open Xe

theorem E9 {w0 : World} {L : Lm} {M : Mem} {Γ : List As} {d : Option Nat} {ty : TypeId} {pos : String} {af : Array Edge} {g : Option (Nat×Bool)} {x y : Operand} {a b c a' b' c' : Int} (hx : evL L x = some (.agg [av a,av b,av c].toArray)) (hy : evL L y = some (.agg [av a',av b',av c'].toArray)) :
   Yq Tryd.prog w0 L M Γ ⟨d,.binOp .eql 35 x y 35,ty,pos,af,g⟩ (.bool (decide ((⟨a,b,c⟩ : IdT) = ⟨a',b',c'⟩))):=fun n ac w ha _=>by
 simp only [execOp,ha.ev hx,ha.ev hy]
 simp [go_sem,run_eql_struct,run_eqGuard_agg]
 by_cases h1 : a = a' <;> by_cases h2 : b = b' <;> by_cases h3 : c = c' <;> simp [h1,h2,h3]

theorem def1_ok (w0 : World) (M : Mem) (Γ : List As) (d : DefT) (id : IdT) (us : List Value) (p : Addr) (hd : RdL M d.enc us) (hb : gL w0 M Γ p id.vals) :
   aA Tryd.prog w0 M Γ 89 #[.agg us.toArray,.pointer (some p)] (Is M Γ (.bool (decide (d.id = id)))):=by
 rw [DefT.ay] at hd
 refine enter (f:=89) Tryd.func89 rfl Tryd.ntmps89 rfl rfl fun w1 hw1=>?_
 refine CW.aW hd ?_
 refine CW.seq fun K1 hK1=>?_
 refine CW.region ?_
 refine RL.box _ rfl rfl rfl fun b2=>?_
 refine RL.q (Y.assign rfl) rfl ?_
 refine RL.nil ?_
 refine hK1 _ _ _ ?_
 refine CW.kp [1,2] rfl ?_
 refine CW.seq fun K2 hK2=>?_
 refine CW.region ?_
 refine RL.q (Y.field rfl C4) rfl ?_
 refine RL.q (Y.gD [_,_,_] rfl MM MM (by rfl) kE) rfl ?_
 refine RL.q (Y.loadK (vs:=id.vals) rfl (hb.mono fun _ hw=>hw.sub SB) kE) rfl ?_
 refine RL.q (E9 rfl rfl) rfl ?_
 refine RL.q (Y.assign rfl) rfl ?_
 refine RL.nil ?_
 refine hK2 _ _ _ ?_
 refine CW.kp [3] rfl ?_
 refine CW.ret ?_
 exact ⟨_,rfl,az.drop ⟨by rfl,rfl,rfl⟩ SB⟩

theorem CQ (w0 : World) (M : Mem) (Γ : List As) (xs : List DefT) (u : Value) (fn : FuncId) (cap : Array Value) (q : DefT->Bool) (hfn : bC Tryd.prog fn = true) (hu : Kn w0 M Γ (Rd M (.sl xs.length 31 (xs.flatMap DefT.enc)) u))
   (hq : ∀ x∈xs,∀ us Γ',(∀ w,St w0 M Γ' w->St w0 M Γ w)->RdL M x.enc us->aA Tryd.prog w0 M Γ' fn (#[]++#[.agg us.toArray]++cap) (Is M Γ' (.bool (decide (q x = true))))) :
   aA Tryd.prog w0 M Γ 88 #[u,.func (.func fn) #[] cap] (Is M Γ (av (qF q xs))):=by
 refine aA.kn hu fun hu=>?_
 obtain ⟨a1,c1,rfl,hc1,hlim1,hlen1⟩:=hu.slice
 refine enter (f:=88) Tryd.func88 rfl Tryd.ntmps88 rfl rfl fun w1 hw1=>?_
 refine CW.fV hu ?_
 refine CW.seq fun K1 hK1=>?_
 refine CW.region ?_
 refine RL.q (Y.assign rfl) rfl ?_
 refine RL.nil ?_
 refine hK1 _ _ _ ?_
 refine CW.kp [0,1] rfl ?_
 refine CW.seq fun K2 hK2=>?_
 refine CW.seq fun K3 hK3=>?_
 refine CW.region ?_
 refine RL.q (Y.move rfl) rfl ?_
 refine RL.q (Y.len rfl Tryd.underlying30) rfl ?_
 refine RL.q (Y.move rfl) rfl ?_
 refine RL.nil ?_
 refine hK3 _ _ _ ?_
 refine CW.kp [0,1,7,8] rfl ?_
 refine CW.block ?_
 -- LOOP 1: live [0,1,7,8] changed [8]
 refine CW.kp [8,0,1,7] rfl ?_
 refine CW.ou (fun m Lc M1 Γc=>∃ k : Nat,m = xs.length - k/\k<=xs.length/\Lc = [(8,av k)]/\Γc = []/\M1 = M/\∀ j (hj : j < xs.length),j < k->q xs[j] ≠ true) (xs.length) [(8,_)] _ rfl rfl ⟨0,rfl,Nat.zero_le _,rfl,rfl,rfl,fun _ _ h=>absurd h (Nat.not_lt_zero _)⟩ ?_
 rintro m Lc M Γc hs ⟨k,rfl,hk,rfl,rfl,rfl,hF0⟩
 refine CW.seq fun K4 hK4=>?_
 refine CW.region ?_
 refine RL.q (Y.lss rfl rfl) rfl ?_
 refine RL.nil ?_
 refine hK4 _ _ _ ?_
 refine CW.kp [0,1,7,8,9] rfl ?_
 refine CW.seq fun K5 hK5=>?_
 refine CW.ite rfl (fun h1=>?_) (fun h1=>?_)
 ·have hka : k < xs.length:=by omega
  refine CW.skip ?_
  refine hK5 _ _ _ ?_
  refine CW.seq fun K6 hK6=>?_
  refine CW.block ?_
  refine CW.seq fun K7 hK7=>?_
  refine CW.region ?_
  refine RL.q (Y.move rfl) rfl ?_
  refine RL.q (Y.assign rfl) rfl ?_
  refine RL.nil ?_
  refine hK7 _ _ _ ?_
  refine CW.kp [0,1,5,7,8] rfl ?_
  refine CW.seq fun K8 hK8=>?_
  refine CW.region ?_
  refine RL.q (Y.move rfl) rfl ?_
  refine RL.q (Y.move rfl) rfl ?_
  refine RL.q (Y.move rfl) rfl ?_
  refine RL.q (Y.index _ rfl rfl rfl AO A1 SM) rfl ?_
  refine RL.aM rfl rfl MM (Eq.trans (aS DefT.aq _ _ _ (List.getElem?_eq_getElem AO)) (DefT.ay _)) (by rfl) lP rfl fun us15 hul15 hur15=>?_
  refine RL.FN rfl hfn rfl rfl rfl (hq _ (List.getElem_mem hka) _ _ (fun _ hw=>hw.sub SB) (by rw [DefT.ay];exact hur15)) ?_
  refine RL.nil ?_
  refine hK8 _ _ _ ?_
  refine CW.kp [0,1,5,7,8,16] rfl ?_
  refine CW.ite rfl (fun h2=>?_) (fun h2=>?_)
  ·refine CW.seq fun K9 hK9=>?_
   refine CW.region ?_
   refine RL.q (Y.move rfl) rfl ?_
   refine RL.q (Y.assign rfl) rfl ?_
   refine RL.nil ?_
   refine hK9 _ _ _ ?_
   refine CW.kp [4] rfl ?_
   refine CW.ret ?_
   exact ⟨_,rfl,az.drop ⟨by rw [yp hka hF0 h2],rfl,rfl⟩ SB⟩
  refine CW.skip ?_
  refine hK6 _ _ _ ?_
  refine CW.region ?_
  refine RL.q (Y.add rfl rfl OM) rfl ?_
  refine RL.q (Y.move rfl) rfl ?_
  refine RL.nil ?_
  refine ⟨xs.length - (k+1),[(8,_)],?_,(KP [8,0,1,7]),?_⟩
  · omega
  · exact az.drop ⟨[],rfl,hs,k+1,rfl,by omega,rfl,rfl,rfl,F9 (p:=fun x=>q x ≠ true) hF0 hka h2⟩ SB
 refine CW.exit ?_
 refine hK2 _ _ _ ?_
 refine CW.seq fun K10 hK10=>?_
 refine CW.region ?_
 refine RL.q (Y.assign rfl) rfl ?_
 refine RL.nil ?_
 refine hK10 _ _ _ ?_
 refine CW.kp [4] rfl ?_
 refine CW.ret ?_
 exact ⟨_,rfl,az.drop ⟨by rw [uQ fun j hj=>hF0 j hj OM],rfl,rfl⟩ SB⟩

theorem Av (w0 : World) (M : Mem) (Γ : List As) (p : ProgT) (usp : List Value) (id : IdT)  (hp : Kn w0 M Γ (RdL M p.enc usp))  :
   aA Tryd.prog w0 M Γ 57 #[.agg usp.toArray,.agg id.vals.toArray] (Has M Γ fun v=>∃ us,v = .tuple #[.agg us.toArray,.bool (decide (cT p id))]/\RdL M (aj p id).enc us):=by
 refine aA.kn hp fun hp=>?_
 rw [ProgT.ay] at hp
 refine sV (f:=57) Tryd.func57 rfl Tryd.ntmps57 rfl rfl fun w1 hw1=>?_
 refine CW.aW hp ?_
 refine CW.seq fun K1 hK1=>?_
 refine CW.region ?_
 refine RL.box _ rfl rfl rfl fun b2=>?_
 refine RL.box _ rfl rfl rfl fun b3=>?_
 refine RL.alloc _ mV rfl rfl fun b4=>?_
 refine RL.q (Y.assign rfl) rfl ?_
 refine RL.nil ?_
 refine hK1 _ _ _ ?_
 refine CW.kp [2,3,4] rfl ?_
 refine CW.seq fun K2 hK2=>?_
 refine CW.region ?_
 refine RL.q (Y.field rfl ve) rfl ?_
 refine RL.aN rfl rfl MM MM (by rfl) Fl rfl fun a8 c8 hu8 hc8 hl8=>?_
 refine RL.q (Y.makeFunc rfl rfl) rfl ?_
 refine RL.er rfl func88 rfl rfl (by exact CQ _ _ _ p.defs _ 89 _ (fun d=>decide (d.id = id)) func89 KK (fun x hx us Γ2 hG hus=>by simpa using def1_ok _ _ _ x id us _ hus (gL.mono (gL.own MM) hG))) ?_
 refine RL.q (Y.assign rfl) rfl ?_
 refine RL.nil ?_
 refine hK2 _ _ _ ?_
 refine CW.kp [2,4,6] rfl ?_
 refine CW.seq fun K3 hK3=>?_
 refine CW.seq fun K4 hK4=>?_
 refine CW.region ?_
 refine RL.q (Y.move rfl) rfl ?_
 refine RL.q (Y.lss rfl rfl) rfl ?_
 refine RL.nil ?_
 refine hK4 _ _ _ ?_
 refine CW.kp [2,4,6,12] rfl ?_
 refine CW.ite rfl (fun h1=>?_) (fun h1=>?_)
 ·refine CW.seq fun K5 hK5=>?_
  refine CW.region ?_
  refine RL.q (Y.build [_,_,_,_,_,_,_,_,_,_,_,_,_,_,_,_,_,_,_,_,_,_,_,_,_,_,_,_,_,_,_] rfl mV DV (by rfl)) rfl ?_
  refine RL.aG _ rfl rfl RP (by rfl) (by first | (simp;done) | simp [IdT.vals]) (by first | (simp [Value.oneCell'];done) | simp [Value.oneCell',IdT.vals]) jR ?_
  refine RL.q (Y.assign rfl) rfl ?_
  refine RL.nil ?_
  refine hK5 _ _ _ ?_
  refine CW.kp [4,5] rfl ?_
  refine CW.ret ?_
  obtain ⟨e1,e2⟩:=iU (p:=p) (id:=id) (fun j hj=>by simpa using E7 h1 j hj)
  refine ⟨_,rfl,?_⟩
  exact aC.mk rfl MM (by first | rfl | assumption) lP (az.drop ⟨rfl,rfl,_,by rw [decide_eq_false e1],by rw [e2];exact (by repeat (first | exact RdL.nil _ | refine RdL.cons (by first | exact Rd.i _ | exact Rd.wu | exact Rd.str _ | assumption) ?_))⟩ SB)
 refine CW.skip ?_
 refine hK3 _ _ _ ?_
 refine CW.seq fun K6 hK6=>?_
 obtain ⟨k,hka,hi,hq1,hq2⟩:=idxL_nn h1
 rw [hi]
 obtain ⟨e1,e2⟩:=gd hka (fun j hj hlt=>by simpa using hq2 j hj hlt) (by simpa using hq1)
 refine CW.region ?_
 refine RL.q (Y.field rfl ve) rfl ?_
 refine RL.aN rfl rfl MM MM (by rfl) Fl rfl fun a15 c15 hu15 hc15 hl15=>?_
 refine RL.q (Y.move rfl) rfl ?_
 refine RL.q (Y.index _ rfl rfl rfl AO A1 SM) rfl ?_
 refine RL.aM rfl rfl MM (Eq.trans (aS DefT.aq _ _ _ (List.getElem?_eq_getElem AO)) (DefT.ay _)) (by rfl) lP rfl fun us18 hul18 hur18=>?_
 refine RL.aD 31 rfl rfl RP MM EL (by first | exact Kn.bk MM EL | exact Kn.bl rfl) jR ?_
 refine RL.q (Y.assign rfl) rfl ?_
 refine RL.nil ?_
 refine hK6 _ _ _ ?_
 refine CW.kp [4,5] rfl ?_
 refine CW.ret ?_
 refine ⟨_,rfl,?_⟩
 exact aC.mk rfl MM (by first | rfl | assumption) lP (az.drop ⟨rfl,rfl,_,by rw [decide_eq_true e1],by rw [e2];exact hur18⟩ SB)

theorem etruthP (w0 : World) (M : Mem) (Γ : List As) (p : Prop) [Decidable p] :
   aA Tryd.prog w0 M Γ 31 #[.bool (decide p)] (Is M Γ (.agg [av 1,av (if p then 1 else 0),.slice none 0 0].toArray)):=by
 refine mq (f:=31) Tryd.func31 rfl Tryd.ntmps31 rfl rfl fun w1 hw1=>?_
 refine CW.seq fun K1 hK1=>?_
 refine CW.region ?_
 refine RL.alloc _ aZ rfl rfl fun b2=>?_
 refine RL.nil ?_
 refine hK1 _ _ _ ?_
 refine CW.kp [0,2] rfl ?_
 refine CW.seq fun K2 hK2=>?_
 refine CW.seq fun K3 hK3=>?_
 refine CW.region ?_
 refine RL.q (Y.move rfl) rfl ?_
 refine RL.nil ?_
 refine hK3 _ _ _ ?_
 refine CW.kp [2,3] rfl ?_
 refine CW.ite rfl (fun h1=>?_) (fun h1=>?_)
 ·refine CW.seq fun K4 hK4=>?_
  refine CW.region ?_
  refine RL.q (Y.build [_,_,_] rfl aZ cu (by rfl)) rfl ?_
  refine RL.aG _ rfl rfl RP (by rfl) (by first | (simp;done) | simp [IdT.vals]) (by first | (simp [Value.oneCell'];done) | simp [Value.oneCell',IdT.vals]) aB ?_
  refine RL.nil ?_
  refine hK4 _ _ _ ?_
  refine CW.kp [2] rfl ?_
  refine CW.ret ?_
  rw [if_pos h1]
  exact aC.mk rfl MM (by first | rfl | assumption) aE (az.drop ⟨rfl,rfl,rfl⟩ SB)
 refine CW.skip ?_
 refine hK2 _ _ _ ?_
 refine CW.seq fun K5 hK5=>?_
 refine CW.region ?_
 refine RL.q (Y.build [_,_,_] rfl aZ cu (by rfl)) rfl ?_
 refine RL.aG _ rfl rfl RP (by rfl) (by first | (simp;done) | simp [IdT.vals]) (by first | (simp [Value.oneCell'];done) | simp [Value.oneCell',IdT.vals]) aB ?_
 refine RL.nil ?_
 refine hK5 _ _ _ ?_
 refine CW.kp [2] rfl ?_
 refine CW.ret ?_
 rw [if_neg h1]
 exact aC.mk rfl MM (by first | rfl | assumption) aE (az.drop ⟨rfl,rfl,rfl⟩ SB)

theorem cy (w0 : World) (M : Mem) (Γ : List As) (b : Bool) :
   aA Tryd.prog w0 M Γ 31 #[.bool b] (Is M Γ (.agg [av 1,av (if b = true then 1 else 0),.slice none 0 0].toArray)):=by simpa using etruthP w0 M Γ (b = true)

theorem BJ (w0 : World) (M : Mem) (Γ : List As) (n : Int)    :
   aA Tryd.prog w0 M Γ 56 #[av n] (Is M Γ (av (fP n))):=by
 refine enter (f:=56) Tryd.func56 rfl Tryd.ntmps56 rfl rfl fun w1 hw1=>?_
 refine CW.seq fun K1 hK1=>?_
 refine CW.region ?_
 refine RL.q (Y.assign rfl) rfl ?_
 refine RL.nil ?_
 refine hK1 _ _ _ ?_
 refine CW.kp [0] rfl ?_
 refine CW.seq fun K2 hK2=>?_
 refine CW.region ?_
 refine RL.q (Y.move rfl) rfl ?_
 refine RL.q (Y.max2 rfl rfl) rfl ?_
 refine RL.q (Y.min2 rfl rfl) rfl ?_
 refine RL.q (Y.assign rfl) rfl ?_
 refine RL.nil ?_
 refine hK2 _ _ _ ?_
 refine CW.kp [2] rfl ?_
 refine CW.ret ?_
 exact ⟨_,rfl,az.drop ⟨rfl,rfl,rfl⟩ SB⟩

theorem add_ok (w0 : World) (M : Mem) (Γ : List As) (a : Int) (b : Int)   (hai : InR a) (hbi : InR b) :
   aA Tryd.prog w0 M Γ 132 #[av a,av b] (Is M Γ (av (fP (a+b)))):=by
 have hai2:=hai
 have hbi2:=hbi
 unfold InR at hai2 hbi2
 refine enter (f:=132) Tryd.func132 rfl Tryd.ntmps132 rfl rfl fun w1 hw1=>?_
 refine CW.seq fun K1 hK1=>?_
 refine CW.region ?_
 refine RL.q (Y.assign rfl) rfl ?_
 refine RL.nil ?_
 refine hK1 _ _ _ ?_
 refine CW.kp [0,1] rfl ?_
 refine CW.seq fun K2 hK2=>?_
 refine CW.region ?_
 refine RL.q (Y.move rfl) rfl ?_
 refine RL.q (Y.move rfl) rfl ?_
 refine RL.q (Y.add rfl rfl OM) rfl ?_
 refine RL.er rfl func56 rfl rfl (by exact BJ _ _ _ _) ?_
 refine RL.q (Y.assign rfl) rfl ?_
 refine RL.nil ?_
 refine hK2 _ _ _ ?_
 refine CW.kp [4] rfl ?_
 refine CW.ret ?_
 exact ⟨_,rfl,az.drop ⟨rfl,rfl,rfl⟩ SB⟩

theorem sub_ok (w0 : World) (M : Mem) (Γ : List As) (a : Int) (b : Int)   (hai : InR a) (hbi : InR b) :
   aA Tryd.prog w0 M Γ 133 #[av a,av b] (Is M Γ (av (fP (a - b)))):=by
 have hai2:=hai
 have hbi2:=hbi
 unfold InR at hai2 hbi2
 refine enter (f:=133) Tryd.func133 rfl Tryd.ntmps133 rfl rfl fun w1 hw1=>?_
 refine CW.seq fun K1 hK1=>?_
 refine CW.region ?_
 refine RL.q (Y.assign rfl) rfl ?_
 refine RL.nil ?_
 refine hK1 _ _ _ ?_
 refine CW.kp [0,1] rfl ?_
 refine CW.seq fun K2 hK2=>?_
 refine CW.region ?_
 refine RL.q (Y.move rfl) rfl ?_
 refine RL.q (Y.move rfl) rfl ?_
 refine RL.q (Y.sub rfl rfl OM) rfl ?_
 refine RL.er rfl func56 rfl rfl (by exact BJ _ _ _ _) ?_
 refine RL.q (Y.assign rfl) rfl ?_
 refine RL.nil ?_
 refine hK2 _ _ _ ?_
 refine CW.kp [4] rfl ?_
 refine CW.ret ?_
 exact ⟨_,rfl,az.drop ⟨rfl,rfl,rfl⟩ SB⟩

theorem Dv (w0 : World) (M : Mem) (Γ : List As) (a : Int) (b : Int)   (hai : InR a) (hbi : InR b) :
   aA Tryd.prog w0 M Γ 134 #[av a,av b] (Is M Γ (av (iu a b))):=by
 have hai2:=hai
 have hbi2:=hbi
 unfold InR at hai2 hbi2
 refine enter (f:=134) Tryd.func134 rfl Tryd.ntmps134 rfl rfl fun w1 hw1=>?_
 refine CW.seq fun K1 hK1=>?_
 refine CW.region ?_
 refine RL.q (Y.assign rfl) rfl ?_
 refine RL.nil ?_
 refine hK1 _ _ _ ?_
 refine CW.kp [0,1] rfl ?_
 refine CW.seq fun K2 hK2=>?_
 refine CW.seq fun K3 hK3=>?_
 refine CW.region ?_
 refine RL.q (Y.move rfl) rfl ?_
 refine RL.qs (Y.eql rfl rfl) rfl (fun g6=>?_) (fun g6=>?_)
 ·refine RL.q (Y.move rfl) rfl ?_
  refine RL.no WG rfl ?_
  refine RL.no WG rfl ?_
  refine RL.q (Y.fF rfl rfl) rfl ?_
  refine RL.nil ?_
  refine hK3 _ _ _ ?_
  refine CW.kp [0,1,10] rfl ?_
  refine CW.yes rfl ?_
  refine CW.seq fun K4 hK4=>?_
  refine CW.region ?_
  refine RL.q (Y.assign rfl) rfl ?_
  refine RL.nil ?_
  refine hK4 _ _ _ ?_
  refine CW.kp [4] rfl ?_
  refine CW.ret ?_
  first | exact ⟨_,rfl,az.drop ⟨(by first | (rw [iu,if_pos OM];done) | fail),rfl,rfl⟩ SB⟩
 refine RL.q (Y.move rfl) rfl ?_
 refine RL.qg WG (Y.move rfl) rfl ?_
 refine RL.qg WG (Y.eql rfl rfl) rfl ?_
 refine RL.q (Y.fG rfl rfl) rfl ?_
 refine RL.nil ?_
 refine hK3 _ _ _ ?_
 refine CW.kp [0,1,10] rfl ?_
 refine CW.ite rfl (fun h1=>?_) (fun h1=>?_)
 ·refine CW.seq fun K5 hK5=>?_
  refine CW.region ?_
  refine RL.q (Y.assign rfl) rfl ?_
  refine RL.nil ?_
  refine hK5 _ _ _ ?_
  refine CW.kp [4] rfl ?_
  refine CW.ret ?_
  first | exact ⟨_,rfl,az.drop ⟨(by first | (rw [iu,if_pos OM];done) | fail),rfl,rfl⟩ SB⟩
 refine CW.skip ?_
 refine hK2 _ _ _ ?_
 refine CW.seq fun K6 hK6=>?_
 refine CW.seq fun K7 hK7=>?_
 have hbq : 0 < max b (-b):=by omega
 have hdq : Int.tdiv 1099511627776 (max b (-b)) = 1099511627776 / (max b (-b)):=Int.tdiv_eq_ediv_of_nonneg OM
 have hdr : 0<=1099511627776 / (max b (-b))/\1099511627776 / (max b (-b))<=1099511627776:=⟨Int.ediv_nonneg OM OM,Int.ediv_le_self _ OM⟩
 refine CW.region ?_
 refine RL.q (Y.move rfl) rfl ?_
 refine RL.q (Y.move rfl) rfl ?_
 refine RL.q (Y.neg rfl OM) rfl ?_
 refine RL.q (Y.max2 rfl rfl) rfl ?_
 refine RL.q (Y.move rfl) rfl ?_
 refine RL.q (Y.move rfl) rfl ?_
 refine RL.q (Y.neg rfl OM) rfl ?_
 refine RL.q (Y.max2 rfl rfl) rfl ?_
 refine RL.q (Y.quo rfl rfl OM OM) rfl ?_
 refine RL.q (Y.gtr rfl rfl) rfl ?_
 refine RL.nil ?_
 refine hK7 _ _ _ ?_
 refine CW.kp [0,1,20] rfl ?_
 refine CW.ite rfl (fun h2=>?_) (fun h2=>?_)
 ·refine CW.seq fun K8 hK8=>?_
  refine CW.seq fun K9 hK9=>?_
  refine CW.region ?_
  refine RL.q (Y.move rfl) rfl ?_
  refine RL.q (Y.lss rfl rfl) rfl ?_
  refine RL.q (Y.move rfl) rfl ?_
  refine RL.q (Y.lss rfl rfl) rfl ?_
  refine RL.q (Y.eqlBB Tryd.underlying4 rfl rfl) rfl ?_
  refine RL.nil ?_
  refine hK9 _ _ _ ?_
  refine CW.kp [25] rfl ?_
  refine CW.ite rfl (fun h3=>?_) (fun h3=>?_)
  ·refine CW.seq fun K10 hK10=>?_
   refine CW.region ?_
   refine RL.q (Y.assign rfl) rfl ?_
   refine RL.nil ?_
   refine hK10 _ _ _ ?_
   refine CW.kp [4] rfl ?_
   refine CW.ret ?_
   have c0 : ¬ (a = 0\/b = 0):=by omega
   have c1 : Int.tdiv 1099511627776 (dP b) < dP a:=by unfold dP;omega
   rw [iu,if_neg c0,if_pos c1,if_pos (decide_eq_decide.1 h3)]
   exact ⟨_,rfl,az.drop ⟨rfl,rfl,rfl⟩ SB⟩
  refine CW.skip ?_
  refine hK8 _ _ _ ?_
  refine CW.seq fun K11 hK11=>?_
  refine CW.region ?_
  refine RL.q (Y.assign rfl) rfl ?_
  refine RL.nil ?_
  refine hK11 _ _ _ ?_
  refine CW.kp [4] rfl ?_
  refine CW.ret ?_
  have c0 : ¬ (a = 0\/b = 0):=by omega
  have c1 : Int.tdiv 1099511627776 (dP b) < dP a:=by unfold dP;omega
  rw [iu,if_neg c0,if_pos c1,if_neg (fun h=>h3 (decide_eq_decide.2 h))]
  exact ⟨_,rfl,az.drop ⟨rfl,rfl,rfl⟩ SB⟩
 refine CW.skip ?_
 refine hK6 _ _ _ ?_
 refine CW.seq fun K12 hK12=>?_
 have hm7:=xC a b
 rw [iu,if_neg OM,if_neg (by unfold dP;omega)] at hm7
 unfold InR at hm7
 refine CW.region ?_
 refine RL.q (Y.move rfl) rfl ?_
 refine RL.q (Y.move rfl) rfl ?_
 refine RL.q (Y.mul rfl rfl OM) rfl ?_
 refine RL.q (Y.assign rfl) rfl ?_
 refine RL.nil ?_
 refine hK12 _ _ _ ?_
 refine CW.kp [4] rfl ?_
 refine CW.ret ?_
 have c0 : ¬ (a = 0\/b = 0):=by omega
 have c1 : ¬ Int.tdiv 1099511627776 (dP b) < dP a:=by unfold dP;omega
 rw [iu,if_neg c0,if_neg c1]
 exact ⟨_,rfl,az.drop ⟨rfl,rfl,rfl⟩ SB⟩

theorem vh (w0 : World) (M : Mem) (Γ : List As) (a : Int) (b : Int)   (hai : InR a) (hbi : InR b) :
   aA Tryd.prog w0 M Γ 135 #[av a,av b] (Is M Γ (av (pP a b))):=by
 have hai2:=hai
 have hbi2:=hbi
 unfold InR at hai2 hbi2
 have hqi:=Ba (b:=b) hai
 unfold InR at hqi
 refine enter (f:=135) Tryd.func135 rfl Tryd.ntmps135 rfl rfl fun w1 hw1=>?_
 refine CW.seq fun K1 hK1=>?_
 refine CW.region ?_
 refine RL.q (Y.assign rfl) rfl ?_
 refine RL.nil ?_
 refine hK1 _ _ _ ?_
 refine CW.kp [0,1] rfl ?_
 refine CW.seq fun K2 hK2=>?_
 refine CW.seq fun K3 hK3=>?_
 refine CW.region ?_
 refine RL.q (Y.move rfl) rfl ?_
 refine RL.q (Y.eql rfl rfl) rfl ?_
 refine RL.nil ?_
 refine hK3 _ _ _ ?_
 refine CW.kp [0,1,7] rfl ?_
 refine CW.ite rfl (fun h1=>?_) (fun h1=>?_)
 ·refine CW.seq fun K4 hK4=>?_
  refine CW.region ?_
  refine RL.q (Y.assign rfl) rfl ?_
  refine RL.nil ?_
  refine hK4 _ _ _ ?_
  refine CW.kp [4] rfl ?_
  refine CW.ret ?_
  exact ⟨_,rfl,az.drop ⟨by rw [pP,if_pos OM],rfl,rfl⟩ SB⟩
 refine CW.skip ?_
 refine hK2 _ _ _ ?_
 refine CW.seq fun K5 hK5=>?_
 refine CW.region ?_
 refine RL.q (Y.move rfl) rfl ?_
 refine RL.q (Y.move rfl) rfl ?_
 refine RL.q (Y.quo rfl rfl OM OM) rfl ?_
 refine RL.q (Y.assign rfl) rfl ?_
 refine RL.nil ?_
 refine hK5 _ _ _ ?_
 refine CW.kp [0,1,5] rfl ?_
 refine CW.seq fun K6 hK6=>?_
 refine CW.seq fun K7 hK7=>?_
 refine CW.region ?_
 refine RL.q (Y.move rfl) rfl ?_
 refine RL.q (Y.move rfl) rfl ?_
 refine RL.q (Y.rem rfl rfl OM) rfl ?_
 refine RL.qs (Y.neq rfl rfl) rfl (fun g14=>?_) (fun g14=>?_)
 ·refine RL.q (Y.move rfl) rfl ?_
  refine RL.qg WG (Y.move rfl) rfl ?_
  refine RL.qg WG (Y.lss rfl rfl) rfl ?_
  refine RL.qg WG (Y.move rfl) rfl ?_
  refine RL.qg WG (Y.lss rfl rfl) rfl ?_
  refine RL.qg WG (Y.neqD Tryd.underlying4 rfl rfl) rfl ?_
  refine RL.q (Y.fF rfl rfl) rfl ?_
  refine RL.nil ?_
  refine hK7 _ _ _ ?_
  refine CW.kp [5,21] rfl ?_
  refine CW.ite rfl (fun h2=>?_) (fun h2=>?_)
  ·refine CW.region ?_
   refine RL.q (Y.move rfl) rfl ?_
   refine RL.q (Y.sub rfl rfl OM) rfl ?_
   refine RL.q (Y.assign rfl) rfl ?_
   refine RL.nil ?_
   refine hK6 _ _ _ ?_
   refine CW.kp [5] rfl ?_
   refine CW.seq fun K8 hK8=>?_
   refine CW.region ?_
   refine RL.q (Y.move rfl) rfl ?_
   refine RL.q (Y.assign rfl) rfl ?_
   refine RL.nil ?_
   refine hK8 _ _ _ ?_
   refine CW.kp [4] rfl ?_
   refine CW.ret ?_
   exact ⟨_,rfl,az.drop ⟨congrArg av (by unfold pP;split <;> first | omega | (split <;> omega)),rfl,rfl⟩ SB⟩
  refine CW.skip ?_
  refine hK6 _ _ _ ?_
  refine CW.seq fun K9 hK9=>?_
  refine CW.region ?_
  refine RL.q (Y.move rfl) rfl ?_
  refine RL.q (Y.assign rfl) rfl ?_
  refine RL.nil ?_
  refine hK9 _ _ _ ?_
  refine CW.kp [4] rfl ?_
  refine CW.ret ?_
  exact ⟨_,rfl,az.drop ⟨congrArg av (by unfold pP;split <;> first | omega | (split <;> omega)),rfl,rfl⟩ SB⟩
 refine RL.q (Y.move rfl) rfl ?_
 refine RL.no WG rfl ?_
 refine RL.no WG rfl ?_
 refine RL.no WG rfl ?_
 refine RL.no WG rfl ?_
 refine RL.no WG rfl ?_
 refine RL.q (Y.fG rfl rfl) rfl ?_
 refine RL.nil ?_
 refine hK7 _ _ _ ?_
 refine CW.kp [5,21] rfl ?_
 refine CW.no rfl ?_
 refine CW.skip ?_
 refine hK6 _ _ _ ?_
 refine CW.seq fun K10 hK10=>?_
 refine CW.region ?_
 refine RL.q (Y.move rfl) rfl ?_
 refine RL.q (Y.assign rfl) rfl ?_
 refine RL.nil ?_
 refine hK10 _ _ _ ?_
 refine CW.kp [4] rfl ?_
 refine CW.ret ?_
 exact ⟨_,rfl,az.drop ⟨congrArg av (by unfold pP;split <;> first | omega | (split <;> omega)),rfl,rfl⟩ SB⟩

theorem rest_ok (w0 : World) (M : Mem) (Γ : List As) (a : Int) (b : Int)   (hai : InR a) (hbi : InR b) :
   aA Tryd.prog w0 M Γ 136 #[av a,av b] (Is M Γ (av (kX a b))):=by
 have hai2:=hai
 have hbi2:=hbi
 unfold InR at hai2 hbi2
 refine enter (f:=136) Tryd.func136 rfl Tryd.ntmps136 rfl rfl fun w1 hw1=>?_
 refine CW.seq fun K1 hK1=>?_
 refine CW.region ?_
 refine RL.q (Y.assign rfl) rfl ?_
 refine RL.nil ?_
 refine hK1 _ _ _ ?_
 refine CW.kp [0,1] rfl ?_
 refine CW.seq fun K2 hK2=>?_
 refine CW.seq fun K3 hK3=>?_
 refine CW.region ?_
 refine RL.q (Y.move rfl) rfl ?_
 refine RL.q (Y.eql rfl rfl) rfl ?_
 refine RL.nil ?_
 refine hK3 _ _ _ ?_
 refine CW.kp [0,1,6] rfl ?_
 refine CW.ite rfl (fun h1=>?_) (fun h1=>?_)
 ·refine CW.seq fun K4 hK4=>?_
  refine CW.region ?_
  refine RL.q (Y.assign rfl) rfl ?_
  refine RL.nil ?_
  refine hK4 _ _ _ ?_
  refine CW.kp [4] rfl ?_
  refine CW.ret ?_
  exact ⟨_,rfl,az.drop ⟨by rw [kX,if_pos OM],rfl,rfl⟩ SB⟩
 have hbd:=FZ h1 hai hbi
 refine CW.skip ?_
 refine hK2 _ _ _ ?_
 refine CW.seq fun K5 hK5=>?_
 refine CW.region ?_
 refine RL.q (Y.move rfl) rfl ?_
 refine RL.q (Y.move rfl) rfl ?_
 refine RL.q (Y.move rfl) rfl ?_
 refine RL.q (Y.move rfl) rfl ?_
 refine RL.er rfl func135 rfl rfl (by exact vh _ _ _ _ _ AO AO) ?_
 refine RL.q (Y.mul rfl rfl OM) rfl ?_
 refine RL.q (Y.sub rfl rfl OM) rfl ?_
 refine RL.q (Y.assign rfl) rfl ?_
 refine RL.nil ?_
 refine hK5 _ _ _ ?_
 refine CW.kp [4] rfl ?_
 refine CW.ret ?_
 rw [kX,if_neg OM]
 exact ⟨_,rfl,az.drop ⟨rfl,rfl,rfl⟩ SB⟩

theorem v_eta (v : Val) : Val.mk v.kind v.n v.kids = v:=by cases v;rfl

set_option maxHeartbeats 1000000 in
theorem pQ (N : Nat) : ∀ (w0 : World) (M : Mem) (Γ : List As) (l : List Val) (u : Value),(∀ v∈l,v.size < N)->N<=1099511627776->l.length<=1099511627776->Kn w0 M Γ (Rd M (.sl l.length 3 (l.flatMap Val.enc)) u) ->
   aA Tryd.prog w0 M Γ 33 #[u] (oV M Γ fun M' v=>Rd M' (.sl l.length 3 (l.flatMap Val.enc)) v):=by
 induction N using Nat.strongRecOn
 rename_i N ih
 intro w0 M Γ l u hsz hN hll hu
 refine aA.kn hu fun hu=>?_
 obtain ⟨a1,c1,rfl,hc1,hlim1,hlen1⟩:=hu.slice
 refine enter (f:=33) Tryd.func33 rfl Tryd.ntmps33 rfl rfl fun w1 hw1=>?_
 refine CW.fV hu ?_
 refine CW.seq fun K1 hK1=>?_
 refine CW.region ?_
 refine RL.q (Y.assign rfl) rfl ?_
 refine RL.nil ?_
 refine hK1 _ _ _ ?_
 refine CW.kp [0] rfl ?_
 refine CW.seq fun K2 hK2=>?_
 refine CW.region ?_
 refine RL.q (Y.assign rfl) rfl ?_
 refine RL.nil ?_
 refine hK2 _ _ _ ?_
 refine CW.kp [0,3] rfl ?_
 refine CW.seq fun K3 hK3=>?_
 refine CW.seq fun K4 hK4=>?_
 refine CW.AI 26 3 ?_
 refine CW.aW (RdL.nil _) ?_
 refine CW.region ?_
 refine RL.q (Y.move rfl) rfl ?_
 refine RL.q (Y.len rfl Tryd.underlying24) rfl ?_
 refine RL.q (Y.move rfl) rfl ?_
 refine RL.nil ?_
 refine hK4 _ _ _ ?_
 refine CW.kp [3,6,7,8] rfl ?_
 refine CW.block ?_
 -- LOOP 1: live [3,6,7,8] changed [3,8]
 refine CW.kp [3,8,6,7] rfl ?_
 refine CW.ou (fun m Lc M1 Γc=>∃ (k : Nat) (ua : Option Addr) (ca : Nat) (us : List Value),m = l.length - k/\k<=l.length/\Lc = [(3,.slice ua k ca),(8,av k)]/\Γc = [.rds ((l.take k).flatMap Val.enc) us,.acc (.slice ua k ca) 26 3 k us]) l.length [(3,_),(8,_)] [_,_] rfl rfl ⟨0,none,0,[],rfl,Nat.zero_le _,rfl,rfl⟩ ?_
 rintro m Lc M1 Γc hs ⟨k,ua,ca,us,rfl,hk,rfl,rfl⟩
 refine CW.seq fun K5 hK5=>?_
 refine CW.region ?_
 refine RL.q (Y.lss rfl rfl) rfl ?_
 refine RL.nil ?_
 refine hK5 _ _ _ ?_
 refine CW.kp [3,6,7,8,9] rfl ?_
 refine CW.seq fun K6 hK6=>?_
 refine CW.ite rfl (fun h1=>?_) (fun h1=>?_)
 ·have hka : k < l.length:=by omega
  have hkz:=hsz _ (List.getElem_mem hka)
  have hks:=gZ l[k]
  refine CW.skip ?_
  refine hK6 _ _ _ ?_
  refine CW.seq fun K7 hK7=>?_
  refine CW.block ?_
  refine CW.seq fun K8 hK8=>?_
  refine CW.region ?_
  refine RL.q (Y.index _ rfl rfl rfl AO en SM) rfl ?_
  refine RL.aM rfl rfl MM (Eq.trans (aS Val.aq _ _ _ (List.getElem?_eq_getElem AO)) (Val.ay _)) (by rfl) aE rfl fun us11 hul11 hur11=>?_
  refine RL.alloc _ aZ rfl rfl fun b5=>?_
  refine RL.aD 3 rfl rfl RP MM EL (by first | exact Kn.bk MM EL | exact Kn.bl rfl) aB ?_
  refine RL.nil ?_
  refine hK8 _ _ _ ?_
  refine CW.kp [3,5,6,7,8] rfl ?_
  obtain ⟨uk,rfl,hkids⟩:=Val.open (v:=l[k]) (by rw [Val.ay];exact hur11)
  obtain ⟨ak,ck,rfl,hck,hlk,_⟩:=hkids.slice
  refine CW.fV hkids ?_
  refine CW.seq fun K9 hK9=>?_
  refine CW.region ?_
  refine RL.q (Y.field rfl cX) rfl ?_
  refine RL.q (Y.iZ rfl MM (by rfl) fm) rfl ?_
  refine RL.call rfl func33 rfl rfl (by exact ih _ hkz _ _ _ (l[k]).kids _ (fun x hx=>Val.dy hx) OM OM (by exact Kn.rd MM)) ?_
  rintro v14 M14 _ ⟨hs14,rfl,hr14⟩
  obtain ⟨a14,c14,rfl,hc14,hl14,_⟩:=hr14.slice
  refine RL.fV hr14 ?_
  refine RL.q (Y.field rfl cX) rfl ?_
  refine RL.store _ rfl rfl RP (by rfl) (by simp) (by rfl) DI ?_
  refine RL.nil ?_
  refine hK9 _ _ _ ?_
  refine CW.kp [3,5,6,7,8] rfl ?_
  refine CW.region ?_
  refine RL.q (Y.move rfl) rfl ?_
  refine RL.q (Y.gq rfl MM (by rfl) aE) rfl ?_
  refine RL.buildSlice [av l[k].kind,av l[k].n,.slice a14 (l[k]).kids.length c14] pN rfl (by decide) (fill1 rfl rfl) rfl fun b18=>?_
  have hnd:=j0 l[k].kind l[k].n (l[k]).kids hr14
  rw [v_eta] at hnd
  have etk : (l.take (k+1)).flatMap Val.enc = (l.take k).flatMap Val.enc++l[k].enc:=by rw [List.take_succ_eq_append_getElem hka,uh]
  refine RL.append pN rfl rfl PK (lS.own (sz:=3) (m:=1) MM (by rfl) hnd.one) OM (by unfold lim;omega) rfl fun a19 c19 hc19=>?_
  refine RL.q (Y.assign rfl) rfl ?_
  refine RL.nil ?_
  refine hK7 _ _ _ ?_
  refine CW.kp [3,6,7,8] rfl ?_
  refine CW.region ?_
  refine RL.q (Y.add rfl rfl OM) rfl ?_
  refine RL.q (Y.move rfl) rfl ?_
  refine RL.nil ?_
  refine ⟨l.length - (k+1),[(3,_),(8,_)],?_,(KP [3,8,6,7]),?_⟩
  · omega
  · refine az.kn (Kn.rds (ds:=(l.take k).flatMap Val.enc) (us:=us) MM) fun hrd=>?_
    refine az.front (x:=.acc (.slice a19 (k+1) c19) 26 3 (k+1) (us++[av l[k].kind,av l[k].n,.slice a14 (l[k]).kids.length c14])) PK ?_
    refine az.aW (hrd.append hnd) ?_
    exact az.drop ⟨[_,_],rfl,hs.trans hs14,k+1,a19,c19,us++[av l[k].kind,av l[k].n,.slice a14 (l[k]).kids.length c14],rfl,by omega,rfl,by rw [etk]⟩ SB
 refine CW.exit ?_
 refine hK3 _ _ _ ?_
 refine CW.seq fun K10 hK10=>?_
 refine CW.region ?_
 refine RL.q (Y.move rfl) rfl ?_
 refine RL.q (Y.assign rfl) rfl ?_
 refine RL.nil ?_
 refine hK10 _ _ _ ?_
 refine CW.kp [2] rfl ?_
 refine CW.ret ?_
 obtain rfl : k = l.length:=by omega
 refine ⟨_,rfl,az.kn (Kn.rds (ds:=(l.take l.length).flatMap Val.enc) (us:=us) MM) fun hrd=>?_⟩
 rw [List.take_length] at hrd
 exact az.gp (Γ:=Γ) (u:=.slice ua l.length ca) PK hrd (by unfold lim;omega) SB fun M2 hs2 hr2=>⟨hs.trans hs2,rfl,hr2⟩

theorem Fa (w0 : World) (M : Mem) (Γ : List As) (n : Nat) (hn : n<=1000000) :
   aA Tryd.prog w0 M Γ 71 #[.slice none 0 0,av n] (fun u M' Γ'=>∃ a c,u = .slice a 0 c/\n<=c/\M' = M/\Γ' = .acc (.slice a 0 c) 26 3 0 []::Γ):=by
 refine enter (f:=71) Tryd.func71 rfl Tryd.ntmps71 rfl rfl fun w1 hw1=>?_
 refine CW.seq fun K1 hK1=>?_
 refine CW.region ?_
 refine RL.q (Y.assign rfl) rfl ?_
 refine RL.nil ?_
 refine hK1 _ _ _ ?_
 refine CW.kp [0,1] rfl ?_
 refine CW.seq fun K2 hK2=>?_
 refine CW.seq fun K3 hK3=>?_
 refine CW.region ?_
 refine RL.q (Y.move rfl) rfl ?_
 refine RL.q (Y.lss rfl rfl) rfl ?_
 refine RL.nil ?_
 refine hK3 _ _ _ ?_
 refine CW.kp [0,1,6] rfl ?_
 refine CW.ite rfl (fun h1=>absurd h1 OM) (fun h1=>?_)
 refine CW.skip ?_
 refine hK2 _ _ _ ?_
 refine CW.seq fun K4 hK4=>?_
 refine CW.seq fun K5 hK5=>?_
 refine CW.region ?_
 refine RL.q (Y.move rfl) rfl ?_
 refine RL.q (Y.move rfl) rfl ?_
 refine RL.q (Y.cap rfl Tryd.underlying24) rfl ?_
 refine RL.q (Y.move rfl) rfl ?_
 refine RL.q (Y.len rfl Tryd.underlying24) rfl ?_
 refine RL.q (Y.sub rfl rfl OM) rfl ?_
 refine RL.q (Y.sub rfl rfl OM) rfl ?_
 refine RL.q (Y.assign rfl) rfl ?_
 refine RL.nil ?_
 refine hK5 _ _ _ ?_
 refine CW.kp [0,1] rfl ?_
 refine CW.seq fun K6 hK6=>?_
 refine CW.region ?_
 refine RL.q (Y.move rfl) rfl ?_
 refine RL.q (Y.gtr rfl rfl) rfl ?_
 refine RL.nil ?_
 refine hK6 _ _ _ ?_
 refine CW.kp [0,1,16] rfl ?_
 refine CW.ite rfl (fun h2=>?_) (fun h2=>?_)
 ·refine CW.region ?_
  refine RL.q (Y.move rfl) rfl ?_
  refine RL.q (Y.move rfl) rfl ?_
  refine RL.q (Y.cap rfl Tryd.underlying24) rfl ?_
  refine RL.q (Y.DD 0 0 rfl ⟨_,rfl,rfl⟩ rfl (by simp) (Nat.le_refl _) (Nat.le_refl _) en) rfl ?_
  refine RL.q (Y.move rfl) rfl ?_
  refine RL.y4 n pN Tryd.underlying3 rfl rfl OM OM OM (by unfold lim;omega) rfl fun b22 c22 us22 hus22 hc22=>?_
  refine RL.q (Y.move rfl) rfl ?_
  refine RL.q (Y.len rfl Tryd.underlying24) rfl ?_
  refine RL.xg (k:=0) (Nat.zero_le _) ?_
  refine RL.q (Y.DD 0 c22 rfl ⟨_,rfl,rfl⟩ rfl (by simp) (Nat.zero_le _) (Nat.le_refl _) en) rfl ?_
  refine RL.q (Y.assign rfl) rfl ?_
  refine RL.nil ?_
  refine hK4 _ _ _ ?_
  refine CW.kp [0] rfl ?_
  refine CW.seq fun K7 hK7=>?_
  refine CW.region ?_
  refine RL.q (Y.move rfl) rfl ?_
  refine RL.q (Y.assign rfl) rfl ?_
  refine RL.nil ?_
  refine hK7 _ _ _ ?_
  refine CW.kp [4] rfl ?_
  refine CW.ret ?_
  exact ⟨_,rfl,az.drop ⟨_,_,rfl,by omega,rfl,rfl⟩ SB⟩
 refine CW.AI 26 3 ?_
 refine CW.skip ?_
 refine hK4 _ _ _ ?_
 refine CW.seq fun K8 hK8=>?_
 refine CW.region ?_
 refine RL.q (Y.move rfl) rfl ?_
 refine RL.q (Y.assign rfl) rfl ?_
 refine RL.nil ?_
 refine hK8 _ _ _ ?_
 refine CW.kp [4] rfl ?_
 refine CW.ret ?_
 exact ⟨_,rfl,az.drop ⟨_,_,rfl,by omega,rfl,rfl⟩ SB⟩

theorem m6 (ls : List (List Val)) (k : Nat) (h : k < ls.length) : (ls.take (k+1)).flatten = (ls.take k).flatten++ls[k]:=by rw [List.take_succ_eq_append_getElem h,List.flatten_append,List.flatten_singleton]

set_option maxHeartbeats 1000000 in
theorem s9 (w0 : World) (M : Mem) (Γ : List As) (p : Addr) (us : List Value) (ls : List (List Val)) (hc : gL w0 M Γ p us) (hr : RdL M (ls.map fun l=>D.sl l.length 3 (l.flatMap Val.enc)) us) (hl : ls.length<=1000) (hls : ls.flatten.length<=1000000) :
   aA Tryd.prog w0 M Γ 34 #[.slice (some p) us.length us.length] (fun u M' Γ'=>∃ a c vs,u = .slice a ls.flatten.length c/\ls.flatten.length<=c/\M' = M/\RdL M (ls.flatten.flatMap Val.enc) vs/\Γ' = .acc (.slice a ls.flatten.length c) 26 3 ls.flatten.length vs::Γ):=by
 have hul : us.length = ls.length:=by rw [hr.1];simp
 have htk : ∀ k,(ls.take k).flatten.length<=1000000:=fun k=>by
   have h:=congrArg (fun x=>(List.flatten x).length) (List.take_append_drop k ls)
   rw [List.flatten_append,List.length_append] at h
   omega
 refine enter (f:=34) Tryd.func34 rfl Tryd.ntmps34 rfl rfl fun w1 hw1=>?_
 refine CW.seq fun K1 hK1=>?_
 refine CW.region ?_
 refine RL.q (Y.assign rfl) rfl ?_
 refine RL.nil ?_
 refine hK1 _ _ _ ?_
 refine CW.kp [0] rfl ?_
 refine CW.seq fun K2 hK2=>?_
 refine CW.region ?_
 refine RL.q (Y.assign rfl) rfl ?_
 refine RL.nil ?_
 refine hK2 _ _ _ ?_
 refine CW.kp [0,3] rfl ?_
 refine CW.seq fun K3 hK3=>?_
 refine CW.seq fun K4 hK4=>?_
 refine CW.region ?_
 refine RL.q (Y.move rfl) rfl ?_
 refine RL.q (Y.len rfl Tryd.underlying56) rfl ?_
 refine RL.q (Y.move rfl) rfl ?_
 refine RL.nil ?_
 refine hK4 _ _ _ ?_
 refine CW.kp [0,3,9,10,11] rfl ?_
 refine CW.block ?_
 -- LOOP 1: live [0,3,9,10,11] changed [3,11]
 refine CW.kp [3,11,0,9,10] rfl ?_
 refine CW.ou (fun m Lc M1 Γc=>∃ k : Nat,m = us.length - k/\k<=us.length/\Lc = [(3,av ((ls.take k).flatten.length : Nat)),(11,av k)]/\Γc = []/\M1 = M) (us.length) [(3,_),(11,_)] _ rfl rfl ⟨0,rfl,Nat.zero_le _,rfl,rfl,rfl⟩ ?_
 rintro m Lc M Γc hs ⟨k,rfl,hk,rfl,rfl,rfl⟩
 refine CW.seq fun K5 hK5=>?_
 refine CW.region ?_
 refine RL.q (Y.lss rfl rfl) rfl ?_
 refine RL.nil ?_
 refine hK5 _ _ _ ?_
 refine CW.kp [0,3,9,10,11,12] rfl ?_
 refine CW.seq fun K6 hK6=>?_
 refine CW.ite rfl (fun h1=>?_) (fun h1=>?_)
 ·have hka : k < us.length:=by omega
  have hkl : k < ls.length:=by omega
  have hrk : Rd M (.sl ls[k].length 3 (ls[k].flatMap Val.enc)) us[k]:=hr.2 k _ _ (by simp [hkl]) (List.getElem?_eq_getElem hka)
  obtain ⟨ak,ck,huk,hck,hlk,_⟩:=hrk.slice
  have hgk : us[k]? = some (.slice ak ls[k].length ck):=by rw [List.getElem?_eq_getElem hka,huk]
  have htk1:=htk k
  have htk2:=htk (k+1)
  rw [List.take_succ_eq_append_getElem hkl,List.flatten_append,List.length_append,List.flatten_singleton] at htk2
  refine CW.skip ?_
  refine hK6 _ _ _ ?_
  refine CW.seq fun K7 hK7=>?_
  refine CW.block ?_
  refine CW.seq fun K8 hK8=>?_
  refine CW.region ?_
  refine RL.q (Y.index k rfl rfl rfl hka AZ (fun _ _=>rfl)) rfl ?_
  refine RL.q (Y.load (v:=.slice ak ls[k].length ck) rfl fm (fun w hw=>by rw [Nat.mul_one];exact (hc.mono (fun _ h=>h.sub SB)) w hw k _ hgk)) rfl ?_
  refine RL.q (Y.assign rfl) rfl ?_
  refine RL.nil ?_
  refine hK8 _ _ _ ?_
  refine CW.kp [0,3,5,9,10,11] rfl ?_
  refine CW.seq fun K9 hK9=>?_
  refine CW.region ?_
  refine RL.q (Y.move rfl) rfl ?_
  refine RL.q (Y.move rfl) rfl ?_
  refine RL.q (Y.len rfl Tryd.underlying24) rfl ?_
  refine RL.q (Y.add rfl rfl OM) rfl ?_
  refine RL.q (Y.assign rfl) rfl ?_
  refine RL.nil ?_
  refine hK9 _ _ _ ?_
  refine CW.kp [0,3,9,10,11] rfl ?_
  refine CW.seq fun K10 hK10=>?_
  refine CW.region ?_
  refine RL.q (Y.move rfl) rfl ?_
  refine RL.q (Y.lss rfl rfl) rfl ?_
  refine RL.nil ?_
  refine hK10 _ _ _ ?_
  refine CW.kp [0,3,9,10,11,20] rfl ?_
  refine CW.ite rfl (fun h2=>absurd h2 OM) (fun h2=>?_)
  refine CW.skip ?_
  refine hK7 _ _ _ ?_
  refine CW.region ?_
  refine RL.q (Y.add rfl rfl OM) rfl ?_
  refine RL.q (Y.move rfl) rfl ?_
  refine RL.nil ?_
  refine ⟨us.length - (k+1),[(3,_),(11,_)],?_,(KP [3,11,0,9,10]),?_⟩
  · omega
  · exact az.drop ⟨[],rfl,hs,k+1,rfl,by omega,by rw [m6 ls k hkl,List.length_append] <;> rfl,rfl,rfl⟩ SB
 refine CW.exit ?_
 refine hK3 _ _ _ ?_
 refine CW.seq fun K11 hK11=>?_
 obtain rfl : k = us.length:=by omega
 rw [show ls.take us.length = ls from by rw [hul,List.take_length]]
 refine CW.region ?_
 refine RL.q (Y.move rfl) rfl ?_
 refine RL.call rfl func71 rfl rfl (by exact Fa _ _ _ ls.flatten.length hls) ?_
 rintro v24 M _ ⟨a24,c24,rfl,hc24,rfl,rfl⟩
 refine RL.q (Y.assign rfl) rfl ?_
 refine RL.nil ?_
 refine hK11 _ _ _ ?_
 refine CW.kp [0,6] rfl ?_
 refine CW.seq fun K12 hK12=>?_
 refine CW.seq fun K13 hK13=>?_
 refine CW.region ?_
 refine RL.q (Y.move rfl) rfl ?_
 refine RL.q (Y.len rfl Tryd.underlying56) rfl ?_
 refine RL.q (Y.move rfl) rfl ?_
 refine RL.nil ?_
 refine hK13 _ _ _ ?_
 refine CW.kp [6,25,26,27] rfl ?_
 refine CW.block ?_
 -- LOOP 2: live [6,25,26,27] changed [6,27]
 refine CW.kp [6,27,25,26] rfl ?_
 refine CW.front (x:=.acc (.slice a24 0 c24) 26 3 0 []) PK ?_
 refine CW.ou (fun m Lc M1 Γc=>∃ (k : Nat) (ua : Option Addr) (ca : Nat) (vs : List Value),m = us.length - k/\k<=us.length/\Lc = [(6,.slice ua (ls.take k).flatten.length ca),(27,av k)]/\Γc = [.acc (.slice ua (ls.take k).flatten.length ca) 26 3 (ls.take k).flatten.length vs]/\M1 = M/\(ls.take k).flatten.length<=ca/\RdL M ((ls.take k).flatten.flatMap Val.enc) vs) us.length [(6,_),(27,_)] [_] rfl rfl ⟨0,a24,c24,[],rfl,Nat.zero_le _,rfl,rfl,rfl,Nat.zero_le _,RdL.nil _⟩ ?_
 rintro m Lc M Γc hs2 ⟨k,ua,ca,vs,rfl,hk,rfl,rfl,rfl,hca,hvr⟩
 refine CW.seq fun K14 hK14=>?_
 refine CW.region ?_
 refine RL.q (Y.lss rfl rfl) rfl ?_
 refine RL.nil ?_
 refine hK14 _ _ _ ?_
 refine CW.kp [6,25,26,27,28] rfl ?_
 refine CW.seq fun K15 hK15=>?_
 refine CW.ite rfl (fun h3=>?_) (fun h3=>?_)
 ·have hka : k < us.length:=by omega
  have hkl : k < ls.length:=by omega
  have hrk : Rd M (.sl ls[k].length 3 (ls[k].flatMap Val.enc)) us[k]:=hr.2 k _ _ (by simp [hkl]) (List.getElem?_eq_getElem hka)
  obtain ⟨ak,ck,huk,hck,hlk,_⟩:=hrk.slice
  have hgk : us[k]? = some (.slice ak ls[k].length ck):=by rw [List.getElem?_eq_getElem hka,huk]
  have htk1:=htk k
  have htk2:=htk (k+1)
  rw [List.take_succ_eq_append_getElem hkl,List.flatten_append,List.length_append,List.flatten_singleton] at htk2
  rw [huk] at hrk
  refine CW.fV hrk ?_
  refine CW.skip ?_
  refine hK15 _ _ _ ?_
  refine CW.seq fun K16 hK16=>?_
  refine CW.block ?_
  refine CW.seq fun K17 hK17=>?_
  refine CW.region ?_
  refine RL.q (Y.index k rfl rfl rfl hka AZ (fun _ _=>rfl)) rfl ?_
  refine RL.q (Y.load (v:=.slice ak ls[k].length ck) rfl fm (fun w hw=>by rw [Nat.mul_one];exact (hc.mono (fun _ h=>h.sub SB)) w hw k _ hgk)) rfl ?_
  refine RL.q (Y.assign rfl) rfl ?_
  refine RL.nil ?_
  refine hK17 _ _ _ ?_
  refine CW.kp [6,8,25,26,27] rfl ?_
  refine CW.region ?_
  refine RL.q (Y.move rfl) rfl ?_
  refine RL.q (Y.move rfl) rfl ?_
  refine RL.F6 pN rfl rfl PK MM OM (by unfold lim;omega) rfl fun a33 c33 n33 hc33 hn33=>?_
  refine RL.q (Y.assign rfl) rfl ?_
  refine RL.nil ?_
  refine hK16 _ _ _ ?_
  refine CW.kp [6,25,26,27] rfl ?_
  refine CW.region ?_
  refine RL.q (Y.add rfl rfl OM) rfl ?_
  refine RL.q (Y.move rfl) rfl ?_
  refine RL.nil ?_
  have e33 : (ls.take (k+1)).flatten.length = (ls.take k).flatten.length+ls[k].length:=by rw [m6 ls k hkl,List.length_append]
  refine ⟨us.length - (k+1),[(6,_),(27,_)],?_,(KP [6,27,25,26]),?_⟩
  · omega
  · refine az.drop (Γ':=[.acc (.slice a33 ((ls.take k).flatten.length+ls[k].length) c33) 26 3 ((ls.take k).flatten.length+ls[k].length) (vs++n33)]++_) ⟨_,rfl,hs2,k+1,a33,c33,vs++n33,rfl,by omega,by rw [e33] <;> rfl,by rw [e33],rfl,by omega,?_⟩ SB
    rw [m6 ls k hkl,List.flatMap_append]
    exact hvr.append hn33
 refine CW.exit ?_
 refine hK12 _ _ _ ?_
 refine CW.seq fun K18 hK18=>?_
 refine CW.region ?_
 refine RL.q (Y.move rfl) rfl ?_
 refine RL.q (Y.assign rfl) rfl ?_
 refine RL.nil ?_
 refine hK18 _ _ _ ?_
 refine CW.kp [2] rfl ?_
 refine CW.ret ?_
 obtain rfl : k = us.length:=by omega
 rw [show ls.take us.length = ls from by rw [hul,List.take_length]] at hca hvr ⊢
 exact ⟨_,rfl,az.drop ⟨_,_,vs,rfl,hca,rfl,hvr,rfl⟩ SB⟩
open Xe Pm
theorem FJ (d : DefT) (i : IdT) : IS s89 [d.enc,i.enc] [[vB (decide (d.id = i))],i.enc]:=by
 refine w89.is ?_
 unfold g89
 simp only [pmr,pms]
theorem FI (l : List DefT) (i : IdT) (hs : l.length<=1000000000000000) : IS s88 [[.sl l.length 31 (l.flatMap DefT.enc)],i.enc] [[vI (qF (fun d=>decide (d.id = i)) l)],i.enc]:=by
 refine w88.is ?_
 unfold g88
 simp only [pmr]
 refine cz l.length (fun k=>[[.sl l.length 31 (l.flatMap DefT.enc)],[vI (l.length : Nat)],[vI (k : Nat)],i.enc]) (fun k=>∀ j (hj : j < l.length),j < k->(decide (l[j].id = i)) ≠ true) (fun _ _ h=>absurd h (Nat.not_lt_zero _)) rfl fun k next hi hI hn=>?_
 simp only [pmr]
 refine ⟨fun h=>?_,fun h=>?_⟩
 ·have hk : k < l.length:=by omega
  rw [iL _ hk]
  refine ⟨by omega,ai (FJ _ _) ?_⟩
  simp only [pmr]
  refine ⟨fun e=>by rw [yp hk hI (decide_eq_true e)],fun e=>⟨by unfold okI;omega,hn hk fun j hj h=>?_⟩⟩
  by_cases e' : j = k
  ·subst e'
   simpa using e
  ·exact hI j hj (by omega)
 ·obtain rfl : k = l.length:=by omega
  rw [uQ fun j hj=>hI j hj hj]
theorem wR (p : ProgT) (i : IdT) (hs : p.defs.length<=1000000000000000) : IS s57 [pgL p,i.enc] [(aj p i).enc,[vB (decide (cT p i))]]:=by
 refine w57.is ?_
 unfold g57
 simp only [pmr]
 refine ai (FI p.defs i hs) ?_
 simp only [pmr]
 rcases nF (fun d : DefT=>decide (d.id = i)) p.defs with ⟨e,h⟩ | ⟨k,hk,e,h1,h2⟩
 ·rw [e]
  obtain ⟨g1,g2⟩:=iU (p:=p) (id:=i) fun j hj hc=>h j hj (by simpa using hc)
  rw [g2,decide_eq_false g1]
  exact ⟨fun _=>rfl,fun h=>absurd (show (-1 : Int) < 0 by decide) h⟩
 ·rw [e]
  obtain ⟨g1,g2⟩:=gd hk (fun j hj hlt hc=>h2 j hj hlt (by simpa using hc)) (by simpa using h1)
  rw [g2,decide_eq_true g1,Int.toNat_natCast,iL _ hk]
  exact ⟨fun h=>absurd h (by omega),fun _=>⟨by omega,rfl⟩⟩
theorem body_is (p : ProgT) (i : IdT) (hs : p.defs.length<=1000000000000000) : IS s53 [pgL p,i.enc] [(aj p i).enc,[vB (decide (cT p i/\¬ bare (aj p i)))]]:=by
 refine w53.is ?_
 unfold g53
 refine ai (wR p i hs) ?_
 simp only [pmr,pms]
 have e : ∀ b : Bool,b = decide (cT p i/\¬ bare (aj p i))->([(aj p i).enc,[vB b]] : St') = [(aj p i).enc,[vB (decide (cT p i/\¬ bare (aj p i)))]]:=fun b h=>by rw [h]
 unfold bare at e ⊢
 refine ⟨fun h=>⟨fun h0=>e _ (decide_eq_false (by omega)).symm,fun h0=>e _ ?_⟩,fun h=>e _ (decide_eq_false (fun hh=>h hh.1)).symm⟩
 rw [<-decide_not]
 exact decide_eq_decide.2 ⟨fun h1=>⟨h,by omega⟩,fun h1=>by have:=h1.2;omega⟩
theorem yL (n : Int) : IS s56 [[vI n]] [[vI (fP n)]]:=by
 refine w56.is ?_
 unfold g56
 simp only [pmr]
 rfl
def knE (x : IdT×Int) : List D:=[an x.1.shop,an x.1.seq,an x.1.index,vI x.2]
def knD (kn : List (IdT×Int)) : List D:=[.sl kn.length 4 (kn.flatMap knE)]
theorem qV (x : IdT×Int) (kn : List (IdT×Int)) : (x::kn).flatMap knE = .v (.int .i64 x.1.shop)::.v (.int .i64 x.1.seq)::.v (.int .i64 x.1.index)::([vI x.2]++kn.flatMap knE):=rfl
theorem qU (i : IdT) : ∀ kn : List (IdT×Int),dw 4 i.shop i.seq i.index kn.length (kn.flatMap knE) = (kn.find? fun x=>decide (i = x.1)).map fun x=>[vI x.2]
 | []=>rfl
 | x::kn=>by
  rw [qV,List.length_cons,dw,lE,List.find?_cons]
  by_cases h : i = x.1
  ·rw [decide_eq_true (show (⟨i.shop,i.seq,i.index⟩ : IdT) = x.1 from h)]
   rfl
  ·rw [decide_eq_false (show ¬ (⟨i.shop,i.seq,i.index⟩ : IdT) = x.1 from h)]
   exact qU i kn
theorem EY (i : IdT) (z : Int) : ∀ kn : List (IdT×Int),(kn.find? fun x=>decide (i = x.1)) = none->eR 4 i.shop i.seq i.index [vI z] kn.length (kn.flatMap knE) = (kn++[(i,z)]).flatMap knE
 | [],_=>rfl
 | x::kn,hf=>by
  rw [List.find?_cons] at hf
  by_cases h : i = x.1
  ·rw [decide_eq_true h] at hf;cases hf
  ·rw [decide_eq_false h] at hf
   have hk:=EY i z kn hf
   rw [qV,List.length_cons,eR,lE,decide_eq_false (show ¬ (⟨i.shop,i.seq,i.index⟩ : IdT) = x.1 from h)]
   show List.take 4 _++eR 4 i.shop i.seq i.index [vI z] kn.length (kn.flatMap knE) = _
   rw [hk]
   rfl
theorem kn_len (i : IdT) (kn : List (IdT×Int)) (hf : (kn.find? fun x=>decide (i = x.1)) = none) : gJ 4 i.shop i.seq i.index kn.length (kn.flatMap knE) = kn.length+1:=by
 unfold gJ
 rw [qU,hf]
 rfl
theorem Br (i : IdT) (z : Int) : ∀ (kn : List (IdT×Int)) (x : IdT×Int),(kn.find? fun x=>decide (i = x.1)) = some x->x.2 = z->eR 4 i.shop i.seq i.index [vI z] kn.length (kn.flatMap knE) = kn.flatMap knE
 | [],_,hf,_=>by cases hf
 | y::kn,x,hf,hz=>by
  rw [List.find?_cons] at hf
  by_cases h : i = y.1
  ·rw [decide_eq_true h] at hf
   simp only [Option.some.injEq] at hf
   subst hf
   rw [qV,List.length_cons,eR,lE,decide_eq_true (show (⟨i.shop,i.seq,i.index⟩ : IdT) = y.1 from h),<-hz]
   rfl
  ·rw [decide_eq_false h] at hf
   have:=Br i z kn x hf hz
   rw [qV,List.length_cons,eR,lE,decide_eq_false (show ¬ (⟨i.shop,i.seq,i.index⟩ : IdT) = y.1 from h)]
   show List.take 4 _++eR 4 i.shop i.seq i.index [vI z] kn.length (kn.flatMap knE) = _
   rw [this]
   rfl
theorem kn_slen (i : IdT) (kn : List (IdT×Int)) {x : IdT×Int} (hf : (kn.find? fun x=>decide (i = x.1)) = some x) : gJ 4 i.shop i.seq i.index kn.length (kn.flatMap knE) = kn.length:=by
 unfold gJ
 rw [qU,hf]
 rfl
def tH (p : ProgT) (kn : List (IdT×Int)) : Prop:=∀ x∈kn,x.2 = dV p x.1
def OfIs (p : ProgT) (d : DefT) : Prop:=∀ kn,tH p kn->∃ kn',tH p kn'/\IS s54 [d.enc,knD kn,pgL p] [[vI (dV p d.id)],knD kn',pgL p]
theorem some54 {a : St'} {K : St'->Prop} (h : g54 IS a K) (hu : ∀ r,K r->unpack aJ (gC s54) r fun _=>True) : ∃ r,K r/\IS s54 a r:=w54.some h hu
theorem some55 {a : St'} {K : St'->Prop} (h : g55 IS a K) (hu : ∀ r,K r->unpack aJ (gC s55) r fun _=>True) : ∃ r,K r/\IS s55 a r:=w55.some h hu
section
variable {p : ProgT} {q : IdT->Prop}
def BdIs (p : ProgT) (e : Ex) : Prop:=∀ kn,tH p kn->∃ kn',tH p kn'/\IS s55 [e.enc,pgL p,knD kn] [[vI (hO (dV p) e)],pgL p,knD kn']
theorem yS (hl : p.defs.length<=1000000000000000) (hq : ∀ r,q r->OfIs p (aj p r)/\(aj p r).id = r) : ∀ e : Ex,dN q e->e.size<=100000000000->BdIs p e
 | e,hc,hs=>fun kn hkn=>by
  suffices main : g55 IS [e.enc,pgL p,knD kn] (fun r=>∃ kn',tH p kn'/\r = [[vI (hO (dV p) e)],pgL p,knD kn']) by
   obtain ⟨r,⟨kn',h1,rfl⟩,h2⟩:=some55 main (by rintro r ⟨kn',_,rfl⟩;exact trivial)
   exact ⟨kn',h1,h2⟩
  unfold g55
  have hM:=yb p p.defs.length
  rw [Db] at hc
  have he:=bndE_eq (dV p) e
  have h4:=Ex.size_eq e
  have h5:=kV e.kids
  simp only [pmr,knD]
  refine di [[vI 1],[vI 0],[vB (decide (e.kind = 5\/e.kind = 10))],pgL p,e.enc,knD kn] ?_ ?_
  ·refine ⟨fun h=>by rw [decide_eq_true (.inl h)];rfl,fun h=>?_⟩
   rw [decide_eq_decide.2 (show e.kind = 10↔e.kind = 5\/e.kind = 10 by omega)]
   rfl
  simp only [pmr,knD]
  refine lT (σ:=Nat×Int×Int×List (IdT×Int)) (fun y=>[[vI y.2.1],[vI y.2.2.1],[vB (decide (e.kind = 5\/e.kind = 10))],[.sl e.kids.length 15 (e.kids.flatMap Ex.enc)],[vI (e.kids.length : Nat)],[vI (y.1 : Nat)],pgL p,e.enc,knD y.2.2.2]) (fun y=>e.kids.length - y.1)
   (fun y=>y.1<=e.kids.length/\jF (dV p) e.kind e.kids 0 1 0 = jF (dV p) e.kind (e.kids.drop y.1) y.1 y.2.1 y.2.2.1/\(0<=y.2.1/\y.2.1<=1099511627776)/\(0<=y.2.2.1/\y.2.2.1<=1099511627776)/\tH p y.2.2.2) (0,1,0,kn) ⟨Nat.zero_le _,rfl,(show (0 : Int)<=1/\(1 : Int)<=1099511627776 by decide),(show (0 : Int)<=0/\(0 : Int)<=1099511627776 by decide),hkn⟩ rfl ?_
  rintro ⟨i,a,b,kn1⟩ next ⟨hi,hI,ha,hb,hk1⟩ hn
  dsimp only at hi hI ha hb hk1 hn ⊢
  simp only [pmr,pms,knD]
  refine ⟨fun h=>?_,fun h=>?_⟩
  ·have hk : i < e.kids.length:=by omega
   have hkid:=List.getElem_mem hk
   have hsz:=Ex.dy hkid
   rw [FX _ _ _ _ hk] at hI
   have hv:=w5 (M:=dV p) hM e.kids[i]
   unfold qA at hv
   rw [BE _ hk]
   obtain ⟨kn2,hk2,hcall⟩:=yS hl hq _ ((lK _ _).1 hc.2 _ hkid) (by omega) kn1 hk1
   refine ⟨by omega,ai hcall ?_⟩
   simp only [pmr,knD]
   generalize hO (dV p) e.kids[i] = v at hI hv ⊢
   have okv : okI (a+v)\/v < 0:=by unfold okI;omega
   refine ⟨fun hv0=>?_,fun hv0=>?_⟩
   ·rw [if_pos hv0] at hI
    rw [hI] at he
    refine ⟨kn2,hk2,?_⟩
    rw [he,ite_self]
   ·rw [if_neg hv0] at hI
    have ok:=okv.resolve_right hv0
    have sumC : ¬ (0 < i/\(e.kind = 5\/e.kind = 10))->okI (a+v)/\caK IS s56 [[vI (a+v)]] fun r=>aa (cell (ent r 0) 0) fun z=>okI ((i : Int)+1)/\next [[vI z],[vI b],[vB (decide (e.kind = 5\/e.kind = 10))],[.sl e.kids.length 15 (e.kids.flatMap Ex.enc)],[vI (e.kids.length : Nat)],[vI ((i : Int)+1)],pgL p,e.enc,knD kn2]:=fun hnc=>by
     rw [if_neg hnc] at hI
     refine ⟨ok,ai (yL _) ?_⟩
     have hcl:=tc (z:=a+v) (by omega)
     exact ⟨by unfold okI;omega,hn (i+1,fP (a+v),b,kn2) (by dsimp only;omega) ⟨hk,hI,hcl,hb,hk2⟩⟩
    have maxC : (0 < i/\(e.kind = 5\/e.kind = 10))->okI ((i : Int)+1)/\next [[vI a],[vI (max b v)],[vB (decide (e.kind = 5\/e.kind = 10))],[.sl e.kids.length 15 (e.kids.flatMap Ex.enc)],[vI (e.kids.length : Nat)],[vI ((i : Int)+1)],pgL p,e.enc,knD kn2]:=fun hc2=>by
     rw [if_pos hc2] at hI
     exact ⟨by unfold okI;omega,hn (i+1,a,max b v,kn2) (by dsimp only;omega) ⟨hk,hI,ha,by dsimp only;omega,hk2⟩⟩
    refine ⟨fun hch=>⟨fun h0=>maxC ⟨by omega,hch⟩,fun h0=>sumC (by omega)⟩,fun hch=>sumC (fun hh=>hch hh.2)⟩
  ·obtain rfl : i = e.kids.length:=by omega
   rw [List.drop_length,jF] at hI
   rw [hI] at he
   dsimp only at he
   have fin : ∀ (z : Int) (kn2 : List (IdT×Int)),tH p kn2->z = (if e.kind = 3 then dV p e.ref else b)->qA z->(e.kind = 12->∃ kn',tH p kn'/\[[vI (-1)],pgL p,knD kn2] = [[vI (hO (dV p) e)],pgL p,knD kn'])/\(¬ e.kind = 12->(z < 0->∃ kn',tH p kn'/\[[vI (-1)],pgL p,knD kn2] = [[vI (hO (dV p) e)],pgL p,knD kn'])/\(¬ z < 0->okI (a+z)/\caK IS s56 [[vI (a+z)]] fun r=>aa (cell (ent r 0) 0) fun z=>∃ kn',tH p kn'/\[[vI z],pgL p,knD kn2] = [[vI (hO (dV p) e)],pgL p,knD kn'])):=fun z kn2 hk2 hz hzb=>by
    rw [<-hz] at he
    unfold qA at hzb
    refine ⟨fun k12=>⟨kn2,hk2,by rw [he,if_pos k12]⟩,fun k12=>?_⟩
    rw [if_neg k12] at he
    refine ⟨fun hz0=>⟨kn2,hk2,by rw [he,if_pos hz0]⟩,fun hz0=>⟨by unfold okI;omega,ai (yL _) ⟨kn2,hk2,?_⟩⟩⟩
    rw [he,if_neg hz0]
   refine ja ?_
   refine ⟨fun k3=>ai (wR p e.ref hl) ?_,fun k3=>?_⟩
   ·simp only [pmr]
    obtain ⟨hof,hid⟩:=hq _ (hc.1 k3)
    obtain ⟨kn2,hk2,hcall⟩:=hof kn1 hk1
    rw [hid] at hcall
    refine ai hcall ?_
    simp only [pmr,knD]
    exact fin _ kn2 hk2 (by rw [if_pos k3]) (hM _)
   ·simp only [pmr]
    exact fin b kn1 hk1 (by rw [if_neg k3]) (.inr hb)
 termination_by e=>e.size
end
theorem of_isE {p : ProgT} {d : DefT} (hd : dV p d.id = hO (dV p) d.body) (hb : BdIs p d.body) : OfIs p d:=fun kn hkn=>by
 suffices main : g54 IS [d.enc,knD kn,pgL p] (fun r=>∃ kn',tH p kn'/\r = [[vI (dV p d.id)],knD kn',pgL p]) by
  obtain ⟨r,⟨kn',h1,rfl⟩,h2⟩:=some54 main (by rintro r ⟨kn',_,rfl⟩;exact trivial)
  exact ⟨kn',h1,h2⟩
 unfold g54
 simp only [pmr,pms,knD]
 rw [qU]
 cases hf : kn.find? fun x=>decide (d.id = x.1) with
 | none =>
  show ifK (!false) _ _
  obtain ⟨kn2,hk2,hcall⟩:=hb kn hkn
  refine ai hcall ?_
  simp only [pmr,knD]
  rw [<-hd]
  cases hf2 : kn2.find? fun x=>decide (d.id = x.1) with
  | none =>
   refine ⟨kn2++[(d.id,dV p d.id)],fun y hy=>?_,?_⟩
   ·rcases List.mem_append.1 hy with hy | hy
    ·exact hk2 y hy
    ·rw [List.mem_singleton.1 hy]
   ·rw [kn_len _ _ hf2,EY _ _ _ hf2,List.length_append]
    rfl
  | some x =>
   have hx : d.id = x.1:=by simpa using List.find?_some hf2
   have hm:=hk2 x (List.mem_of_find?_eq_some hf2)
   refine ⟨kn2,hk2,?_⟩
   rw [kn_slen _ _ hf2,Br _ _ _ _ hf2 (by rw [hm,hx])]
 | some x =>
  show ifK (!true) _ _
  refine ⟨kn,hkn,?_⟩
  have hx : d.id = x.1:=by simpa using List.find?_some hf
  have hm:=hkn x (List.mem_of_find?_eq_some hf)
  rw [hx,<-hm]
  rfl
def vlK (l : List Val) : D:=.sl l.length 3 (l.flatMap Val.enc)
mutual
theorem dep_le : ∀ v : Val,v.depth<=v.size
 | .mk k n l=>by rw [Val.depth,Val.size];have:=wQ l;omega
theorem wQ : ∀ l : List Val,Val.aV l<=Val.sizes l
 | []=>by simp [Val.aV]
 | v::vs=>by rw [Val.aV,Val.sizes];have:=dep_le v;have:=wQ vs;omega
end
theorem Fy (v : Val) : v.size<=1152921504606846976->IS vV [v.enc] [[vI (v.size : Int)]]:=by
 refine Val.vZ (p:=fun v=>v.size<=1152921504606846976->IS vV [v.enc] [[vI (v.size : Int)]]) (fun v ih hv=>?_) v
 refine w103.is ?_
 unfold g103
 rw [Val.ay]
 have he:=Val.size_eq v
 have h3:=ef v.kids
 simp only [pmr]
 refine cz v.kids.length (fun j=>[[vI (1+(Val.sizes (v.kids.take j) : Int))],[vlK v.kids],[vI (v.kids.length : Int)],[vI (j : Int)]]) (fun _=>True) trivial (by simp [Val.sizes];rfl) fun j next hj _ hn=>?_
 unfold vlK at hn ⊢
 simp only [pmr]
 refine ⟨fun h=>⟨by omega,?_⟩,fun h=>?_⟩
 ·have hlt : j < v.kids.length:=by omega
  have hm:=Val.bW (List.getElem_mem hlt)
  have h1:=Val.iA v.kids j hlt
  have h2:=Val.fe v.kids (j+1)
  rw [kD _ hlt]
  refine ai (ih _ (List.getElem_mem hlt) (by omega)) ?_
  simp only [pmr]
  unfold okI
  refine ⟨by omega,by omega,?_⟩
  have:=hn hlt trivial
  rw [h1] at this
  push_cast at this
  rw [<-Int.add_assoc] at this
  exact this
 ·have : j = v.kids.length:=by omega
  subst this
  rw [List.take_length,he]
  push_cast
  rfl
theorem edep_is (v : Val) : v.size<=1152921504606846976->IS Cg [v.enc] [[vI (v.depth : Int)]]:=by
 refine Val.vZ (p:=fun v=>v.size<=1152921504606846976->IS Cg [v.enc] [[vI (v.depth : Int)]]) (fun v ih hv=>?_) v
 refine w104.is ?_
 unfold g104
 rw [Val.ay]
 have he:=Val.size_eq v
 have hd:=Val.sZ v
 have h3:=ef v.kids
 have hds : Val.aV v.kids<=Val.sizes v.kids:=wQ v.kids
 simp only [pmr]
 refine cz v.kids.length (fun j=>[[vI (Val.aV (v.kids.take j) : Int)],[vlK v.kids],[vI (v.kids.length : Int)],[vI (j : Int)]]) (fun _=>True) trivial (by simp [Val.aV];rfl) fun j next hj _ hn=>?_
 unfold vlK at hn ⊢
 simp only [pmr]
 refine ⟨fun h=>⟨by omega,?_⟩,fun h=>?_⟩
 ·have hlt : j < v.kids.length:=by omega
  have hm:=Val.bW (List.getElem_mem hlt)
  have h1:=Val.qp v.kids j hlt
  rw [kD _ hlt]
  refine ai (ih _ (List.getElem_mem hlt) (by omega)) ?_
  simp only [pmr]
  unfold okI
  refine ⟨by omega,?_⟩
  have:=hn hlt trivial
  rw [h1] at this
  rw [show max ((Val.aV (v.kids.take j) : Nat) : Int) ((v.kids[j].depth : Nat) : Int) = ((max (Val.aV (v.kids.take j)) v.kids[j].depth : Nat) : Int) by omega]
  exact this
 ·have : j = v.kids.length:=by omega
  subst this
  rw [List.take_length,hd]
  unfold okI
  exact ⟨by omega,rfl⟩
theorem Ez (z : Int) : IS DM [[vI z]] [[vB false]]:=by
 refine w100.is ?_
 unfold g100
 simp only [pmr,decide_true,Bool.not_true]
theorem wW (a b : Int) : IS s69 [[vI a],[vI b]] [[vI (eS a b)]]:=by
 refine w69.is ?_
 unfold g69
 simp only [pmr]
 refine ai (Ez a) ?_
 simp only [pmr]
 refine ai (Ez b) ?_
 simp only [pmr]
 unfold eS
 exact ⟨fun h=>by rw [if_pos h],fun h=>⟨fun h2=>by rw [if_neg h,if_pos h2],fun h2=>by rw [if_neg h,if_neg h2]⟩⟩
theorem or_is (a b c : Int) : IS s68 [[.sl 3 1 [vI a,vI b,vI c]]] [[vI (if a ≠ 0 then a else if b ≠ 0 then b else c)]]:=by
 refine w68.is ?_
 unfold g68
 simp only [pmr]
 refine cz 3 (fun j=>[[vI 0],[.sl 3 1 [vI a,vI b,vI c]],[vI 3],[vI (j : Int)]]) (fun j=>(0 < j->a = 0)/\(1 < j->b = 0)/\(2 < j->c = 0)) ⟨fun h=>by omega,fun h=>by omega,fun h=>by omega⟩ rfl fun j next hj hI hn=>?_
 simp only [pmr]
 have e0 : el [vI a,vI b,vI c] 1 0 = [vI a]:=rfl
 have e1 : el [vI a,vI b,vI c] 1 1 = [vI b]:=rfl
 have e2 : el [vI a,vI b,vI c] 1 2 = [vI c]:=rfl
 refine ⟨fun h=>⟨by omega,?_⟩,fun h=>?_⟩
 ·have : j = 0\/j = 1\/j = 2:=by omega
  rcases this with rfl | rfl | rfl
  ·rw [e0]
   simp only [pmr,pms]
   exact ⟨fun z=>⟨by unfold okI;omega,hn (by omega) ⟨fun _=>z,fun h=>by omega,fun h=>by omega⟩⟩,fun z=>by rw [if_pos z]⟩
  ·rw [e1]
   simp only [pmr,pms]
   have ha:=hI.1 (by omega)
   exact ⟨fun z=>⟨by unfold okI;omega,hn (by omega) ⟨fun _=>ha,fun _=>z,fun h=>by omega⟩⟩,fun z=>by rw [if_neg (by omega),if_pos z]⟩
  ·rw [e2]
   simp only [pmr,pms]
   have ha:=hI.1 (by omega)
   have hb:=hI.2.1 (by omega)
   exact ⟨fun z=>⟨by unfold okI;omega,hn (by omega) ⟨fun _=>ha,fun _=>hb,fun _=>z⟩⟩,fun z=>by rw [if_neg (by omega),if_neg (by omega)]⟩
 ·rw [hI.1 (by omega),hI.2.1 (by omega),hI.2.2 (by omega)]
  rfl
theorem ecmp_is (a : Val) : ∀ b : Val,a.size<=1000000000000000->IS s32 [a.enc,b.enc] [[vI (jD a b)]]:=by
 refine Val.vZ (p:=fun a=>∀ b : Val,a.size<=1000000000000000->IS s32 [a.enc,b.enc] [[vI (jD a b)]]) (fun a ih b ha=>?_) a
 refine w32.is ?_
 unfold g32
 have hc:=wU a b
 rw [Val.ay a,Val.ay b]
 simp only [pmr]
 refine ai (wW _ _) ?_
 simp only [pmr]
 refine ai (wW _ _) ?_
 simp only [pmr]
 refine ai (wW _ _) ?_
 simp only [pmr]
 refine ai (or_is _ _ _) ?_
 simp only [pmr,pms]
 have hls:=ef a.kids
 have hse:=Val.size_eq a
 refine ⟨fun h=>?_,fun h=>?_⟩
 ·have z : eS a.kind b.kind = 0/\eS a.n b.n = 0/\eS a.kids.length b.kids.length = 0:=by
   split at h
   ·exact absurd h ‹_›
   ·split at h
    ·exact absurd h ‹_›
    ·exact ⟨by omega,by omega,h⟩
  rw [z.1,z.2.1,z.2.2,if_neg (by decide),if_neg (by decide),if_neg (by decide)] at hc
  have hl : a.kids.length = b.kids.length:=by
   have:=z.2.2
   unfold eS at this
   split at this
   ·omega
   ·split at this <;> omega
  suffices hk : IS s70 [[vlK a.kids],[vlK b.kids]] [[vI (gO a.kids b.kids)]] by
   refine ai hk ?_
   rw [<-hc]
   rfl
  refine w70.is ?_
  unfold g70 vlK
  simp only [pmr]
  refine cz a.kids.length (fun j=>[[vlK a.kids],[vlK b.kids],[vlK a.kids],[vI (a.kids.length : Int)],[vI (j : Int)]]) (fun j=>∀ i (h : i < a.kids.length) (h2 : i < b.kids.length),i < j->jD a.kids[i] b.kids[i] = 0) (fun _ _ _ h=>absurd h (Nat.not_lt_zero _)) rfl fun j next hj hI hn=>?_
  unfold vlK at hn ⊢
  simp only [pmr]
  refine ⟨fun h=>?_,fun h=>?_⟩
  ·have hlt : j < a.kids.length:=by omega
   have hlt' : j < b.kids.length:=by omega
   have hm:=Val.bW (List.getElem_mem hlt)
   refine ⟨by omega,fun c=>absurd c (by omega),fun _=>⟨by omega,?_⟩⟩
   rw [kD _ hlt,kD _ hlt']
   refine ai (ih _ (List.getElem_mem hlt) _ (by omega)) ?_
   simp only [pmr,pms]
   refine ⟨fun h0=>⟨by unfold okI;omega,hn hlt fun i h1 h2 h3=>?_⟩,fun h0=>?_⟩
   ·by_cases e : i = j
    ·subst e;exact h0
    ·exact hI i h1 h2 (by omega)
   ·rw [pR hlt hlt' (fun i h1 h2 h3=>hI i h1 h2 h3) h0]
  ·rw [nK hl fun i h1 h2=>hI i h1 h2 (by omega)]
   exact ⟨fun c=>absurd c (by omega),fun _=>rfl⟩
 ·rw [hc]
  split
  ·rfl
  ·split
   ·rfl
   ·split
    ·rfl
    ·rename_i h1 h2 h3
     rw [if_neg h1,if_neg h2] at h
     exact absurd h h3
theorem lO {p : Prop} [Decidable p] {b : Bool} (h : b = true↔p) : ([[vB b]] : St') = [[vB (decide p)]]:=by cases b <;> simp_all
theorem k_cell (v : Val) : cell v.enc 0 = an v.kind:=by rw [Val.ay];rfl
theorem n_cell (v : Val) : cell v.enc 1 = an v.n:=by rw [Val.ay];rfl
theorem uO (v : Val) : cell v.enc 2 = vlK v.kids:=by rw [Val.ay];rfl
theorem B1 {v : Val} {d s : Int} (h0 : 0<=s) (h : (cJ v d s).1 = true) : 0<=(cJ v d s).2/\(cJ v d s).2<=s:=by
 have h1:=mX v d s h0
 have h2:=h1.1.1 h
 have h3:=h1.2 h
 omega
theorem Dl (v : Val) : ∀ (d s : Int),v.size<=1000000000000000->0<=s->s<=1000000->0<=d->d<=25->IS s95 [v.enc,[vI d],[vI s]] [[vB (cJ v d s).1],[vI (cJ v d s).2]]:=by
 refine Val.vZ (p:=fun v=>∀ (d s : Int),v.size<=1000000000000000->0<=s->s<=1000000->0<=d->d<=25->IS s95 [v.enc,[vI d],[vI s]] [[vB (cJ v d s).1],[vI (cJ v d s).2]]) (fun v ih d s hv h0 h1 h2 h3=>?_) v
 have hse:=Val.size_eq v
 have hls:=ef v.kids
 rw [B2]
 have not_is : ∀ x∈v.kids,∀ s,0<=s->s<=1000000->d<=24->IS s97 [x.enc,[vI d],[vI s]] [[vB (!(cJ x (d+1) s).1)],[vI d],[vI (cJ x (d+1) s).2]]:=fun x hx s h0 h1 h4=>by
  have hm:=Val.bW hx
  refine w97.is ?_
  unfold g97
  simp only [pmr]
  refine ⟨by unfold okI;omega,ai (ih x hx (d+1) s (by omega) h0 h1 (by omega) (by omega)) ?_⟩
  simp only [pmr]
 have ix_is : ∀ s,0<=s->s<=1000000->d<=24->∃ r,(∃ k : Int,(0<=k↔(dr v.kids (d+1) s).1 = false)/\r = [[vI k],[vI d],[vI (dr v.kids (d+1) s).2]])/\IS s109 [[vlK v.kids],[vI d],[vI s]] r:=fun s h0 h1 h4=>by
  refine w109.some ?_ (by rintro r ⟨k,_,rfl⟩;exact trivial)
  unfold g109 vlK
  simp only [pmr]
  refine lT (σ:=Nat×Int) (fun x=>[[vlK v.kids],[vI (v.kids.length : Int)],[vI (x.1 : Int)],[vI d],[vI x.2]]) (fun x=>v.kids.length - x.1) (fun x=>x.1<=v.kids.length/\0<=x.2/\x.2<=1000000/\dr v.kids (d+1) s = dr (v.kids.drop x.1) (d+1) x.2) (0,s) ⟨Nat.zero_le _,h0,h1,rfl⟩ rfl ?_
  rintro ⟨j,s1⟩ next ⟨q1,q2,q3,q4⟩ hn
  dsimp only at q1 q2 q3 q4 hn
  unfold vlK at hn ⊢
  simp only [pmr]
  refine ⟨fun h=>?_,fun h=>?_⟩
  ·have hlt : j < v.kids.length:=by omega
   rw [kD _ hlt]
   rw [List.drop_eq_getElem_cons hlt,dr] at q4
   refine ⟨by omega,ai (not_is _ (List.getElem_mem hlt) s1 q2 q3 h4) ?_⟩
   simp only [pmr]
   cases hb : (cJ v.kids[j] (d+1) s1).1 with
   | true =>
    rw [hb,if_pos rfl] at q4
    have:=B1 q2 hb
    exact ⟨by unfold okI;omega,hn (j+1,(cJ v.kids[j] (d+1) s1).2) (by show v.kids.length - (j+1) < v.kids.length - j;omega) ⟨by show j+1<=_;omega,this.1,by show (cJ v.kids[j] (d+1) s1).2<=_;omega,q4⟩⟩
   | false =>
    rw [hb,if_neg (by decide)] at q4
    rw [q4]
    exact ⟨j,⟨fun _=>rfl,fun _=>by omega⟩,rfl⟩
  ·obtain rfl : j = v.kids.length:=by omega
   rw [List.drop_length,dr] at q4
   rw [q4]
   exact ⟨-1,⟨fun h=>absurd h (by decide),fun h=>by cases h⟩,rfl⟩
 refine w95.is ?_
 unfold g95
 simp only [pmr,uO]
 refine ⟨by unfold okI;omega,fun c1=>⟨fun c2=>?_,fun c2=>by rw [if_neg (fun c=>c2 c.2)]⟩,fun c1=>by rw [if_neg (fun c=>c1 c.1)]⟩
 rw [if_pos ⟨c1,c2⟩]
 obtain ⟨r,⟨k,hk,rfl⟩,hr⟩:=ix_is (s - 1) c1 (by omega) c2
 have h96 : IS s96 [[vlK v.kids],[vI d],[vI (s - 1)]] [[vB (decide (0<=k))],[vI d],[vI (dr v.kids (d+1) (s - 1)).2]]:=by
  refine w96.is ?_
  unfold g96
  simp only [pmr]
  refine ai hr ?_
  simp only [pmr]
 refine ai h96 ?_
 simp only [pmr]
 cases hb : (dr v.kids (d+1) (s - 1)).1 with
 | true=>rw [decide_eq_false (fun h=>by rw [hk.1 h] at hb;cases hb)];rfl
 | false=>rw [decide_eq_true (hk.2 hb)];rfl
theorem DB (v : Val) (h : v.size<=1000000000000000) : IS s66 [v.enc] [[vB (decide (m8 v))]]:=by
 refine w66.is ?_
 unfold g66
 simp only [pmr]
 refine ai (Dl v 1 256 h (by decide) (by decide) (by decide) (by decide)) ?_
 simp only [pmr]
 exact lO Iff.rfl
theorem vK {p : ProgT} (hp : p.defs.length<=1000000000000000) (t : Ty) : IS s98 [pgL p,t.enc] [[vB (decide (bg p t))]]:=by
 refine w98.is ?_
 unfold g98
 refine lT (σ:=Nat×Ty) (fun x=>[[vI ((x.1 : Int)+1)],pgL p,x.2.enc]) (fun x=>24 - x.1) (fun x=>x.1<=24/\cP p 24 t = cP p (24 - x.1) x.2) (0,t) ⟨Nat.zero_le _,rfl⟩ rfl ?_
 rintro ⟨j,u⟩ next ⟨h1,h2⟩ hn
 dsimp only at h1 h2 hn
 have ht : bg p t↔cP p (24 - j) u = true:=by unfold bg;rw [h2]
 have hid : ∀ i : IdT,(i.shop = 0/\i.seq = 0/\i.index = 0)↔i = id0:=fun i=>by
  constructor
  ·rintro ⟨a,b,c⟩;exact IdT.ext' a b c
  ·rintro rfl;exact ⟨rfl,rfl,rfl⟩
 simp only [pmr,pms]
 refine ⟨fun hj=>ja ?_,fun hj=>?_⟩
 ·obtain ⟨m,hm⟩ : ∃ m,24 - j = m+1:=⟨23 - j,by omega⟩
  rw [hm] at ht
  have one : u.kind ≠ 2->u.kind ≠ 3->(u.kind = 0\/u.kind = 1)->(u.df.shop = 0/\u.df.seq = 0/\u.df.index = 0->[[vB (decide ((u.kids.length : Int) = 0))]] = [[vB (decide (bg p t))]])/\(¬ (u.df.shop = 0/\u.df.seq = 0/\u.df.index = 0)->([[vB false]] : St') = [[vB (decide (bg p t))]]):=fun k2 k3 k=>by
   have hv:=fB (p:=p) (n:=m) k2 k3
   refine ⟨fun c=>lO ?_,fun c=>lO ?_⟩
   ·rw [ht,hv,decide_eq_true_iff]
    exact ⟨fun h=>⟨by omega,(hid _).1 c,k⟩,fun h=>by omega⟩
   ·rw [ht,hv]
    exact ⟨fun h=>Bool.noConfusion h,fun h=>absurd ((hid _).2 h.2.1) c⟩
  have dfd : u.kind = 3->caK IS s57 [pgL p,u.df.enc] fun r13=>bU (cell (ent r13 1) 0) fun b14=>ifK b14 (aa (cell (ent r13 0) 3) fun z15=>(z15 = 0->[[vB (decide ((u.kids.length : Int) = 0))]] = [[vB (decide (bg p t))]])/\(¬ z15 = 0->aa (cell (ent r13 0) 3) fun z18=>(z18 = 1->[[vB (decide ((u.kids.length : Int) = 0))]] = [[vB (decide (bg p t))]])/\(¬ z18 = 1->([[vB false]] : St') = [[vB (decide (bg p t))]]))) ([[vB false]] = [[vB (decide (bg p t))]]):=fun k3=>by
   have hv:=kP (p:=p) (n:=m) k3
   refine ai (wR p u.df hp) ?_
   simp only [pmr,pms]
   have yes : (aj p u.df).kind = 0\/(aj p u.df).kind = 1->cT p u.df->([[vB (decide ((u.kids.length : Int) = 0))]] : St') = [[vB (decide (bg p t))]]:=fun k h=>lO (by
    rw [ht,hv,decide_eq_true_iff]
    exact ⟨fun c=>⟨⟨h,k⟩,by omega⟩,fun c=>by omega⟩)
   refine ⟨fun h=>⟨fun z=>yes (.inl z) h,fun z=>⟨fun z1=>yes (.inr z1) h,fun z1=>lO ?_⟩⟩,fun h=>lO ?_⟩
   ·rw [ht,hv]
    exact ⟨fun c=>Bool.noConfusion c,fun c=>c.1.2.elim (fun c=>absurd c z) (fun c=>absurd c z1)⟩
   ·rw [ht,hv]
    exact ⟨fun c=>Bool.noConfusion c,fun c=>absurd c.1.1 h⟩
  have lst : u.kind = 2->(u.df.shop = 0/\u.df.seq = 0/\u.df.index = 0->((u.kids.length : Int) = 1->((0 : Int)<=0/\(0 : Int) < (u.kids.length : Int))/\okI ((j : Int)+1+1)/\next [[vI ((j : Int)+1+1)],pgL p,el (u.kids.flatMap Ty.enc) 5 0])/\(¬ (u.kids.length : Int) = 1->([[vB false]] : St') = [[vB (decide (bg p t))]]))/\(¬ (u.df.shop = 0/\u.df.seq = 0/\u.df.index = 0)->([[vB false]] : St') = [[vB (decide (bg p t))]]):=fun k2=>by
   refine ⟨fun c=>⟨fun c1=>⟨by omega,by unfold okI;omega,?_⟩,fun c1=>lO ?_⟩,fun c=>lO ?_⟩
   ·have hk:=xu (p:=p) (n:=m) k2 ((hid _).1 c) (by omega)
    have:=hn (j+1,u.kids[0]'(by omega)) (by show 24 - (j+1) < 24 - j;omega) ⟨by show j+1<=24;omega,by
     show cP p 24 t = cP p (24 - (j+1)) _
     rw [h2,hm,show 24 - (j+1) = m by omega]
     exact Bool.eq_iff_iff.2 hk⟩
    rw [oM u.kids (k:=0) (by omega)]
    exact this
   ·rw [ht]
    exact ⟨fun h=>Bool.noConfusion h,fun h=>absurd (jM k2 h).2 (by omega)⟩
   ·rw [ht]
    exact ⟨fun h=>Bool.noConfusion h,fun h=>absurd ((hid _).2 (jM k2 h).1) c⟩
  have oth : u.kind ≠ 0->u.kind ≠ 1->u.kind ≠ 2->u.kind ≠ 3->([[vB false]] : St') = [[vB (decide (bg p t))]]:=fun k0 k1 k2 k3=>lO (by
   rw [ht,fB (p:=p) (n:=m) k2 k3]
   exact ⟨fun h=>Bool.noConfusion h,fun h=>h.2.2.elim (fun c=>absurd c k0) (fun c=>absurd c k1)⟩)
  simp only [pmr]
  refine ⟨fun k0=>⟨fun _=>one (by omega) (by omega) (.inl k0),fun c=>absurd k0 c⟩,fun k0=>⟨fun k1=>one (by omega) (by omega) (.inr k1),fun k1=>⟨fun k3=>dfd k3,fun k3=>⟨fun k2=>lst k2,fun k2=>oth k0 k1 k2 k3⟩⟩⟩⟩
 ·have hj24 : 24 - j = 0:=by omega
  rw [hj24] at ht
  exact lO (by rw [ht,cP])
theorem fits_is {p : ProgT} (hp : p.defs.length<=1000000000000000) (v : Val) : ∀ t : Ty,v.size<=1000000000000000->IS s67 [pgL p,t.enc,v.enc] [[vB (aH p v t)]]:=by
 refine Val.vZ (p:=fun v=>∀ t : Ty,v.size<=1000000000000000->IS s67 [pgL p,t.enc,v.enc] [[vB (aH p v t)]]) (fun v ih t hv=>?_) v
 have hse:=Val.size_eq v
 have hls:=ef v.kids
 have bb : ∀ {q : Prop} [Decidable q],(q↔aH p v t = true)->([[vB (decide q)]] : St') = [[vB (aH p v t)]]:=fun {q _} h=>by
  cases hb : aH p v t with
  | true=>rw [decide_eq_true (h.2 hb)]
  | false=>rw [decide_eq_false (fun c=>by rw [h.1 c] at hb;cases hb)]
 have bf : ¬ aH p v t = true->([[vB false]] : St') = [[vB (aH p v t)]]:=fun h=>by
  cases hb : aH p v t with
  | true=>exact absurd hb h
  | false=>rfl
 have bt : aH p v t = true->([[vB true]] : St') = [[vB (aH p v t)]]:=fun h=>by rw [h]
 refine w67.is ?_
 unfold g67
 simp only [pmr,pms]
 refine ai (vK hp t) ?_
 simp only [pmr,pms,k_cell,n_cell,uO]
 refine ⟨fun hvt=>?_,fun h=>bf (fun c=>h (Ah c))⟩
 unfold vlK
 simp only [pmr,pms]
 refine ⟨fun k0=>⟨fun a=>⟨fun b=>⟨fun c=>bb ?_,fun c=>bf ?_⟩,fun b=>bf ?_⟩,fun a=>bf ?_⟩,fun k0=>⟨fun k1=>⟨fun a=>⟨fun b=>⟨fun c=>bt ?_,fun c=>bb ?_⟩,fun b=>bf ?_⟩,fun a=>bf ?_⟩,fun k1=>⟨fun k2=>⟨fun a=>⟨fun b=>?_,fun b=>bf ?_⟩,fun a=>bf ?_⟩,fun k2=>?_⟩⟩⟩
 ·rw [sH hvt k0];exact ⟨fun d=>⟨a,by omega,c,d⟩,fun d=>d.2.2.2⟩
 ·rw [sH hvt k0];exact fun d=>c d.2.2.1
 ·rw [sH hvt k0];exact fun d=>b (by omega)
 ·rw [sH hvt k0];exact fun d=>a d.1
 ·rw [yy hvt k1];exact ⟨a,by omega,.inl c⟩
 ·rw [yy hvt k1];exact ⟨fun d=>⟨a,by omega,.inr d⟩,fun d=>d.2.2.elim (fun e=>absurd e c) id⟩
 ·rw [yy hvt k1];exact fun d=>b (by omega)
 ·rw [yy hvt k1];exact fun d=>a d.1
 ·have ho:=zd hvt k2
  have hh : t.kids.headD ty0 = t.kids[0]:=headD_0 (by omega)
  have not_is : ∀ x∈v.kids,IS s99 [x.enc,pgL p,t.enc] [[vB (!(aH p x (t.kids.headD ty0)))],pgL p,t.enc]:=fun x hx=>by
   have hm:=Val.bW hx
   refine w99.is ?_
   unfold g99
   simp only [pmr]
   rw [oM t.kids (k:=0) (by omega),hh]
   refine ⟨by omega,ai (ih x hx t.kids[0] (by omega)) ?_⟩
   simp only [pmr]
  have ix_is : ∃ r,(∃ k : Int,(0<=k↔¬ aH p v t = true)/\r = [[vI k],pgL p,t.enc])/\IS vU [[vlK v.kids],pgL p,t.enc] r:=by
   refine w109_1.some ?_ (by rintro r ⟨k,_,rfl⟩;exact trivial)
   unfold Fb vlK
   simp only [pmr]
   refine cz v.kids.length (fun j=>[[vlK v.kids],[vI (v.kids.length : Int)],[vI (j : Int)],pgL p,t.enc]) (fun j=>∀ i (h : i < v.kids.length),i < j->aH p v.kids[i] (t.kids.headD ty0) = true) (fun _ _ h=>absurd h (Nat.not_lt_zero _)) rfl fun j next hj hI hn=>?_
   unfold vlK at hn ⊢
   simp only [pmr]
   refine ⟨fun h=>?_,fun h=>?_⟩
   ·have hlt : j < v.kids.length:=by omega
    rw [kD _ hlt]
    refine ⟨by omega,ai (not_is _ (List.getElem_mem hlt)) ?_⟩
    simp only [pmr]
    cases hb : aH p v.kids[j] (t.kids.headD ty0) with
    | true =>
     refine ⟨by unfold okI;omega,hn hlt fun i h1 h2=>?_⟩
     by_cases e : i = j
     ·subst e;exact hb
     ·exact hI i h1 (by omega)
    | false =>
     refine ⟨j,⟨fun _=>?_,fun _=>by omega⟩,rfl⟩
     rw [BA hvt k2]
     exact fun d=>by rw [d.2.2 j hlt] at hb;cases hb
   ·refine ⟨-1,⟨fun c=>absurd c (by decide),fun c=>absurd ((BA hvt k2).2 ⟨a,b,fun i hi=>hI i hi (by omega)⟩) c⟩,rfl⟩
  obtain ⟨r,⟨k,hk,rfl⟩,hr⟩:=ix_is
  have h96 : IS A3 [[vlK v.kids],pgL p,t.enc] [[vB (decide (0<=k))],pgL p,t.enc]:=by
   refine w96_1.is ?_
   unfold g96_1
   simp only [pmr]
   refine ai hr ?_
   simp only [pmr]
  refine ai h96 ?_
  simp only [pmr]
  by_cases hf : aH p v t = true
  ·rw [decide_eq_false (fun c=>hk.1 c hf),hf];rfl
  ·rw [decide_eq_true (hk.2 hf)];exact bf hf
 ·rw [BA hvt k2];exact fun d=>b d.2.1
 ·rw [BA hvt k2];exact fun d=>a d.1
 ·refine ai (wR p t.df hp) ?_
  simp only [pmr,pms]
  refine ⟨fun kc=>⟨fun a=>⟨fun b=>⟨fun c=>⟨fun d=>?_,fun d=>bf ?_⟩,fun c=>bf ?_⟩,fun b=>bf ?_⟩,fun a=>bf ?_⟩,fun kc=>⟨fun a=>⟨fun b=>⟨fun c=>?_,fun c=>bf ?_⟩,fun b=>bf ?_⟩,fun a=>bf ?_⟩⟩
  ·have hlt : v.n.toNat < (aj p t.df).slots.length:=by omega
   have hk1 : v.kids.length = 1:=by omega
   have hm:=Val.bW (List.getElem_mem (show 0 < v.kids.length by omega))
   rw [lJ _ hlt,kD v.kids (k:=0) (by omega)]
   simp only [pms]
   refine ⟨by omega,by omega,ai (ih _ (List.getElem_mem (show 0 < v.kids.length by omega)) _ (by omega)) ?_⟩
   simp only [pmr]
   rw [Bool.eq_iff_iff.2 (Fq hvt k0 k1 k2 kc a b hlt hk1)]
  ·rw [sG hvt k0 k1 k2 kc];exact fun h=>d (by omega)
  ·rw [sG hvt k0 k1 k2 kc];exact fun h=>c h.2.1.2
  ·rw [sG hvt k0 k1 k2 kc];exact fun h=>b h.2.1.1
  ·rw [sG hvt k0 k1 k2 kc];exact fun h=>a h.1
  ·have hf:=wL hvt k0 k1 k2 kc (v:=v)
   have hl : v.kids.length = (aj p t.df).slots.length:=by omega
   refine cz v.kids.length (fun j=>[[vlK v.kids],[vI (v.kids.length : Int)],[vI (j : Int)],pgL p,(aj p t.df).enc]) (fun j=>∀ i (h : i < v.kids.length) (h2 : i < (aj p t.df).slots.length),i < j->aH p v.kids[i] (aj p t.df).slots[i].ty = true) (fun _ _ _ h=>absurd h (Nat.not_lt_zero _)) rfl fun j next hj hI hn=>?_
   unfold vlK at hn ⊢
   simp only [pmr,pms]
   refine ⟨fun h=>?_,fun h=>?_⟩
   ·have hlt : j < v.kids.length:=by omega
    have hlt2 : j < (aj p t.df).slots.length:=by omega
    have hm:=Val.bW (List.getElem_mem hlt)
    rw [lJ _ hlt2,kD _ hlt]
    simp only [pms]
    refine ⟨by omega,by omega,ai (ih _ (List.getElem_mem hlt) _ (by omega)) ?_⟩
    simp only [pmr]
    cases hb : aH p v.kids[j] (aj p t.df).slots[j].ty with
    | true =>
     refine ⟨by unfold okI;omega,hn hlt fun i h1 h2 h3=>?_⟩
     by_cases e : i = j
     ·subst e;exact hb
     ·exact hI i h1 h2 (by omega)
    | false =>
     refine bf ?_
     rw [hf]
     exact fun d=>by rw [d.2.2.2 j hlt hlt2] at hb;cases hb
   ·exact bt (hf.2 ⟨a,b,hl,fun i h1 h2=>hI i h1 h2 (by omega)⟩)
  ·rw [wL hvt k0 k1 k2 kc];exact fun h=>c (by omega)
  ·rw [wL hvt k0 k1 k2 kc];exact fun h=>b h.2.1
  ·rw [wL hvt k0 k1 k2 kc];exact fun h=>a h.1
theorem xq {p : ProgT} (hp : p.defs.length<=1000000000000000) {v : Val} {t : Ty} (hv : v.size<=1000000000000000) : IS s28 [pgL p,t.enc,v.enc] [[vB (decide (gI p t v))]]:=by
 refine w28.is ?_
 unfold g28
 simp only [pmr]
 refine ai (DB v hv) ?_
 by_cases hs : m8 v
 ·rw [decide_eq_true hs]
  simp only [pmr]
  refine ai (fits_is hp v t hv) ?_
  simp only [pmr]
  exact lO ⟨fun h=>⟨hs,h⟩,fun h=>h.2⟩
 ·rw [decide_eq_false hs]
  simp only [pmr]
  rw [decide_eq_false (fun c=>hs c.1)]
section
variable {w0 : World} {M : Mem} {Γ : List As}
theorem Bj {ds : List D} {us : List Value} {n : Nat} (hn : ds.length = n) (h : RdL M ds us) (f : Nat->S) (h0 : f 0 = .a n ds) (h1 : ∀ t,f (t+1) = su) : Plain M f [.agg us.toArray]:=fun t=>by
 match t with
 | 0=>exact .inr ⟨_,rfl,by rw [h0];exact ⟨hn,us,rfl,h⟩⟩
 | t+1=>exact .inl (h1 t)
theorem FU (hN : gQ M) (v : Val) (us : List Value) (hz : v.size<=1152921504606846976) (hr : Kn w0 M Γ (RdL M v.enc us)) : aA Tryd.prog w0 M Γ 103 #[.agg us.toArray] (Xe.Is M Γ (av (v.size : Nat))):=by
 refine aA.kn hr fun hr=>?_
 have h : lW Tryd.prog vV _ _:=Fy v hz
 exact gW hN h rfl (Bj (Val.aq _) hr _ rfl fun _=>rfl) (fun _=>rfl) (.inr ⟨rfl,_,rfl⟩) rfl
theorem Df (hN : gQ M) (v : Val) (us : List Value) (hz : v.size<=1152921504606846976) (hr : Kn w0 M Γ (RdL M v.enc us)) : aA Tryd.prog w0 M Γ 104 #[.agg us.toArray] (Xe.Is M Γ (av (v.depth : Nat))):=by
 refine aA.kn hr fun hr=>?_
 have h : lW Tryd.prog Cg _ _:=edep_is v hz
 exact gW hN h rfl (Bj (Val.aq _) hr _ rfl fun _=>rfl) (fun _=>rfl) (.inr ⟨rfl,_,rfl⟩) rfl
theorem BQ (hN : gQ M) (a b : Val) (ua ub : List Value) (hz : a.size<=1000000000000000) (ha : Kn w0 M Γ (RdL M a.enc ua)) (hb : Kn w0 M Γ (RdL M b.enc ub)) : aA Tryd.prog w0 M Γ 32 #[.agg ua.toArray,.agg ub.toArray] (Xe.Is M Γ (av (jD a b))):=by
 refine aA.kn ha fun ha=>?_
 refine aA.kn hb fun hb=>?_
 have h : lW Tryd.prog s32 _ _:=ecmp_is a b hz
 refine gW hN h rfl (fun t=>?_) (fun _=>rfl) (.inr ⟨rfl,_,rfl⟩) rfl
 match t with
 | 0=>exact .inr ⟨_,rfl,Val.aq _,ua,rfl,ha⟩
 | 1=>exact .inr ⟨_,rfl,Val.aq _,ub,rfl,hb⟩
 | t+2=>exact .inl rfl
theorem Dc (hN : gQ M) (p : ProgT) (up : List Value) (t : Ty) (ut : List Value) (v : Val) (uv : List Value) (hz : v.size<=1000000000000000) (hp : Kn w0 M Γ (RdL M p.enc up)) (ht : Kn w0 M Γ (RdL M t.enc ut)) (hv : Kn w0 M Γ (RdL M v.enc uv)) :
  aA Tryd.prog w0 M Γ 28 #[.agg up.toArray,.agg ut.toArray,.agg uv.toArray] (Xe.Is M Γ (.bool (decide (gI p t v)))):=by
 refine aA.kn hp fun hp=>?_
 refine aA.kn ht fun ht=>?_
 refine aA.kn hv fun hv=>?_
 rw [ProgT.ay] at hp
 have hpl : p.defs.length<=1000000000000000:=by
  obtain ⟨u1,us,rfl,_,hp⟩:=hp.kQ
  obtain ⟨u2,us,rfl,hd,_⟩:=hp.kQ
  obtain ⟨a,c,_,_,h1,_⟩:=hd.slice
  omega
 have h : lW Tryd.prog s28 _ _:=xq hpl (t:=t) hz
 refine gW hN h rfl (fun t=>?_) (fun _=>rfl) (.inl ⟨rfl,_,rfl⟩) rfl
 match t with
 | 0=>exact .inr ⟨_,rfl,rfl,up,rfl,hp⟩
 | 1=>exact .inr ⟨_,rfl,Ty.aq _,ut,rfl,ht⟩
 | 2=>exact .inr ⟨_,rfl,Val.aq _,uv,rfl,hv⟩
 | t+3=>exact .inl rfl
end
theorem arr70 : arrB Tryd.prog 70 5 40 1 = true:=by kernel_rfl

theorem func132 : bC Tryd.prog 132 = true:=by kernel_rfl

theorem func133 : bC Tryd.prog 133 = true:=by kernel_rfl

theorem func134 : bC Tryd.prog 134 = true:=by kernel_rfl

theorem func136 : bC Tryd.prog 136 = true:=by kernel_rfl

theorem numF_ok (k : Nat) (hk : k < 5) : bC Tryd.prog (132+k) = true:=by
 have : k = 0\/k = 1\/k = 2\/k = 3\/k = 4:=by omega
 rcases this with rfl | rfl | rfl | rfl | rfl
 · exact func132
 · exact func133
 · exact func134
 · exact func135
 · exact func136
theorem num_of (k : Nat) (hk : k < 5) (w0 : World) (M : Mem) (Γ : List As) (a b : Int) (ha : InR a) (hb : InR b) : aA Tryd.prog w0 M Γ (132+k) #[av a,av b] (Is M Γ (av (Eu k a b))):=by
 have : k = 0\/k = 1\/k = 2\/k = 3\/k = 4:=by omega
 rcases this with rfl | rfl | rfl | rfl | rfl
 · exact add_ok w0 M Γ a b ha hb
 · exact sub_ok w0 M Γ a b ha hb
 · exact Dv w0 M Γ a b ha hb
 · exact vh w0 M Γ a b ha hb
 · exact rest_ok w0 M Γ a b ha hb

set_option maxHeartbeats 2000000 in
theorem op2_ok (w0 : World) (M : Mem) (Γ : List As) (n : Int) (l : List Val) (ul : Value) (r : Val) (hl : Kn w0 M Γ (Rd M (.sl l.length 3 (l.flatMap Val.enc)) ul)) (hnm : gQ M) (hl2 : l.length = 2) (hz0 : (l[0]'OM).size<=100000) (hz1 : (l[1]'OM).size<=100000) (hr : iS n (l[0]'OM) (l[1]'OM) = some r) :
   aA Tryd.prog w0 M Γ 12 #[av n,ul] (oV M Γ fun M' v=>∃ us,v = .agg us.toArray/\RdL M' r.enc us):=by
 refine aA.kn hl fun hl=>?_
 obtain ⟨al,cl,rfl,hcl,hliml,hlenl⟩:=hl.slice
 have hk0:=gZ l[0]
 have hk1:=gZ l[1]
 refine mq (f:=12) Tryd.func12 rfl Tryd.ntmps12 rfl rfl fun w1 hw1=>?_
 refine CW.fV hl ?_
 refine CW.seq fun K1 hK1=>?_
 refine CW.region ?_
 refine RL.alloc _ aZ rfl rfl fun b4=>?_
 refine RL.nil ?_
 refine hK1 _ _ _ ?_
 refine CW.kp [0,1,4] rfl ?_
 refine CW.seq fun K2 hK2=>?_
 refine CW.seq fun K3 hK3=>?_
 refine CW.ju 17 (.bool (decide (0<=n/\n < 5))) ?_ ?_
 ·refine RL.q (Y.move rfl) rfl ?_
  refine RL.qs (Y.geq rfl rfl) rfl (fun g8=>?_) (fun g8=>?_)
  ·refine RL.q (Y.move rfl) rfl ?_
   refine RL.qg WG (Y.move rfl) rfl ?_
   refine RL.qgs WG (Y.lss rfl rfl) rfl (fun g11=>?_) (fun g11=>?_)
   ·refine RL.q (Y.fF rfl rfl) rfl ?_
    refine RL.q (Y.move rfl) rfl ?_
    refine RL.qg WG (Y.move rfl) rfl ?_
    refine RL.qg WG (Y.len rfl Tryd.underlying24) rfl ?_
    refine RL.qg WG (Y.eql rfl rfl) rfl ?_
    refine RL.q (Y.fF rfl rfl) rfl ?_
    refine RL.nil ?_
    exact ⟨gl rfl (fR (by first | omega | (simp;done) | (simp;omega))),(by repeat (first | exact cj.nil _ | refine cj.cons _ rfl ?_)),fun _ hw=>hw.sub SB⟩
   refine RL.q (Y.fF rfl rfl) rfl ?_
   refine RL.q (Y.move rfl) rfl ?_
   refine RL.no WG rfl ?_
   refine RL.no WG rfl ?_
   refine RL.no WG rfl ?_
   refine RL.q (Y.fG rfl rfl) rfl ?_
   refine RL.nil ?_
   exact ⟨gl rfl (fR (by first | omega | (simp;done) | (simp;omega))),(by repeat (first | exact cj.nil _ | refine cj.cons _ rfl ?_)),fun _ hw=>hw.sub SB⟩
  refine RL.q (Y.move rfl) rfl ?_
  refine RL.no WG rfl ?_
  refine RL.no WG rfl ?_
  refine RL.q (Y.fG rfl rfl) rfl ?_
  refine RL.q (Y.move rfl) rfl ?_
  refine RL.no WG rfl ?_
  refine RL.no WG rfl ?_
  refine RL.no WG rfl ?_
  refine RL.q (Y.fG rfl rfl) rfl ?_
  refine RL.nil ?_
  exact ⟨gl rfl (fR (by first | omega | (simp;done) | (simp;omega))),(by repeat (first | exact cj.nil _ | refine cj.cons _ rfl ?_)),fun _ hw=>hw.sub SB⟩
 refine hK3 _ _ _ ?_
 refine CW.ite rfl (fun h1=>?_) (fun h1=>?_)
 ·obtain ⟨kk,rfl⟩:=Int.eq_ofNat_of_zero_le (show 0<=n by omega)
  have hkk : kk < 5:=by omega
  rw [iS,if_pos ⟨by omega,by omega⟩] at hr
  obtain ⟨hin,hr⟩ : (InR l[0].n/\InR l[1].n)/\some (Val.mk 0 (Eu kk l[0].n l[1].n) []) = some r:=by
    split at hr
    · exact ⟨by assumption,hr⟩
    · cases hr
  obtain rfl:=Option.some.inj hr
  refine CW.seq fun K4 hK4=>?_
  refine CW.xO mix (x:=.own _ _ _) PK ?_
  refine HL.take 0 rfl KR KR KR rfl (Y.move rfl) rfl ?_
  refine HL.take 1 rfl KR KR KR rfl (Y.E4 (a:=some ⟨0,0,none⟩) (q:=0) kk rfl rfl rfl hkk arr70) rfl ?_
  refine HL.take 2 rfl KR KR KR rfl (Y.ql rfl (by simpa using hnm kk hkk) flat40) rfl ?_
  refine HL.take 3 rfl KR KR KR rfl (Y.move rfl) rfl ?_
  refine HL.take 4 rfl KR KR KR rfl (Y.index 0 rfl rfl rfl AO en SM) rfl ?_
  refine HL.take 5 rfl KR KR KR rfl (Y.field rfl bM) rfl ?_
  refine HL.take 6 rfl KR KR KR rfl (Y.zR rfl MM (oH Val.aq _ _ _ (List.getElem?_eq_getElem AO) _ _ (by rw [Val.ay] <;> rfl)) cE) rfl ?_
  refine HL.take 7 rfl KR KR KR rfl (Y.move rfl) rfl ?_
  refine HL.take 8 rfl KR KR KR rfl (Y.index 1 rfl rfl rfl AO en SM) rfl ?_
  refine HL.take 9 rfl KR KR KR rfl (Y.field rfl bM) rfl ?_
  refine HL.take 10 rfl KR KR KR rfl (Y.zR rfl MM (oH Val.aq _ _ _ (List.getElem?_eq_getElem AO) _ _ (by rw [Val.ay] <;> rfl)) cE) rfl ?_
  refine HL.step 11 rfl KR ?_
  refine RL.FN rfl (numF_ok kk hkk) rfl rfl rfl (by simpa using num_of kk hkk _ _ _ l[0].n l[1].n hin.1 hin.2) ?_
  refine RL.nil ⟨aQ SB,?_⟩
  refine HL.take 12 rfl KR KR KR rfl (Y.build [_,_,_] rfl aZ cu (by rfl)) rfl ?_
  refine HL.step 13 rfl KR ?_
  refine RL.aG _ rfl rfl RP (by rfl) (by first | (simp;done) | simp [IdT.vals]) (by first | (simp [Value.oneCell'];done) | simp [Value.oneCell',IdT.vals]) aB ?_
  refine RL.nil ⟨aQ SB,?_⟩
  refine HL.done KR ?_
  refine hK4 _ _ _ ?_
  refine CW.kp [4] rfl ?_
  refine CW.ret ?_
  refine aC.mk rfl MM (by rfl) aE (az.drop ⟨Sub.refl _,rfl,_,rfl,?_⟩ SB)
  exact fc _ _
 refine CW.skip ?_
 refine hK2 _ _ _ ?_
 refine CW.seq fun K5 hK5=>?_
 refine CW.block ?_
 refine CW.seq fun K6 hK6=>?_
 refine CW.ju 31 (.bool (decide (n = 9/\l.length = 1))) ?_ ?_
 ·refine RL.q (Y.move rfl) rfl ?_
  refine RL.qs (Y.eql rfl rfl) rfl (fun g33=>?_) (fun g33=>?_)
  ·refine RL.q (Y.move rfl) rfl ?_
   refine RL.qg WG (Y.move rfl) rfl ?_
   refine RL.qg WG (Y.len rfl Tryd.underlying24) rfl ?_
   refine RL.qg WG (Y.eql rfl rfl) rfl ?_
   refine RL.q (Y.fF rfl rfl) rfl ?_
   refine RL.q (Y.assign rfl) rfl ?_
   refine RL.nil ?_
   exact ⟨gl rfl (fR (by first | omega | (simp;done) | (simp;omega))),(by repeat (first | exact cj.nil _ | refine cj.cons _ rfl ?_)),fun _ hw=>hw.sub SB⟩
  refine RL.q (Y.move rfl) rfl ?_
  refine RL.no WG rfl ?_
  refine RL.no WG rfl ?_
  refine RL.no WG rfl ?_
  refine RL.q (Y.fG rfl rfl) rfl ?_
  refine RL.q (Y.assign rfl) rfl ?_
  refine RL.nil ?_
  exact ⟨gl rfl (fR (by first | omega | (simp;done) | (simp;omega))),(by repeat (first | exact cj.nil _ | refine cj.cons _ rfl ?_)),fun _ hw=>hw.sub SB⟩
 refine hK6 _ _ _ ?_
 refine CW.ite rfl (fun h2=>absurd h2 OM) (fun h2=>?_)
 refine CW.seq fun K7 hK7=>?_
 refine CW.ju 45 (.bool (decide (n = 11/\l.length = 1))) ?_ ?_
 ·refine RL.q (Y.move rfl) rfl ?_
  refine RL.qs (Y.eql rfl rfl) rfl (fun g47=>?_) (fun g47=>?_)
  ·refine RL.q (Y.move rfl) rfl ?_
   refine RL.qg WG (Y.move rfl) rfl ?_
   refine RL.qg WG (Y.len rfl Tryd.underlying24) rfl ?_
   refine RL.qg WG (Y.eql rfl rfl) rfl ?_
   refine RL.q (Y.fF rfl rfl) rfl ?_
   refine RL.q (Y.assign rfl) rfl ?_
   refine RL.nil ?_
   exact ⟨gl rfl (fR (by first | omega | (simp;done) | (simp;omega))),(by repeat (first | exact cj.nil _ | refine cj.cons _ rfl ?_)),fun _ hw=>hw.sub SB⟩
  refine RL.q (Y.move rfl) rfl ?_
  refine RL.no WG rfl ?_
  refine RL.no WG rfl ?_
  refine RL.no WG rfl ?_
  refine RL.q (Y.fG rfl rfl) rfl ?_
  refine RL.q (Y.assign rfl) rfl ?_
  refine RL.nil ?_
  exact ⟨gl rfl (fR (by first | omega | (simp;done) | (simp;omega))),(by repeat (first | exact cj.nil _ | refine cj.cons _ rfl ?_)),fun _ hw=>hw.sub SB⟩
 refine hK7 _ _ _ ?_
 refine CW.ite rfl (fun h3=>absurd h3 OM) (fun h3=>?_)
 refine CW.seq fun K8 hK8=>?_
 refine CW.region ?_
 refine RL.q (Y.move rfl) rfl ?_
 refine RL.q (Y.len rfl Tryd.underlying24) rfl ?_
 refine RL.q (Y.neq rfl rfl) rfl ?_
 refine RL.q (Y.assign rfl) rfl ?_
 refine RL.nil ?_
 refine hK8 _ _ _ ?_
 refine CW.kp [0,1,4,59] rfl ?_
 refine CW.ite rfl (fun h4=>absurd h4 OM) (fun h4=>?_)
 refine CW.skip ?_
 refine hK5 _ _ _ ?_
 refine CW.seq fun K9 hK9=>?_
 refine CW.jT mix _ _ (fun _ hw=>hw) ?_
 refine HL.take 0 rfl KR KR KR rfl (Y.move rfl) rfl ?_
 refine HL.take 1 rfl KR KR KR rfl (Y.index 0 rfl rfl rfl AO en SM) rfl ?_
 refine HL.aM 2 rfl KR KR KR rfl rfl MM (Eq.trans (aS Val.aq _ _ _ (List.getElem?_eq_getElem AO)) (Val.ay _)) (by rfl) aE rfl fun us66 hul66 hur66=>?_
 refine HL.take 3 rfl KR KR KR rfl (Y.move rfl) rfl ?_
 refine HL.take 4 rfl KR KR KR rfl (Y.index 1 rfl rfl rfl AO en SM) rfl ?_
 refine HL.aM 5 rfl KR KR KR rfl rfl MM (Eq.trans (aS Val.aq _ _ _ (List.getElem?_eq_getElem AO)) (Val.ay _)) (by rfl) aE rfl fun us69 hul69 hur69=>?_
 refine HL.step2 6 7 rfl rfl KR ?_ ?_
 ·refine RL.alloc _ aZ rfl rfl fun b5=>?_
  refine RL.nil ⟨aQ SB,?_⟩
  refine HL.step 7 rfl KR ?_
  refine RL.alloc _ aZ rfl rfl fun b6=>?_
  refine RL.nil ⟨aQ SB,?_⟩
  refine HL.step 8 rfl KR ?_
  refine RL.aD 3 rfl rfl RP MM EL (by first | exact Kn.bk MM EL | exact Kn.bl rfl) aB ?_
  refine RL.nil ⟨aQ SB,?_⟩
  refine HL.step 9 rfl KR ?_
  refine RL.aD 3 rfl rfl RP MM EL (by first | exact Kn.bk MM EL | exact Kn.bl rfl) aB ?_
  refine RL.nil ⟨aQ SB,?_⟩
  refine HL.done KR ?_
  refine hK9 _ _ _ ?_
  refine CW.kp [0,4,5,6] rfl ?_
  refine CW.seq fun K10 hK10=>?_
  refine CW.seq fun K11 hK11=>?_
  refine CW.region ?_
  refine RL.q (Y.move rfl) rfl ?_
  refine RL.nil ?_
  refine hK11 _ _ _ ?_
  refine CW.kp [4,5,6,70] rfl ?_
  refine CW.block ?_
  refine CW.seq fun K12 hK12=>?_
  refine CW.region ?_
  refine RL.q (Y.eql rfl rfl) rfl ?_
  refine RL.q (Y.assign rfl) rfl ?_
  refine RL.nil ?_
  refine hK12 _ _ _ ?_
  refine CW.kp [4,5,6,70,71] rfl ?_
  refine CW.ite rfl (fun h5=>?_) (fun h5=>?_)
  ·refine CW.seq fun K13 hK13=>?_
   refine CW.region ?_
   refine RL.q (Y.field rfl bM) rfl ?_
   refine RL.q (Y.bh rfl MM MM (by rfl) cE) rfl ?_
   refine RL.q (Y.field rfl bM) rfl ?_
   refine RL.q (Y.bh rfl MM MM (by rfl) cE) rfl ?_
   refine RL.q (Y.lss rfl rfl) rfl ?_
   refine RL.er rfl func31 rfl rfl (by exact cy _ _ _ _) ?_
   refine RL.aG _ rfl rfl RP (by rfl) (by first | (simp;done) | simp [IdT.vals]) (by first | (simp [Value.oneCell'];done) | simp [Value.oneCell',IdT.vals]) aB ?_
   refine RL.nil ?_
   refine hK13 _ _ _ ?_
   refine CW.kp [4] rfl ?_
   refine CW.ret ?_
   rw [iS,if_neg h1,if_pos h5] at hr
   obtain rfl:=Option.some.inj hr
   refine aC.mk rfl MM (by rfl) aE (az.drop ⟨Sub.refl _,rfl,_,rfl,?_⟩ SB)
   exact cw _ (by first | exact decide_eq_true_iff | (simp only [decide_eq_true_eq];omega) | (simp only [true_iff];omega) | (simp only [Bool.false_eq_true,false_iff];omega))
  refine CW.seq fun K14 hK14=>?_
  refine CW.region ?_
  refine RL.q (Y.eql rfl rfl) rfl ?_
  refine RL.q (Y.assign rfl) rfl ?_
  refine RL.nil ?_
  refine hK14 _ _ _ ?_
  refine CW.kp [4,5,6,70,79] rfl ?_
  refine CW.ite rfl (fun h6=>?_) (fun h6=>?_)
  ·refine CW.seq fun K15 hK15=>?_
   refine CW.region ?_
   refine RL.q (Y.bN rfl MM MM EL aE) rfl ?_
   refine RL.q (Y.bN rfl MM MM EL aE) rfl ?_
   refine RL.er rfl func32 rfl rfl (by exact BQ hnm (l[0]'(by omega)) (l[1]'(by omega)) _ _ (by omega) KK KK) ?_
   refine RL.q (Y.eql rfl rfl) rfl ?_
   refine RL.er rfl func31 rfl rfl (by exact cy _ _ _ _) ?_
   refine RL.aG _ rfl rfl RP (by rfl) (by first | (simp;done) | simp [IdT.vals]) (by first | (simp [Value.oneCell'];done) | simp [Value.oneCell',IdT.vals]) aB ?_
   refine RL.nil ?_
   refine hK15 _ _ _ ?_
   refine CW.kp [4] rfl ?_
   refine CW.ret ?_
   rw [iS,if_neg h1,if_neg h5,if_pos h6] at hr
   obtain rfl:=Option.some.inj hr
   refine aC.mk rfl MM (by rfl) aE (az.drop ⟨Sub.refl _,rfl,_,rfl,?_⟩ SB)
   exact cw _ (by first | exact decide_eq_true_iff | (simp only [decide_eq_true_eq];omega) | (simp only [true_iff];omega) | (simp only [Bool.false_eq_true,false_iff];omega))
  refine CW.seq fun K16 hK16=>?_
  refine CW.region ?_
  refine RL.q (Y.eql rfl rfl) rfl ?_
  refine RL.q (Y.assign rfl) rfl ?_
  refine RL.nil ?_
  refine hK16 _ _ _ ?_
  refine CW.kp [4,5,6,70,86] rfl ?_
  refine CW.ite rfl (fun h7=>?_) (fun h7=>?_)
  ·refine CW.seq fun K17 hK17=>?_
   refine CW.region ?_
   refine RL.q (Y.field rfl bM) rfl ?_
   refine RL.q (Y.bh rfl MM MM (by rfl) cE) rfl ?_
   refine RL.qs (Y.neq rfl rfl) rfl (fun g90=>?_) (fun g90=>?_)
   ·refine RL.q (Y.move rfl) rfl ?_
    refine RL.qg WG (Y.field rfl bM) rfl ?_
    refine RL.qg WG (Y.bh rfl MM MM (by rfl) cE) rfl ?_
    refine RL.qg WG (Y.neq rfl rfl) rfl ?_
    refine RL.q (Y.fF rfl rfl) rfl ?_
    refine RL.er rfl func31 rfl rfl (by exact cy _ _ _ _) ?_
    refine RL.aG _ rfl rfl RP (by rfl) (by first | (simp;done) | simp [IdT.vals]) (by first | (simp [Value.oneCell'];done) | simp [Value.oneCell',IdT.vals]) aB ?_
    refine RL.nil ?_
    refine hK17 _ _ _ ?_
    refine CW.kp [4] rfl ?_
    refine CW.ret ?_
    rw [iS,if_neg h1,if_neg h5,if_neg h6,if_pos h7] at hr
    obtain rfl:=Option.some.inj hr
    refine aC.mk rfl MM (by rfl) aE (az.drop ⟨Sub.refl _,rfl,_,rfl,?_⟩ SB)
    exact cw _ (by first | exact decide_eq_true_iff | (simp only [decide_eq_true_eq];omega) | (simp only [true_iff];omega) | (simp only [Bool.false_eq_true,false_iff];omega))
   refine RL.q (Y.move rfl) rfl ?_
   refine RL.no WG rfl ?_
   refine RL.no WG rfl ?_
   refine RL.no WG rfl ?_
   refine RL.q (Y.fG rfl rfl) rfl ?_
   refine RL.er rfl func31 rfl rfl (by exact cy _ _ _ _) ?_
   refine RL.aG _ rfl rfl RP (by rfl) (by first | (simp;done) | simp [IdT.vals]) (by first | (simp [Value.oneCell'];done) | simp [Value.oneCell',IdT.vals]) aB ?_
   refine RL.nil ?_
   refine hK17 _ _ _ ?_
   refine CW.kp [4] rfl ?_
   refine CW.ret ?_
   rw [iS,if_neg h1,if_neg h5,if_neg h6,if_pos h7] at hr
   obtain rfl:=Option.some.inj hr
   refine aC.mk rfl MM (by rfl) aE (az.drop ⟨Sub.refl _,rfl,_,rfl,?_⟩ SB)
   exact cw _ (by first | exact decide_eq_true_iff | (simp only [decide_eq_true_eq];omega) | (simp only [true_iff];omega) | (simp only [Bool.false_eq_true,false_iff];omega))
  refine CW.seq fun K18 hK18=>?_
  refine CW.region ?_
  refine RL.q (Y.eql rfl rfl) rfl ?_
  refine RL.q (Y.assign rfl) rfl ?_
  refine RL.nil ?_
  refine hK18 _ _ _ ?_
  refine CW.kp [4,5,6,70,97] rfl ?_
  refine CW.ite rfl (fun h8=>?_) (fun h8=>?_)
  ·refine CW.seq fun K19 hK19=>?_
   refine CW.region ?_
   refine RL.q (Y.field rfl bM) rfl ?_
   refine RL.q (Y.bh rfl MM MM (by rfl) cE) rfl ?_
   refine RL.qs (Y.neq rfl rfl) rfl (fun g101=>?_) (fun g101=>?_)
   ·refine RL.q (Y.move rfl) rfl ?_
    refine RL.no WG rfl ?_
    refine RL.no WG rfl ?_
    refine RL.no WG rfl ?_
    refine RL.q (Y.fF rfl rfl) rfl ?_
    refine RL.er rfl func31 rfl rfl (by exact cy _ _ _ _) ?_
    refine RL.aG _ rfl rfl RP (by rfl) (by first | (simp;done) | simp [IdT.vals]) (by first | (simp [Value.oneCell'];done) | simp [Value.oneCell',IdT.vals]) aB ?_
    refine RL.nil ?_
    refine hK19 _ _ _ ?_
    refine CW.kp [4] rfl ?_
    refine CW.ret ?_
    rw [iS,if_neg h1,if_neg h5,if_neg h6,if_neg h7,if_pos h8] at hr
    obtain rfl:=Option.some.inj hr
    refine aC.mk rfl MM (by rfl) aE (az.drop ⟨Sub.refl _,rfl,_,rfl,?_⟩ SB)
    exact cw _ (by first | exact decide_eq_true_iff | (simp only [decide_eq_true_eq];omega) | (simp only [true_iff];omega) | (simp only [Bool.false_eq_true,false_iff];omega))
   refine RL.q (Y.move rfl) rfl ?_
   refine RL.qg WG (Y.field rfl bM) rfl ?_
   refine RL.qg WG (Y.bh rfl MM MM (by rfl) cE) rfl ?_
   refine RL.qg WG (Y.neq rfl rfl) rfl ?_
   refine RL.q (Y.fG rfl rfl) rfl ?_
   refine RL.er rfl func31 rfl rfl (by exact cy _ _ _ _) ?_
   refine RL.aG _ rfl rfl RP (by rfl) (by first | (simp;done) | simp [IdT.vals]) (by first | (simp [Value.oneCell'];done) | simp [Value.oneCell',IdT.vals]) aB ?_
   refine RL.nil ?_
   refine hK19 _ _ _ ?_
   refine CW.kp [4] rfl ?_
   refine CW.ret ?_
   rw [iS,if_neg h1,if_neg h5,if_neg h6,if_neg h7,if_pos h8] at hr
   obtain rfl:=Option.some.inj hr
   refine aC.mk rfl MM (by rfl) aE (az.drop ⟨Sub.refl _,rfl,_,rfl,?_⟩ SB)
   exact cw _ (by first | exact decide_eq_true_iff | (simp only [decide_eq_true_eq];omega) | (simp only [true_iff];omega) | (simp only [Bool.false_eq_true,false_iff];omega))
  refine CW.seq fun K20 hK20=>?_
  refine CW.region ?_
  refine RL.q (Y.eql rfl rfl) rfl ?_
  refine RL.q (Y.assign rfl) rfl ?_
  refine RL.nil ?_
  refine hK20 _ _ _ ?_
  refine CW.kp [4,5,6,108] rfl ?_
  refine CW.ite rfl (fun h9=>?_) (fun h9=>?_)
  ·refine CW.seq fun K21 hK21=>?_
   refine CW.region ?_
   refine RL.q (Y.field rfl cX) rfl ?_
   refine RL.aN rfl rfl MM MM (by rfl) fm rfl fun a111 c111 hu111 hc111 hl111=>?_
   refine RL.q (Y.field rfl cX) rfl ?_
   refine RL.aN rfl rfl MM MM (by rfl) fm rfl fun a113 c113 hu113 hc113 hl113=>?_
   refine RL.buildSlice [.slice a111 l[0].kids.length c111,.slice a113 l[1].kids.length c113] FB rfl (by decide) (fill2 rfl rfl rfl rfl) rfl fun b114=>?_
   obtain ⟨js,hjs⟩ : ∃ js,js = l[0].kids++l[1].kids:=⟨_,rfl⟩
   have hjf : [l[0].kids,l[1].kids].flatten = js:=by simp [hjs]
   have hjl : js.length = l[0].kids.length+l[1].kids.length:=by rw [hjs,List.length_append]
   refine RL.call rfl func34 rfl rfl (by exact s9 _ _ _ _ [.slice a111 l[0].kids.length c111,.slice a113 l[1].kids.length c113] [l[0].kids,l[1].kids] (gL.own MM) (RdL.cons (hur66.2 2 _ _ rfl hu111) (RdL.cons (hur69.2 2 _ _ rfl hu113) (RdL.nil _))) (by simp) (by rw [hjf];omega)) ?_
   rintro v115 M _ ⟨a115,c115,vs,rfl,hc115,rfl,hvs,rfl⟩
   rw [hjf] at hc115 hvs ⊢
   refine RL.gp (u:=.slice a115 js.length c115) PK hvs (by unfold lim;omega) fun M3 a3 c3 hs3 e3 hc3 hr3=>?_
   injection e3 with e3a _ e3c
   subst e3a e3c
   refine RL.call rfl func33 rfl rfl (by exact pQ 100000 _ _ _ js _ (fun v hv=>by rw [hjs] at hv;rcases List.mem_append.1 hv with h | h <;> (have:=Val.dy h;omega)) OM OM (by exact Kn.rd MM)) ?_
   rintro v116 M116 _ ⟨hs116,rfl,hr116⟩
   obtain ⟨a116,c116,rfl,hc116,hl116,_⟩:=hr116.slice
   refine RL.fV hr116 ?_
   refine RL.q (Y.build [_,_,_] rfl aZ cu (by rfl)) rfl ?_
   refine RL.aG _ rfl rfl RP (by rfl) (by first | (simp;done) | simp [IdT.vals]) (by first | (simp [Value.oneCell'];done) | simp [Value.oneCell',IdT.vals]) aB ?_
   refine RL.nil ?_
   refine hK21 _ _ _ ?_
   refine CW.kp [4] rfl ?_
   refine CW.ret ?_
   rw [iS,if_neg h1,if_neg h5,if_neg h6,if_neg h7,if_neg h8,if_pos h9,<-hjs] at hr
   obtain rfl:=Option.some.inj hr
   exact aC.mk rfl MM (by rfl) aE (az.drop ⟨hs3.trans hs116,rfl,_,rfl,j0 4 0 js hr116⟩ SB)
  refine CW.skip ?_
  refine hK10 _ _ _ ?_
  refine CW.seq fun K22 hK22=>?_
  refine CW.region ?_
  refine RL.q (Y.build [_,_,_] rfl aZ cu (by rfl)) rfl ?_
  refine RL.aG _ rfl rfl RP (by rfl) (by first | (simp;done) | simp [IdT.vals]) (by first | (simp [Value.oneCell'];done) | simp [Value.oneCell',IdT.vals]) aB ?_
  refine RL.nil ?_
  refine hK22 _ _ _ ?_
  refine CW.kp [4] rfl ?_
  refine CW.ret ?_
  rw [iS,if_neg h1,if_neg h5,if_neg h6,if_neg h7,if_neg h8,if_neg h9] at hr
  obtain rfl:=Option.some.inj hr
  refine aC.mk rfl MM (by rfl) aE (az.drop ⟨Sub.refl _,rfl,_,rfl,?_⟩ SB)
  exact fc 0 0
 refine RL.alloc _ aZ rfl rfl fun b6=>?_
 refine RL.nil ⟨aQ SB,?_⟩
 refine HL.step 6 rfl KR ?_
 refine RL.alloc _ aZ rfl rfl fun b5=>?_
 refine RL.nil ⟨aQ SB,?_⟩
 refine HL.step 8 rfl KR ?_
 refine RL.aD 3 rfl rfl RP MM EL (by first | exact Kn.bk MM EL | exact Kn.bl rfl) aB ?_
 refine RL.nil ⟨aQ SB,?_⟩
 refine HL.step 9 rfl KR ?_
 refine RL.aD 3 rfl rfl RP MM EL (by first | exact Kn.bk MM EL | exact Kn.bl rfl) aB ?_
 refine RL.nil ⟨aQ SB,?_⟩
 refine HL.done KR ?_
 refine hK9 _ _ _ ?_
 refine CW.kp [0,4,5,6] rfl ?_
 refine CW.seq fun K23 hK23=>?_
 refine CW.seq fun K24 hK24=>?_
 refine CW.region ?_
 refine RL.q (Y.move rfl) rfl ?_
 refine RL.nil ?_
 refine hK24 _ _ _ ?_
 refine CW.kp [4,5,6,70] rfl ?_
 refine CW.block ?_
 refine CW.seq fun K25 hK25=>?_
 refine CW.region ?_
 refine RL.q (Y.eql rfl rfl) rfl ?_
 refine RL.q (Y.assign rfl) rfl ?_
 refine RL.nil ?_
 refine hK25 _ _ _ ?_
 refine CW.kp [4,5,6,70,71] rfl ?_
 refine CW.ite rfl (fun h5=>?_) (fun h5=>?_)
 ·refine CW.seq fun K26 hK26=>?_
  refine CW.region ?_
  refine RL.q (Y.field rfl bM) rfl ?_
  refine RL.q (Y.bh rfl MM MM (by rfl) cE) rfl ?_
  refine RL.q (Y.field rfl bM) rfl ?_
  refine RL.q (Y.bh rfl MM MM (by rfl) cE) rfl ?_
  refine RL.q (Y.lss rfl rfl) rfl ?_
  refine RL.er rfl func31 rfl rfl (by exact cy _ _ _ _) ?_
  refine RL.aG _ rfl rfl RP (by rfl) (by first | (simp;done) | simp [IdT.vals]) (by first | (simp [Value.oneCell'];done) | simp [Value.oneCell',IdT.vals]) aB ?_
  refine RL.nil ?_
  refine hK26 _ _ _ ?_
  refine CW.kp [4] rfl ?_
  refine CW.ret ?_
  rw [iS,if_neg h1,if_pos h5] at hr
  obtain rfl:=Option.some.inj hr
  refine aC.mk rfl MM (by rfl) aE (az.drop ⟨Sub.refl _,rfl,_,rfl,?_⟩ SB)
  exact cw _ (by first | exact decide_eq_true_iff | (simp only [decide_eq_true_eq];omega) | (simp only [true_iff];omega) | (simp only [Bool.false_eq_true,false_iff];omega))
 refine CW.seq fun K27 hK27=>?_
 refine CW.region ?_
 refine RL.q (Y.eql rfl rfl) rfl ?_
 refine RL.q (Y.assign rfl) rfl ?_
 refine RL.nil ?_
 refine hK27 _ _ _ ?_
 refine CW.kp [4,5,6,70,79] rfl ?_
 refine CW.ite rfl (fun h6=>?_) (fun h6=>?_)
 ·refine CW.seq fun K28 hK28=>?_
  refine CW.region ?_
  refine RL.q (Y.bN rfl MM MM EL aE) rfl ?_
  refine RL.q (Y.bN rfl MM MM EL aE) rfl ?_
  refine RL.er rfl func32 rfl rfl (by exact BQ hnm (l[0]'(by omega)) (l[1]'(by omega)) _ _ (by omega) KK KK) ?_
  refine RL.q (Y.eql rfl rfl) rfl ?_
  refine RL.er rfl func31 rfl rfl (by exact cy _ _ _ _) ?_
  refine RL.aG _ rfl rfl RP (by rfl) (by first | (simp;done) | simp [IdT.vals]) (by first | (simp [Value.oneCell'];done) | simp [Value.oneCell',IdT.vals]) aB ?_
  refine RL.nil ?_
  refine hK28 _ _ _ ?_
  refine CW.kp [4] rfl ?_
  refine CW.ret ?_
  rw [iS,if_neg h1,if_neg h5,if_pos h6] at hr
  obtain rfl:=Option.some.inj hr
  refine aC.mk rfl MM (by rfl) aE (az.drop ⟨Sub.refl _,rfl,_,rfl,?_⟩ SB)
  exact cw _ (by first | exact decide_eq_true_iff | (simp only [decide_eq_true_eq];omega) | (simp only [true_iff];omega) | (simp only [Bool.false_eq_true,false_iff];omega))
 refine CW.seq fun K29 hK29=>?_
 refine CW.region ?_
 refine RL.q (Y.eql rfl rfl) rfl ?_
 refine RL.q (Y.assign rfl) rfl ?_
 refine RL.nil ?_
 refine hK29 _ _ _ ?_
 refine CW.kp [4,5,6,70,86] rfl ?_
 refine CW.ite rfl (fun h7=>?_) (fun h7=>?_)
 ·refine CW.seq fun K30 hK30=>?_
  refine CW.region ?_
  refine RL.q (Y.field rfl bM) rfl ?_
  refine RL.q (Y.bh rfl MM MM (by rfl) cE) rfl ?_
  refine RL.qs (Y.neq rfl rfl) rfl (fun g90=>?_) (fun g90=>?_)
  ·refine RL.q (Y.move rfl) rfl ?_
   refine RL.qg WG (Y.field rfl bM) rfl ?_
   refine RL.qg WG (Y.bh rfl MM MM (by rfl) cE) rfl ?_
   refine RL.qg WG (Y.neq rfl rfl) rfl ?_
   refine RL.q (Y.fF rfl rfl) rfl ?_
   refine RL.er rfl func31 rfl rfl (by exact cy _ _ _ _) ?_
   refine RL.aG _ rfl rfl RP (by rfl) (by first | (simp;done) | simp [IdT.vals]) (by first | (simp [Value.oneCell'];done) | simp [Value.oneCell',IdT.vals]) aB ?_
   refine RL.nil ?_
   refine hK30 _ _ _ ?_
   refine CW.kp [4] rfl ?_
   refine CW.ret ?_
   rw [iS,if_neg h1,if_neg h5,if_neg h6,if_pos h7] at hr
   obtain rfl:=Option.some.inj hr
   refine aC.mk rfl MM (by rfl) aE (az.drop ⟨Sub.refl _,rfl,_,rfl,?_⟩ SB)
   exact cw _ (by first | exact decide_eq_true_iff | (simp only [decide_eq_true_eq];omega) | (simp only [true_iff];omega) | (simp only [Bool.false_eq_true,false_iff];omega))
  refine RL.q (Y.move rfl) rfl ?_
  refine RL.no WG rfl ?_
  refine RL.no WG rfl ?_
  refine RL.no WG rfl ?_
  refine RL.q (Y.fG rfl rfl) rfl ?_
  refine RL.er rfl func31 rfl rfl (by exact cy _ _ _ _) ?_
  refine RL.aG _ rfl rfl RP (by rfl) (by first | (simp;done) | simp [IdT.vals]) (by first | (simp [Value.oneCell'];done) | simp [Value.oneCell',IdT.vals]) aB ?_
  refine RL.nil ?_
  refine hK30 _ _ _ ?_
  refine CW.kp [4] rfl ?_
  refine CW.ret ?_
  rw [iS,if_neg h1,if_neg h5,if_neg h6,if_pos h7] at hr
  obtain rfl:=Option.some.inj hr
  refine aC.mk rfl MM (by rfl) aE (az.drop ⟨Sub.refl _,rfl,_,rfl,?_⟩ SB)
  exact cw _ (by first | exact decide_eq_true_iff | (simp only [decide_eq_true_eq];omega) | (simp only [true_iff];omega) | (simp only [Bool.false_eq_true,false_iff];omega))
 refine CW.seq fun K31 hK31=>?_
 refine CW.region ?_
 refine RL.q (Y.eql rfl rfl) rfl ?_
 refine RL.q (Y.assign rfl) rfl ?_
 refine RL.nil ?_
 refine hK31 _ _ _ ?_
 refine CW.kp [4,5,6,70,97] rfl ?_
 refine CW.ite rfl (fun h8=>?_) (fun h8=>?_)
 ·refine CW.seq fun K32 hK32=>?_
  refine CW.region ?_
  refine RL.q (Y.field rfl bM) rfl ?_
  refine RL.q (Y.bh rfl MM MM (by rfl) cE) rfl ?_
  refine RL.qs (Y.neq rfl rfl) rfl (fun g101=>?_) (fun g101=>?_)
  ·refine RL.q (Y.move rfl) rfl ?_
   refine RL.no WG rfl ?_
   refine RL.no WG rfl ?_
   refine RL.no WG rfl ?_
   refine RL.q (Y.fF rfl rfl) rfl ?_
   refine RL.er rfl func31 rfl rfl (by exact cy _ _ _ _) ?_
   refine RL.aG _ rfl rfl RP (by rfl) (by first | (simp;done) | simp [IdT.vals]) (by first | (simp [Value.oneCell'];done) | simp [Value.oneCell',IdT.vals]) aB ?_
   refine RL.nil ?_
   refine hK32 _ _ _ ?_
   refine CW.kp [4] rfl ?_
   refine CW.ret ?_
   rw [iS,if_neg h1,if_neg h5,if_neg h6,if_neg h7,if_pos h8] at hr
   obtain rfl:=Option.some.inj hr
   refine aC.mk rfl MM (by rfl) aE (az.drop ⟨Sub.refl _,rfl,_,rfl,?_⟩ SB)
   exact cw _ (by first | exact decide_eq_true_iff | (simp only [decide_eq_true_eq];omega) | (simp only [true_iff];omega) | (simp only [Bool.false_eq_true,false_iff];omega))
  refine RL.q (Y.move rfl) rfl ?_
  refine RL.qg WG (Y.field rfl bM) rfl ?_
  refine RL.qg WG (Y.bh rfl MM MM (by rfl) cE) rfl ?_
  refine RL.qg WG (Y.neq rfl rfl) rfl ?_
  refine RL.q (Y.fG rfl rfl) rfl ?_
  refine RL.er rfl func31 rfl rfl (by exact cy _ _ _ _) ?_
  refine RL.aG _ rfl rfl RP (by rfl) (by first | (simp;done) | simp [IdT.vals]) (by first | (simp [Value.oneCell'];done) | simp [Value.oneCell',IdT.vals]) aB ?_
  refine RL.nil ?_
  refine hK32 _ _ _ ?_
  refine CW.kp [4] rfl ?_
  refine CW.ret ?_
  rw [iS,if_neg h1,if_neg h5,if_neg h6,if_neg h7,if_pos h8] at hr
  obtain rfl:=Option.some.inj hr
  refine aC.mk rfl MM (by rfl) aE (az.drop ⟨Sub.refl _,rfl,_,rfl,?_⟩ SB)
  exact cw _ (by first | exact decide_eq_true_iff | (simp only [decide_eq_true_eq];omega) | (simp only [true_iff];omega) | (simp only [Bool.false_eq_true,false_iff];omega))
 refine CW.seq fun K33 hK33=>?_
 refine CW.region ?_
 refine RL.q (Y.eql rfl rfl) rfl ?_
 refine RL.q (Y.assign rfl) rfl ?_
 refine RL.nil ?_
 refine hK33 _ _ _ ?_
 refine CW.kp [4,5,6,108] rfl ?_
 refine CW.ite rfl (fun h9=>?_) (fun h9=>?_)
 ·refine CW.seq fun K34 hK34=>?_
  refine CW.region ?_
  refine RL.q (Y.field rfl cX) rfl ?_
  refine RL.aN rfl rfl MM MM (by rfl) fm rfl fun a111 c111 hu111 hc111 hl111=>?_
  refine RL.q (Y.field rfl cX) rfl ?_
  refine RL.aN rfl rfl MM MM (by rfl) fm rfl fun a113 c113 hu113 hc113 hl113=>?_
  refine RL.buildSlice [.slice a111 l[0].kids.length c111,.slice a113 l[1].kids.length c113] FB rfl (by decide) (fill2 rfl rfl rfl rfl) rfl fun b114=>?_
  obtain ⟨js,hjs⟩ : ∃ js,js = l[0].kids++l[1].kids:=⟨_,rfl⟩
  have hjf : [l[0].kids,l[1].kids].flatten = js:=by simp [hjs]
  have hjl : js.length = l[0].kids.length+l[1].kids.length:=by rw [hjs,List.length_append]
  refine RL.call rfl func34 rfl rfl (by exact s9 _ _ _ _ [.slice a111 l[0].kids.length c111,.slice a113 l[1].kids.length c113] [l[0].kids,l[1].kids] (gL.own MM) (RdL.cons (hur66.2 2 _ _ rfl hu111) (RdL.cons (hur69.2 2 _ _ rfl hu113) (RdL.nil _))) (by simp) (by rw [hjf];omega)) ?_
  rintro v115 M _ ⟨a115,c115,vs,rfl,hc115,rfl,hvs,rfl⟩
  rw [hjf] at hc115 hvs ⊢
  refine RL.gp (u:=.slice a115 js.length c115) PK hvs (by unfold lim;omega) fun M3 a3 c3 hs3 e3 hc3 hr3=>?_
  injection e3 with e3a _ e3c
  subst e3a e3c
  refine RL.call rfl func33 rfl rfl (by exact pQ 100000 _ _ _ js _ (fun v hv=>by rw [hjs] at hv;rcases List.mem_append.1 hv with h | h <;> (have:=Val.dy h;omega)) OM OM (by exact Kn.rd MM)) ?_
  rintro v116 M116 _ ⟨hs116,rfl,hr116⟩
  obtain ⟨a116,c116,rfl,hc116,hl116,_⟩:=hr116.slice
  refine RL.fV hr116 ?_
  refine RL.q (Y.build [_,_,_] rfl aZ cu (by rfl)) rfl ?_
  refine RL.aG _ rfl rfl RP (by rfl) (by first | (simp;done) | simp [IdT.vals]) (by first | (simp [Value.oneCell'];done) | simp [Value.oneCell',IdT.vals]) aB ?_
  refine RL.nil ?_
  refine hK34 _ _ _ ?_
  refine CW.kp [4] rfl ?_
  refine CW.ret ?_
  rw [iS,if_neg h1,if_neg h5,if_neg h6,if_neg h7,if_neg h8,if_pos h9,<-hjs] at hr
  obtain rfl:=Option.some.inj hr
  exact aC.mk rfl MM (by rfl) aE (az.drop ⟨hs3.trans hs116,rfl,_,rfl,j0 4 0 js hr116⟩ SB)
 refine CW.skip ?_
 refine hK23 _ _ _ ?_
 refine CW.seq fun K35 hK35=>?_
 refine CW.region ?_
 refine RL.q (Y.build [_,_,_] rfl aZ cu (by rfl)) rfl ?_
 refine RL.aG _ rfl rfl RP (by rfl) (by first | (simp;done) | simp [IdT.vals]) (by first | (simp [Value.oneCell'];done) | simp [Value.oneCell',IdT.vals]) aB ?_
 refine RL.nil ?_
 refine hK35 _ _ _ ?_
 refine CW.kp [4] rfl ?_
 refine CW.ret ?_
 rw [iS,if_neg h1,if_neg h5,if_neg h6,if_neg h7,if_neg h8,if_neg h9] at hr
 obtain rfl:=Option.some.inj hr
 refine aC.mk rfl MM (by rfl) aE (az.drop ⟨Sub.refl _,rfl,_,rfl,?_⟩ SB)
 exact fc 0 0

theorem opV_two {n : Int} {l : List Val} {r : Val} (h : l.length = 2) (hr : opV n l = some r) : iS n (l[0]'OM) (l[1]'OM) = some r:=by
 match l,h with
 | [x,y],_=>exact hr
theorem opV_one {n : Int} {l : List Val} {r : Val} (h : l.length = 1) (hr : opV n l = some r) : (n = 9\/n = 11)/\D4 n (l[0]'OM) = r:=by
 match l,h with
 | [x],_ =>
   rw [opV] at hr
   split at hr
   · exact ⟨by assumption,Option.some.inj hr⟩
   · cases hr
theorem opV_len {n : Int} {l : List Val} {r : Val} (hr : opV n l = some r) : l.length = 1\/l.length = 2:=by
 match l with
 | []=>cases hr
 | [x]=>exact .inl rfl
 | [x,y]=>exact .inr rfl
 | _::_::_::_=>cases hr
theorem op1_ok (w0 : World) (M : Mem) (Γ : List As) (n : Int) (l : List Val) (ul : Value)  (hl : Kn w0 M Γ (Rd M (.sl l.length 3 (l.flatMap Val.enc)) ul)) (hl1 : l.length = 1) (hn9 : n = 9\/n = 11) :
   aA Tryd.prog w0 M Γ 12 #[av n,ul] (oV M Γ fun M' v=>∃ us,v = .agg us.toArray/\RdL M' (D4 n (l[0]'OM)).enc us):=by
 refine aA.kn hl fun hl=>?_
 obtain ⟨al,cl,rfl,hcl,hliml,hlenl⟩:=hl.slice
 refine mq (f:=12) Tryd.func12 rfl Tryd.ntmps12 rfl rfl fun w1 hw1=>?_
 refine CW.fV hl ?_
 refine CW.seq fun K1 hK1=>?_
 refine CW.region ?_
 refine RL.alloc _ aZ rfl rfl fun b4=>?_
 refine RL.nil ?_
 refine hK1 _ _ _ ?_
 refine CW.kp [0,1,4] rfl ?_
 refine CW.seq fun K2 hK2=>?_
 refine CW.seq fun K3 hK3=>?_
 refine CW.ju 17 (.bool (decide (l.length = 2/\0<=n/\n < 5))) ?_ ?_
 ·refine RL.q (Y.move rfl) rfl ?_
  refine RL.qs (Y.geq rfl rfl) rfl (fun g8=>?_) (fun g8=>?_)
  ·refine RL.q (Y.move rfl) rfl ?_
   refine RL.qg WG (Y.move rfl) rfl ?_
   refine RL.qgs WG (Y.lss rfl rfl) rfl (fun g11=>?_) (fun g11=>?_)
   ·refine RL.q (Y.fF rfl rfl) rfl ?_
    refine RL.q (Y.move rfl) rfl ?_
    refine RL.qg WG (Y.move rfl) rfl ?_
    refine RL.qg WG (Y.len rfl Tryd.underlying24) rfl ?_
    refine RL.qg WG (Y.eql rfl rfl) rfl ?_
    refine RL.q (Y.fF rfl rfl) rfl ?_
    refine RL.nil ?_
    exact ⟨gl rfl (fR (by first | omega | (simp;done) | (simp;omega))),(by repeat (first | exact cj.nil _ | refine cj.cons _ rfl ?_)),fun _ hw=>hw.sub SB⟩
   refine RL.q (Y.fF rfl rfl) rfl ?_
   refine RL.q (Y.move rfl) rfl ?_
   refine RL.no WG rfl ?_
   refine RL.no WG rfl ?_
   refine RL.no WG rfl ?_
   refine RL.q (Y.fG rfl rfl) rfl ?_
   refine RL.nil ?_
   exact ⟨gl rfl (fR (by first | omega | (simp;done) | (simp;omega))),(by repeat (first | exact cj.nil _ | refine cj.cons _ rfl ?_)),fun _ hw=>hw.sub SB⟩
  refine RL.q (Y.move rfl) rfl ?_
  refine RL.no WG rfl ?_
  refine RL.no WG rfl ?_
  refine RL.q (Y.fG rfl rfl) rfl ?_
  refine RL.q (Y.move rfl) rfl ?_
  refine RL.no WG rfl ?_
  refine RL.no WG rfl ?_
  refine RL.no WG rfl ?_
  refine RL.q (Y.fG rfl rfl) rfl ?_
  refine RL.nil ?_
  exact ⟨gl rfl (fR (by first | omega | (simp;done) | (simp;omega))),(by repeat (first | exact cj.nil _ | refine cj.cons _ rfl ?_)),fun _ hw=>hw.sub SB⟩
 refine hK3 _ _ _ ?_
 refine CW.ite rfl (fun h1=>absurd h1 OM) (fun h1=>?_)
 refine CW.skip ?_
 refine hK2 _ _ _ ?_
 refine CW.seq fun K4 hK4=>?_
 refine CW.block ?_
 refine CW.seq fun K5 hK5=>?_
 refine CW.ju 31 (.bool (decide (n = 9))) ?_ ?_
 ·refine RL.q (Y.move rfl) rfl ?_
  refine RL.qs (Y.eql rfl rfl) rfl (fun g33=>?_) (fun g33=>?_)
  ·refine RL.q (Y.move rfl) rfl ?_
   refine RL.qg WG (Y.move rfl) rfl ?_
   refine RL.qg WG (Y.len rfl Tryd.underlying24) rfl ?_
   refine RL.qg WG (Y.eql rfl rfl) rfl ?_
   refine RL.q (Y.fF rfl rfl) rfl ?_
   refine RL.q (Y.assign rfl) rfl ?_
   refine RL.nil ?_
   exact ⟨gl rfl (fR (by first | omega | (simp;done) | (simp;omega))),(by repeat (first | exact cj.nil _ | refine cj.cons _ rfl ?_)),fun _ hw=>hw.sub SB⟩
  refine RL.q (Y.move rfl) rfl ?_
  refine RL.no WG rfl ?_
  refine RL.no WG rfl ?_
  refine RL.no WG rfl ?_
  refine RL.q (Y.fG rfl rfl) rfl ?_
  refine RL.q (Y.assign rfl) rfl ?_
  refine RL.nil ?_
  exact ⟨gl rfl (fR (by first | omega | (simp;done) | (simp;omega))),(by repeat (first | exact cj.nil _ | refine cj.cons _ rfl ?_)),fun _ hw=>hw.sub SB⟩
 refine hK5 _ _ _ ?_
 refine CW.ite rfl (fun h2=>?_) (fun h2=>?_)
 ·refine CW.seq fun K6 hK6=>?_
  refine CW.region ?_
  refine RL.q (Y.move rfl) rfl ?_
  refine RL.q (Y.index 0 rfl rfl rfl AO en SM) rfl ?_
  refine RL.q (Y.field rfl bM) rfl ?_
  refine RL.q (Y.zR rfl MM (oH Val.aq _ _ _ (List.getElem?_eq_getElem AO) _ _ (by rw [Val.ay] <;> rfl)) cE) rfl ?_
  refine RL.q (Y.eql rfl rfl) rfl ?_
  refine RL.er rfl func31 rfl rfl (by exact cy _ _ _ _) ?_
  refine RL.aG _ rfl rfl RP (by rfl) (by first | (simp;done) | simp [IdT.vals]) (by first | (simp [Value.oneCell'];done) | simp [Value.oneCell',IdT.vals]) aB ?_
  refine RL.nil ?_
  refine hK6 _ _ _ ?_
  refine CW.kp [4] rfl ?_
  refine CW.ret ?_
  rw [D4,if_pos h2]
  refine aC.mk rfl MM (by rfl) aE (az.drop ⟨Sub.refl _,rfl,_,rfl,?_⟩ SB)
  exact cw _ (by first | exact decide_eq_true_iff | (simp only [decide_eq_true_eq];omega) | (simp only [true_iff];omega) | (simp only [Bool.false_eq_true,false_iff];omega))
 refine CW.seq fun K7 hK7=>?_
 refine CW.ju 45 (.bool (decide (n = 11))) ?_ ?_
 ·refine RL.q (Y.move rfl) rfl ?_
  refine RL.qs (Y.eql rfl rfl) rfl (fun g47=>?_) (fun g47=>?_)
  ·refine RL.q (Y.move rfl) rfl ?_
   refine RL.qg WG (Y.move rfl) rfl ?_
   refine RL.qg WG (Y.len rfl Tryd.underlying24) rfl ?_
   refine RL.qg WG (Y.eql rfl rfl) rfl ?_
   refine RL.q (Y.fF rfl rfl) rfl ?_
   refine RL.q (Y.assign rfl) rfl ?_
   refine RL.nil ?_
   exact ⟨gl rfl (fR (by first | omega | (simp;done) | (simp;omega))),(by repeat (first | exact cj.nil _ | refine cj.cons _ rfl ?_)),fun _ hw=>hw.sub SB⟩
  refine RL.q (Y.move rfl) rfl ?_
  refine RL.no WG rfl ?_
  refine RL.no WG rfl ?_
  refine RL.no WG rfl ?_
  refine RL.q (Y.fG rfl rfl) rfl ?_
  refine RL.q (Y.assign rfl) rfl ?_
  refine RL.nil ?_
  exact ⟨gl rfl (fR (by first | omega | (simp;done) | (simp;omega))),(by repeat (first | exact cj.nil _ | refine cj.cons _ rfl ?_)),fun _ hw=>hw.sub SB⟩
 refine hK7 _ _ _ ?_
 refine CW.ite rfl (fun h3=>?_) (fun h3=>absurd OM h3)
 refine CW.seq fun K8 hK8=>?_
 refine CW.region ?_
 refine RL.q (Y.move rfl) rfl ?_
 refine RL.q (Y.index 0 rfl rfl rfl AO en SM) rfl ?_
 refine RL.q (Y.field rfl cX) rfl ?_
 refine RL.loadSl rfl rfl MM (oH Val.aq _ _ _ (List.getElem?_eq_getElem AO) _ _ (by rw [Val.ay] <;> rfl)) fm rfl fun a56 c56 hc56 hl56=>?_
 refine RL.q (Y.len rfl Tryd.underlying24) rfl ?_
 refine RL.q (Y.build [_,_,_] rfl aZ cu (by rfl)) rfl ?_
 refine RL.aG _ rfl rfl RP (by rfl) (by first | (simp;done) | simp [IdT.vals]) (by first | (simp [Value.oneCell'];done) | simp [Value.oneCell',IdT.vals]) aB ?_
 refine RL.nil ?_
 refine hK8 _ _ _ ?_
 refine CW.kp [4] rfl ?_
 refine CW.ret ?_
 rw [D4,if_neg h2,if_pos h3]
 refine aC.mk rfl MM (by rfl) aE (az.drop ⟨Sub.refl _,rfl,_,rfl,?_⟩ SB)
 exact fc _ _

theorem Bh (w0 : World) (M : Mem) (Γ : List As) (n : Int) (l : List Val) (ul : Value) (r : Val) (hl : Kn w0 M Γ (Rd M (.sl l.length 3 (l.flatMap Val.enc)) ul)) (hnm : gQ M) (hsm : ∀ v∈l,v.size<=100000) (hr : opV n l = some r) :
   aA Tryd.prog w0 M Γ 12 #[av n,ul] (oV M Γ fun M' v=>∃ us,v = .agg us.toArray/\RdL M' r.enc us):=by
 rcases opV_len hr with h | h
 · obtain ⟨h9,rfl⟩:=opV_one h hr
   exact op1_ok w0 M Γ n l ul hl h h9
 · exact op2_ok w0 M Γ n l ul r hl hnm h (hsm _ (List.getElem_mem _)) (hsm _ (List.getElem_mem _)) (opV_two h hr)

theorem za {w0 : World} {L : Lm} {M : Mem} {Γ : List As} {d : Option Nat} {ty : TypeId} {pos : String} {af : Array Edge} {g : Option (Nat×Bool)} {x y : Operand} {i j : IdT} {n m : Int} (hx : evL L x = some (.agg (i.vals++[av n]).toArray)) (hy : evL L y = some (.agg (j.vals++[av m]).toArray)) :
   Yq Tryd.prog w0 L M Γ ⟨d,.binOp .eql 144 x y 144,ty,pos,af,g⟩ (.bool (decide (i = j/\n = m))):=fun k ac w ha _=>by
 obtain ⟨a,b,c⟩:=i
 obtain ⟨a',b',c'⟩:=j
 simp only [execOp,ha.ev hx,ha.ev hy,IdT.vals]
 simp [go_sem,run_eql_struct,run_eqGuard_agg]
 by_cases h1 : a = a' <;> by_cases h2 : b = b' <;> by_cases h3 : c = c' <;> by_cases h4 : n = m <;> simp [h1,h2,h3,h4]

theorem nS (w0 : World) (M : Mem) (Γ : List As) (env : Env) (sp : Value) (id : IdT) (n : Int) (v : Val) (usv : List Value) (hs : ScopeM M env sp) (hv : Kn w0 M Γ (RdL M v.enc usv)) :
   aA Tryd.prog w0 M Γ 91 #[sp,.agg id.vals.toArray,av n,.agg usv.toArray] (oV M Γ fun M' u=>ScopeM M' ((id,n,v)::env) u):=by
 refine aA.kn hv fun hv=>?_
 obtain ⟨uk,rfl,hk⟩:=Val.open hv
 obtain ⟨p,rfl,_⟩:=hs.ptr
 refine enter (f:=91) Tryd.func91 rfl Tryd.ntmps91 rfl rfl fun w1 hw1=>?_
 refine CW.seq fun K1 hK1=>?_
 refine CW.region ?_
 refine RL.box _ rfl rfl rfl fun b5=>?_
 refine RL.box _ rfl rfl rfl fun b7=>?_
 refine RL.q (Y.assign rfl) rfl ?_
 refine RL.nil ?_
 refine hK1 _ _ _ ?_
 refine CW.kp [0,2,5,7] rfl ?_
 refine CW.seq fun K2 hK2=>?_
 refine CW.region ?_
 refine RL.q (Y.gq rfl MM (by rfl) kE) rfl ?_
 refine RL.q (Y.move rfl) rfl ?_
 refine RL.q (Y.build (id.vals++[av n]) rfl AK uE (by rfl)) rfl ?_
 refine RL.q (Y.gq rfl MM (by rfl) aE) rfl ?_
 refine RL.q (Y.move rfl) rfl ?_
 refine RL.q (Y.build (id.vals++[av n]++[av v.kind,av v.n,uk]++[.pointer p]) rfl zero146 Cp (by rfl)) rfl ?_
 refine RL.box (id.vals++[av n]++[av v.kind,av v.n,uk]++[.pointer p]) rfl rfl rfl fun b15=>?_
 refine RL.q (Y.assign rfl) rfl ?_
 refine RL.nil ?_
 refine hK2 _ _ _ ?_
 refine CW.kp [8] rfl ?_
 refine CW.ret ?_
 refine ⟨_,rfl,az.Cf (b:=b15) PK fun M2 hs2 hb2=>az.drop ⟨hs2,rfl,b15,[av v.kind,av v.n,uk],.pointer p,rfl,hb2,hv.mono hs2,hs.mono hs2⟩ SB⟩

theorem pre_get {vs ws zs : List Value} {j : Nat} {v : Value} (h : vs[j]? = some v) : (vs++ws++zs)[0+j]? = some v:=by
 have hl : j < vs.length:=by
   rcases Nat.lt_or_ge j vs.length with h1 | h1
   · exact h1
   · rw [List.getElem?_eq_none h1] at h;cases h
 rw [Nat.zero_add,List.append_assoc,List.getElem?_append_left hl]
 exact h
theorem mid_get {id : IdT} {n : Int} {us zs : List Value} {j : Nat} {v : Value} (h : us[j]? = some v) : (id.vals++[av n]++us++zs)[4+j]? = some v:=by
 have hl : j < us.length:=by
   rcases Nat.lt_or_ge j us.length with h1 | h1
   · exact h1
   · rw [List.getElem?_eq_none h1] at h;cases h
 have e : (id.vals++[av n]).length = 4:=rfl
 rw [List.append_assoc,List.getElem?_append_right OM,e,show 4+j - 4 = j from by omega,List.getElem?_append_left hl]
 exact h
theorem end_get {id : IdT} {n : Int} {us : List Value} {v : Value} (h : us.length = 3) : (id.vals++[av n]++us++[v])[0+7]? = some v:=by
 have e : (id.vals++[av n]++us).length = 7:=by rw [List.length_append,h];rfl
 rw [List.getElem?_append_right OM,e]
 rfl
theorem ptr133 : Tryd.prog.underlying 133 = some (.pointer (Tryd.prog.pointee 133)):=by kernel_rfl
theorem yI {id : IdT} {n : Int} : dM [] id n = v0:=rfl
theorem yJ {x : IdT×Int×Val} {env : Env} {id : IdT} {n : Int} (h : x.1 = id/\x.2.1 = n) : dM (x::env) id n = x.2.2:=by
 simp [dM,List.find?,h]
theorem wP {x : IdT×Int×Val} {env : Env} {id : IdT} {n : Int} (h : ¬ (x.1 = id/\x.2.1 = n)) : dM (x::env) id n = dM env id n:=by
 simp [dM,List.find?,h]

theorem find_ok (w0 : World) (M : Mem) (Γ : List As) (env : Env) (sp : Value) (id : IdT) (n : Int) (hs : ScopeM M env sp) :
   aA Tryd.prog w0 M Γ 111 #[sp,.agg (id.vals++[av n]).toArray] (Has M Γ fun v=>∃ us,v = .agg us.toArray/\RdL M (dM env id n).enc us):=by
 obtain ⟨p0,rfl,hp0⟩:=hs.ptr
 refine mq (f:=111) Tryd.func111 rfl Tryd.ntmps111 rfl rfl fun w1 hw1=>?_
 refine CW.seq fun K1 hK1=>?_
 refine CW.region ?_
 refine RL.box (id.vals++[av n]) rfl rfl rfl fun b3=>?_
 refine RL.alloc _ aZ rfl rfl fun b4=>?_
 refine RL.nil ?_
 refine hK1 _ _ _ ?_
 refine CW.kp [0,3,4] rfl ?_
 refine CW.seq fun K2 hK2=>?_
 refine CW.block ?_
 -- LOOP 1: live [0,3,4] changed [0]
 refine CW.kp [0,3,4] rfl ?_
 refine CW.ou (fun m Lc M1 Γc=>∃ (e2 : Env) (p : Option Addr),m = e2.length/\Lc = [(0,.pointer p)]/\Γc = []/\M1 = M/\ScopeM M e2 (.pointer p)/\(p = none↔e2 = [])/\dM env id n = dM e2 id n) env.length [(0,_)] [] rfl rfl ⟨env,p0,rfl,rfl,rfl,rfl,hs,hp0,rfl⟩ ?_
 rintro m Lc M Γc hs2 ⟨e2,p,rfl,rfl,rfl,rfl,hsc,hpe,hfe⟩
 refine CW.seq fun K3 hK3=>?_
 refine CW.seq fun K4 hK4=>?_
 refine CW.region ?_
 refine RL.q (Y.move rfl) rfl ?_
 refine RL.q (Y.nePtr ptr133 rfl rfl) rfl ?_
 refine RL.nil ?_
 refine hK4 _ _ _ ?_
 refine CW.kp [0,3,4,6] rfl ?_
 refine CW.ite rfl (fun h1=>?_) (fun h1=>?_)
 ·obtain ⟨x,e3,rfl⟩ : ∃ x e3,e2 = x::e3:=by
    cases e2 with
    | nil=>exact absurd (hpe.2 rfl) h1
    | cons x e3=>exact ⟨x,e3,rfl⟩
  obtain ⟨b,us,up,hpb,hM,hr,hrest⟩:=hsc
  injection hpb with hpb
  subst hpb
  obtain ⟨p3,rfl,hp3⟩:=hrest.ptr
  have hul : us.length = 3:=hr.1.trans (Val.aq _)
  refine CW.aW hr ?_
  refine CW.skip ?_
  refine hK3 _ _ _ ?_
  refine CW.seq fun K5 hK5=>?_
  refine CW.block ?_
  refine CW.seq fun K6 hK6=>?_
  refine CW.jT mix _ _ (fun _ hw=>hw) ?_
  refine HL.take 0 rfl KR KR KR rfl (Y.move rfl) rfl ?_
  refine HL.take 4 rfl KR KR KR rfl (Y.gq rfl MM (by rfl) Gc) rfl ?_
  refine HL.step 1 rfl KR ?_
  refine RL.q (Y.nilCheck rfl) rfl ?_
  refine RL.nil ⟨aQ SB,?_⟩
  refine HL.take 2 rfl KR KR KR rfl (Y.field rfl Am) rfl ?_
  refine HL.take 3 rfl KR KR KR rfl (Y.ye (x.1.vals++[av x.2.1]) rfl hM (fun _ _ hj=>pre_get hj) Gc) rfl ?_
  refine HL.take 5 rfl KR KR KR rfl (za rfl rfl) rfl ?_
  refine HL.done KR ?_
  refine hK6 _ _ _ ?_
  refine CW.kp [0,3,4,16] rfl ?_
  refine CW.ite rfl (fun h2=>?_) (fun h2=>?_)
  ·refine CW.seq fun K7 hK7=>?_
   refine CW.region ?_
   refine RL.q (Y.move rfl) rfl ?_
   refine RL.q (Y.nilCheck rfl) rfl ?_
   refine RL.q (Y.field rfl Al) rfl ?_
   refine RL.q (Y.ye us rfl hM (fun _ _ hj=>mid_get hj) (by rw [hul];exact aE)) rfl ?_
   refine RL.aD 3 rfl rfl RP MM EL (by first | exact Kn.bk MM EL | exact Kn.bl rfl) aB ?_
   refine RL.nil ?_
   refine hK7 _ _ _ ?_
   refine CW.kp [4] rfl ?_
   refine CW.ret ?_
   refine aC.mk rfl MM (by first | rfl | assumption) aE (az.drop ⟨rfl,rfl,us,rfl,?_⟩ SB)
   rw [hfe,yJ h2]
   exact hr
  refine CW.skip ?_
  refine hK5 _ _ _ ?_
  refine CW.region ?_
  refine RL.q (Y.move rfl) rfl ?_
  refine RL.q (Y.nilCheck rfl) rfl ?_
  refine RL.q (Y.field rfl Ak) rfl ?_
  refine RL.q (Y.loadB rfl hM (end_get hul) flat133) rfl ?_
  refine RL.q (Y.assign rfl) rfl ?_
  refine RL.nil ?_
  refine ⟨e3.length,[(0,_)],?_,(KP [0,3,4]),?_⟩
  · simp
  · exact az.drop ⟨[],rfl,hs2,e3,p3,rfl,rfl,rfl,rfl,hrest,hp3,by rw [hfe,wP h2]⟩ SB
 obtain rfl : e2 = []:=hpe.1 (Decidable.not_not.1 h1)
 refine CW.exit ?_
 refine hK2 _ _ _ ?_
 refine CW.seq fun K8 hK8=>?_
 refine CW.region ?_
 refine RL.q (Y.build [_,_,_] rfl aZ cu (by rfl)) rfl ?_
 refine RL.aG _ rfl rfl RP (by rfl) (by first | (simp;done) | simp [IdT.vals]) (by first | (simp [Value.oneCell'];done) | simp [Value.oneCell',IdT.vals]) aB ?_
 refine RL.nil ?_
 refine hK8 _ _ _ ?_
 refine CW.kp [4] rfl ?_
 refine CW.ret ?_
 refine aC.mk rfl MM (by rfl) aE (az.drop ⟨rfl,rfl,_,rfl,?_⟩ SB)
 rw [hfe,yI]
 exact fc 0 0

theorem nJ : Tryd.prog.concrete 60 = true:=by kernel_rfl
def Gf (p : ProgT) (F : Int) (br : Nat) (um ud : Value) (g : Nat) : Prop :=
 ∀ (w0 : World) (M : Mem) (Γ : List As) (e : Ex) (use : List Value) (env : Env) (sp : Value) (s : Int),EvHyp M p um ud F s env sp->Kn w0 M (bZ br um ud F s::Γ) (RdL M e.enc use)->bH p (aI p F g) e env s ≠ .bad ->
   bn Tryd.prog w0 M (bZ br um ud F s::Γ) 102 #[cH br,.agg use.toArray,sp] (lV M Γ br um ud F (bH p (aI p F g) e env s)) (jg M Γ br um ud F (bH p (aI p F g) e env s))

theorem vf {p : ProgT} {F : Int} {br : Nat} {um ud : Value} (g : Nat) (ihv : ∀ g',g = g'+1->Gf p F br um ud g') : fA Tryd.prog p F br um ud g:=by
 intro w0 M Γ e use env sp s hE he hb
 refine bn.kn he fun he=>?_
 have hs0:=hE.s0
 have hsF:=hE.sF
 have hF1:=hE.F1
 refine gk (f:=74) Tryd.func74 rfl Tryd.ntmps74 rfl rfl fun w1 hw1=>?_
 rw [Ex.ay] at he
 refine CW.aW he ?_
 refine CW.seq fun K1 hK1=>?_
 refine CW.region ?_
 refine RL.box _ rfl rfl rfl fun b4=>?_
 refine RL.alloc _ aZ rfl rfl fun b6=>?_
 refine RL.nil ?_
 refine hK1 _ _ _ ?_
 refine CW.kp [0,2,4,6] rfl ?_
 refine CW.seq fun K2 hK2=>?_
 refine CW.seq fun K3 hK3=>?_
 refine CW.A9 mix KR ?_
 refine QL.q (Y.move rfl) rfl ?_
 refine QL.q (Y.nilCheck rfl) rfl ?_
 refine QL.q (Y.field rfl kq) rfl ?_
 refine QL.q (Y.iZ rfl MM (by rfl) cE) rfl ?_
 refine QL.q (Y.move rfl) rfl ?_
 refine QL.q (Y.nilCheck rfl) rfl ?_
 refine QL.q (Y.field rfl An) rfl ?_
 refine QL.q (Y.iZ rfl MM (by rfl) cE) rfl ?_
 refine QL.q (Y.geq rfl rfl) rfl ?_
 refine QL.nil ?_
 refine hK3 _ _ _ ?_
 refine CW.kp [0,2,4,6,16] rfl ?_
 refine CW.ite rfl (fun h1=>?_) (fun h1=>?_)
 ·refine CW.eO ?_
  refine RX.step ?_
  refine RL.q (Y.iface nJ rfl) rfl ?_
  refine RL.nil ?_
  refine RX.panic rfl ?_
  exact az.drop ⟨18,s,sR h1,rfl,Sub.refl _,rfl⟩ SB
 obtain ⟨g',rfl,hev⟩:=Aq h1 hb
 rw [hev] at hb
 have hvb:=EO.oR hb
 refine CW.skip ?_
 refine hK2 _ _ _ ?_
 refine CW.seq fun K4 hK4=>?_
 refine CW.region ?_
 refine RL.q (Y.move rfl) rfl ?_
 refine RL.q (Y.nilCheck rfl) rfl ?_
 refine RL.q (Y.field rfl kq) rfl ?_
 refine RL.q (Y.iZ rfl MM (by rfl) cE) rfl ?_
 refine RL.q (Y.add rfl rfl OM) rfl ?_
 refine RL.q (Y.nilCheck rfl) rfl ?_
 refine RL.q (Y.field rfl kq) rfl ?_
 refine RL.store _ rfl rfl RP (by rfl) (by simp) (by rfl) qd ?_
 refine RL.nil ?_
 refine hK4 _ _ _ ?_
 refine CW.kp [0,2,4,6] rfl ?_
 refine CW.seq fun K5 hK5=>?_
 refine CW.eO ?_
 refine RX.step ?_
 refine RL.q (Y.move rfl) rfl ?_
 refine RL.nil ?_
 refine RX.step ?_
 refine RL.q (Y.bN rfl MM MM EL jG) rfl ?_
 refine RL.nil ?_
 refine RX.step ?_
 refine RL.q (Y.move rfl) rfl ?_
 refine RL.nil ?_
 refine RX.call rfl func102 rfl rfl (by exact bn.pick (x:=.own br 131 [um,ud,av F,av (s+1)]) PK (ihv g' rfl _ _ _ e _ env sp (s+1) (hE.next (Sub.refl _) OM OM) KK hvb)) ?_ (by rintro ch Mp _ ⟨x,sp2,hpe,rfl,hsp,rfl⟩;exact az.drop ⟨x,sp2,by rw [hev,hpe,EO.bind],rfl,hsp,rfl⟩ SB)
 rintro v28 M28 _ ⟨x28,s28,hv28,h028,h1F28,hs28,⟨us28,rfl,hr28⟩,rfl⟩
 have hul28 : us28.length = 3:=hr28.1.trans (Val.aq _)
 have hsz:=chkV_nb (v:=x28) (s:=s28) (by rw [hv28] at hb;exact hb)
 have hdl:=Val.sY x28
 refine RX.of ?_
 refine RL.aW hr28 ?_
 refine RL.alloc _ aZ rfl rfl fun b7=>?_
 refine RL.aD 3 rfl rfl RP MM EL (by first | exact Kn.bk MM EL | exact Kn.bl rfl) aB ?_
 refine RL.nil ?_
 refine hK5 _ _ _ ?_
 refine CW.kp [6,7] rfl ?_
 refine CW.seq fun K6 hK6=>?_
 refine CW.seq fun K7 hK7=>?_
 refine CW.region ?_
 refine RL.q (Y.bN rfl MM MM EL aE) rfl ?_
 refine RL.er rfl func103 rfl rfl (by exact FU (hE.CC.mono hs28) x28 us28 (by omega) KK) ?_
 refine RL.qs (Y.gtr rfl rfl) rfl (fun g31=>?_) (fun g31=>?_)
 ·refine RL.q (Y.move rfl) rfl ?_
  refine RL.no WG rfl ?_
  refine RL.no WG rfl ?_
  refine RL.no WG rfl ?_
  refine RL.q (Y.fF rfl rfl) rfl ?_
  refine RL.nil ?_
  refine hK7 _ _ _ ?_
  refine CW.kp [6,7,36] rfl ?_
  refine CW.yes rfl ?_
  refine CW.eO ?_
  refine RX.step ?_
  refine RL.q (Y.iface nJ rfl) rfl ?_
  refine RL.nil ?_
  refine RX.panic rfl ?_
  exact az.drop ⟨4,s28,by rw [hev,hv28];exact td hsz OM,rfl,hs28,rfl⟩ SB
 refine RL.q (Y.move rfl) rfl ?_
 refine RL.qg WG (Y.bN rfl MM MM EL aE) rfl ?_
 refine RL.er WG func104 rfl rfl (by exact Df (hE.CC.mono hs28) x28 us28 (by omega) KK) ?_
 refine RL.qg WG (Y.gtr rfl rfl) rfl ?_
 refine RL.q (Y.fG rfl rfl) rfl ?_
 refine RL.nil ?_
 refine hK7 _ _ _ ?_
 refine CW.kp [6,7,36] rfl ?_
 refine CW.ite rfl (fun h2=>?_) (fun h2=>?_)
 ·refine CW.eO ?_
  refine RX.step ?_
  refine RL.q (Y.iface nJ rfl) rfl ?_
  refine RL.nil ?_
  refine RX.panic rfl ?_
  exact az.drop ⟨4,s28,by rw [hev,hv28];exact td hsz OM,rfl,hs28,rfl⟩ SB
 refine CW.skip ?_
 refine hK6 _ _ _ ?_
 refine CW.seq fun K8 hK8=>?_
 refine CW.region ?_
 refine RL.q (Y.bN rfl MM MM EL aE) rfl ?_
 refine RL.aD 3 rfl rfl RP MM EL (by first | exact Kn.bk MM EL | exact Kn.bl rfl) aB ?_
 refine RL.nil ?_
 refine hK8 _ _ _ ?_
 refine CW.kp [6] rfl ?_
 refine CW.ret ?_
 refine aC.mk rfl MM (by first | rfl | exact hul28) aE (az.drop ⟨x28,s28,?_,h028,h1F28,hs28,⟨_,rfl,hr28⟩,rfl⟩ SB)
 rw [hev,hv28]
 exact BK OM
theorem pX {p : ProgT} {F : Int} {br : Nat} {um ud : Value} {g : Nat} (ih : fA Tryd.prog p F br um ud g) (w0 : World) (M : Mem) (Γ : List As) (es : List Ex) (u : Value) (env : Env) (sp : Value) (s : Int) (hE : EvHyp M p um ud F s env sp) (hu : Kn w0 M (bZ br um ud F s::Γ) (Rd M (.sl es.length 15 (es.flatMap Ex.enc)) u)) (hl : es.length<=1000000) (r : AE) (hr : r = fU (fun x s=>aI p F g x env s) es s) (hb : r ≠ .bad) :
   bn Tryd.prog w0 M (bZ br um ud F s::Γ) 112 #[cH br,u,sp] (AllPost M Γ br um ud F r) (Gk M Γ br um ud F r):=by
 refine bn.kn hu fun hu=>?_
 obtain ⟨a1,c1,rfl,hc1,hlim1,hlen1⟩:=hu.slice
 have hs0:=hE.s0
 have hsF:=hE.sF
 have hF1:=hE.F1
 refine enterP (f:=112) Tryd.func112 rfl Tryd.ntmps112 rfl rfl fun w1 hw1=>?_
 refine CW.fV hu ?_
 refine CW.seq fun K1 hK1=>?_
 refine CW.region ?_
 refine RL.q (Y.assign rfl) rfl ?_
 refine RL.nil ?_
 refine hK1 _ _ _ ?_
 refine CW.kp [0,1,2] rfl ?_
 refine CW.seq fun K2 hK2=>?_
 refine CW.region ?_
 refine RL.q (Y.assign rfl) rfl ?_
 refine RL.nil ?_
 refine hK2 _ _ _ ?_
 refine CW.kp [0,1,2,7] rfl ?_
 refine CW.seq fun K3 hK3=>?_
 refine CW.seq fun K4 hK4=>?_
 refine CW.front (x:=bZ br um ud F s) PK ?_
 refine CW.AI 26 3 ?_
 refine CW.aW (RdL.nil _) ?_
 refine CW.region ?_
 refine RL.q (Y.move rfl) rfl ?_
 refine RL.q (Y.len rfl Tryd.underlying47) rfl ?_
 refine RL.q (Y.move rfl) rfl ?_
 refine RL.nil ?_
 refine hK4 _ _ _ ?_
 refine CW.kp [0,2,7,10,11,12] rfl ?_
 refine CW.block ?_
 -- LOOP 1: live [0,2,7,10,11,12] changed [7,12]
 refine CW.kp [7,12,0,2,10,11] rfl ?_
 refine CW.ou (fun m Lc M1 Γc=>∃ (k : Nat) (dn : List Val) (sk : Int) (ua : Option Addr) (ca : Nat) (us : List Value),m = es.length - k/\k<=es.length/\Lc = [(7,.slice ua k ca),(12,av k)]/\Γc = [.rds (dn.flatMap Val.enc) us,.acc (.slice ua k ca) 26 3 k us,bZ br um ud F sk]/\dn.length = k/\0<=sk/\sk<=F/\r = (fU (fun x s=>aI p F g x env s) (es.drop k) sk).pre dn) es.length [(7,_),(12,_)] [_,_,_] rfl rfl ⟨0,[],s,none,0,[],rfl,Nat.zero_le _,rfl,rfl,rfl,hs0,hsF,by rw [hr,AE.pre_nil];rfl⟩ ?_
 rintro m Lc M1 Γc hs ⟨k,dn,sk,ua,ca,us,rfl,hk,rfl,rfl,hdn,hk0,hkF,hrk⟩
 refine CW.seq fun K5 hK5=>?_
 refine CW.region ?_
 refine RL.q (Y.lss rfl rfl) rfl ?_
 refine RL.nil ?_
 refine hK5 _ _ _ ?_
 refine CW.kp [0,2,7,10,11,12,13] rfl ?_
 refine CW.seq fun K6 hK6=>?_
 refine CW.ite rfl (fun h1=>?_) (fun h1=>?_)
 ·have hka : k < es.length:=by omega
  have hnb:=allF_nb hka hrk hb
  refine CW.skip ?_
  refine hK6 _ _ _ ?_
  refine CW.seq fun K7 hK7=>?_
  refine CW.block ?_
  refine CW.seq fun K8 hK8=>?_
  refine CW.region ?_
  refine RL.q (Y.index _ rfl rfl rfl AO iW SM) rfl ?_
  refine RL.aM rfl rfl MM (Eq.trans (aS Ex.aq _ _ _ (List.getElem?_eq_getElem AO)) (Ex.ay _)) (by rfl) jG rfl fun us15 hul15 hur15=>?_
  refine RL.alloc _ zero50 rfl rfl fun b9=>?_
  refine RL.aD 15 rfl rfl RP MM EL (by first | exact Kn.bk MM EL | exact Kn.bl rfl) size50 ?_
  refine RL.nil ?_
  refine hK8 _ _ _ ?_
  refine CW.kp [0,2,7,9,10,11,12] rfl ?_
  refine CW.eO ?_
  refine RX.step ?_
  refine RL.q (Y.move rfl) rfl ?_
  refine RL.nil ?_
  refine RX.step ?_
  refine RL.q (Y.move rfl) rfl ?_
  refine RL.nil ?_
  refine RX.step ?_
  refine RL.q (Y.bN rfl MM MM EL jG) rfl ?_
  refine RL.nil ?_
  refine RX.step ?_
  refine RL.q (Y.move rfl) rfl ?_
  refine RL.nil ?_
  refine RX.call rfl func74 rfl rfl (by exact bn.pick (x:=bZ br um ud F sk) PK (ih _ _ _ es[k] _ env sp sk (hE.next hs hk0 hkF) KK hnb)) ?_ (by rintro ch Mp _ ⟨x,sp2,hpe,rfl,hsp,rfl⟩;exact az.drop ⟨x,sp2,allF_er hka hrk hpe,rfl,hs.trans hsp,rfl⟩ SB)
  rintro v20 M20 _ ⟨x20,s20,he20,h020,h1F20,hs20,⟨us20,rfl,hr20⟩,rfl⟩
  have hul20 : us20.length = 3:=hr20.1.trans (Val.aq _)
  refine RX.of ?_
  refine RL.aW hr20 ?_
  refine RL.buildSlice us20 pN rfl (by decide) (fill1 rfl hul20) rfl fun b21=>?_
  refine RL.append pN rfl rfl PK (lS.own (sz:=3) (m:=1) MM (by simp [hul20]) hr20.one) OM (by unfold lim;omega) rfl fun a22 c22 hc22=>?_
  refine RL.q (Y.assign rfl) rfl ?_
  refine RL.nil ?_
  refine hK7 _ _ _ ?_
  refine CW.kp [0,2,7,10,11,12] rfl ?_
  refine CW.region ?_
  refine RL.q (Y.add rfl rfl OM) rfl ?_
  refine RL.q (Y.move rfl) rfl ?_
  refine RL.nil ?_
  refine ⟨es.length - (k+1),[(7,_),(12,_)],?_,(KP [7,12,0,2,10,11]),?_⟩
  · omega
  · refine az.kn (Kn.rds (ds:=dn.flatMap Val.enc) (us:=us) MM) fun hrd=>?_
    refine az.front (x:=bZ br um ud F s20) PK ?_
    refine az.front (x:=.acc (.slice a22 (k+1) c22) 26 3 (k+1) (us++us20)) PK ?_
    refine az.aW (hrd.append hr20) ?_
    exact az.drop ⟨[_,_,_],rfl,hs.trans hs20,k+1,dn++[x20],s20,a22,c22,us++us20,rfl,by omega,rfl,by rw [uh] <;> rfl,by simp [hdn],h020,h1F20,allF_go hka hrk he20⟩ SB
 refine CW.exit ?_
 refine hK3 _ _ _ ?_
 refine CW.seq fun K9 hK9=>?_
 refine CW.region ?_
 refine RL.q (Y.move rfl) rfl ?_
 refine RL.q (Y.assign rfl) rfl ?_
 refine RL.nil ?_
 refine hK9 _ _ _ ?_
 refine CW.kp [6] rfl ?_
 refine CW.ret ?_
 obtain rfl : k = es.length:=by omega
 rw [Gb rfl,AE.pre,List.append_nil] at hrk
 refine ⟨_,rfl,az.kn (Kn.rds (ds:=dn.flatMap Val.enc) (us:=us) MM) fun hrd=>?_⟩
 exact az.gp (u:=.slice ua es.length ca) PK hrd (by unfold lim;omega) (show List.Sublist (bZ br um ud F sk::Γ) _ from SB) fun M2 hs2 hr2=>⟨dn,sk,hrk,hk0,hkF,hs.trans hs2,by rw [hdn];exact hr2,rfl⟩
set_option maxRecDepth 4000 in
theorem oO {p : ProgT} {F : Int} {br : Nat} {um ud : Value} {g : Nat} (ih : fA Tryd.prog p F br um ud g) (w0 : World) (M : Mem) (Γ : List As) (d : DefT) (usd : List Value) (args : List Val) (ua : Value) (env2 : Env) (s : Int) (hE : EvHyp M p um ud F s [] (.pointer none)) (hd : Kn w0 M (bZ br um ud F s::Γ) (RdL M d.enc usd)) (ha : Kn w0 M (bZ br um ud F s::Γ) (Rd M (.sl args.length 3 (args.flatMap Val.enc)) ua)) (he : dg d.slots args [] = some env2) (hb : aI p F g d.body env2 s ≠ .bad) :
   bn Tryd.prog w0 M (bZ br um ud F s::Γ) 63 #[cH br,.agg usd.toArray,ua] (lV M Γ br um ud F (aI p F g d.body env2 s)) (jg M Γ br um ud F (aI p F g d.body env2 s)):=by
 refine bn.kn hd fun hd=>?_
 refine bn.kn ha fun ha=>?_
 obtain ⟨a1,c1,rfl,hc1,hlim1,hlen1⟩:=ha.slice
 have hs0:=hE.s0
 have hsF:=hE.sF
 have hF1:=hE.F1
 rw [DefT.ay] at hd
 refine gk (f:=63) Tryd.func63 rfl Tryd.ntmps63 rfl rfl fun w1 hw1=>?_
 refine CW.aW hd ?_
 refine CW.fV ha ?_
 refine CW.seq fun K1 hK1=>?_
 refine CW.region ?_
 refine RL.box _ rfl rfl rfl fun b4=>?_
 refine RL.alloc _ aZ rfl rfl fun b6=>?_
 refine RL.nil ?_
 refine hK1 _ _ _ ?_
 refine CW.kp [0,2,4,6] rfl ?_
 refine CW.seq fun K2 hK2=>?_
 refine CW.region ?_
 refine RL.q (Y.assign rfl) rfl ?_
 refine RL.nil ?_
 refine hK2 _ _ _ ?_
 refine CW.kp [0,2,4,6,7] rfl ?_
 refine CW.seq fun K3 hK3=>?_
 refine CW.seq fun K4 hK4=>?_
 refine CW.region ?_
 refine RL.q (Y.field rfl pK) rfl ?_
 refine RL.aN rfl rfl MM MM (by rfl) Af rfl fun a11 c11 hu11 hc11 hl11=>?_
 refine RL.q (Y.len rfl Tryd.underlying46) rfl ?_
 refine RL.q (Y.move rfl) rfl ?_
 refine RL.nil ?_
 refine hK4 _ _ _ ?_
 refine CW.kp [0,2,4,6,7,11,12,13] rfl ?_
 refine CW.block ?_
 -- LOOP 1: live [0,2,4,6,7,11,12,13] changed [7,13]
 refine CW.kp [7,13,0,2,4,6,11,12] rfl ?_
 refine CW.ou (fun m Lc M1 Γc=>∃ (k : Nat) (e2 : Env) (q : Option Addr),m = d.slots.length - k/\k<=d.slots.length/\Lc = [(7,.pointer q),(13,av k)]/\Γc = []/\ScopeM M1 e2 (.pointer q)/\dg (d.slots.drop k) (args.drop k) e2 = some env2) d.slots.length [(7,_),(13,_)] [] rfl rfl ⟨0,[],none,rfl,Nat.zero_le _,rfl,rfl,rfl,he⟩ ?_
 rintro m Lc M1 Γc hs ⟨k,e2,q,rfl,hk,rfl,rfl,hsc,hek⟩
 refine CW.seq fun K5 hK5=>?_
 refine CW.region ?_
 refine RL.q (Y.lss rfl rfl) rfl ?_
 refine RL.nil ?_
 refine hK5 _ _ _ ?_
 refine CW.kp [0,2,4,6,7,11,12,13,14] rfl ?_
 refine CW.seq fun K6 hK6=>?_
 refine CW.ite rfl (fun h1=>?_) (fun h1=>?_)
 ·have hka : k < d.slots.length:=by omega
  obtain ⟨hkb,hek2⟩:=y3 hka hek
  refine CW.skip ?_
  refine hK6 _ _ _ ?_
  refine CW.seq fun K7 hK7=>?_
  refine CW.block ?_
  refine CW.seq fun K8 hK8=>?_
  refine CW.region ?_
  refine RL.q (Y.move rfl) rfl ?_
  refine RL.q (Y.index _ rfl rfl rfl AO A0 SM) rfl ?_
  refine RL.aM rfl rfl MM (Eq.trans (aS SlotT.aq _ _ _ (List.getElem?_eq_getElem AO)) (SlotT.ay _)) (by rfl) agg68 rfl fun us17 hul17 hur17=>?_
  refine RL.alloc _ Dk rfl rfl fun b9=>?_
  refine RL.q (Y.assign rfl) rfl ?_
  refine RL.aD 11 rfl rfl RP MM EL (by first | exact Kn.bk MM EL | exact Kn.bl rfl) DG ?_
  refine RL.nil ?_
  refine hK8 _ _ _ ?_
  refine CW.kp [0,2,4,6,7,8,9,11,12,13] rfl ?_
  refine CW.jT mix _ _ (fun _ hw=>hw) ?_
  refine HL.take 0 rfl KR KR KR rfl (Y.move rfl) rfl ?_
  refine HL.take 1 rfl KR KR KR rfl (Y.field rfl C2) rfl ?_
  refine HL.take 2 rfl KR KR KR rfl (Y.gD [_,_,_] rfl MM MM (by rfl) kE) rfl ?_
  refine HL.take 3 rfl KR KR KR rfl (Y.move rfl) rfl ?_
  refine HL.take 4 rfl KR KR KR rfl (Y.move rfl) rfl ?_
  refine HL.take 5 rfl KR KR KR rfl (Y.index _ rfl rfl rfl AO en SM) rfl ?_
  refine HL.aM 6 rfl KR KR KR rfl rfl MM (Eq.trans (aS Val.aq _ _ _ (List.getElem?_eq_getElem AO)) (Val.ay _)) (by rfl) aE rfl fun us24 hul24 hur24=>?_
  refine HL.step 7 rfl KR ?_
  refine RL.call rfl func91 rfl rfl (by exact nS _ _ _ e2 _ (d.slots[k]).id 0 args[k] us24 hsc KK) ?_
  rintro v25 M25 _ ⟨hs25,rfl,hsc25⟩
  obtain ⟨p25,rfl,_⟩:=hsc25.ptr
  refine RL.nil ⟨bT (hs25) SB,?_⟩
  refine HL.take 8 rfl KR KR KR rfl (Y.assign rfl) rfl ?_
  refine HL.done KR ?_
  refine hK7 _ _ _ ?_
  refine CW.kp [0,2,4,6,7,11,12,13] rfl ?_
  refine CW.region ?_
  refine RL.q (Y.add rfl rfl OM) rfl ?_
  refine RL.q (Y.move rfl) rfl ?_
  refine RL.nil ?_
  refine ⟨d.slots.length - (k+1),[(7,_),(13,_)],?_,(KP [7,13,0,2,4,6,11,12]),?_⟩
  · omega
  · exact az.drop ⟨[],rfl,hs.trans hs25,k+1,_,p25,rfl,by omega,rfl,rfl,hsc25,hek2⟩ SB
 refine CW.exit ?_
 refine hK3 _ _ _ ?_
 refine CW.seq fun K9 hK9=>?_
 obtain rfl : k = d.slots.length:=by omega
 obtain rfl:=AG rfl hek
 refine CW.eO ?_
 refine RX.step ?_
 refine RL.q (Y.move rfl) rfl ?_
 refine RL.nil ?_
 refine RX.step ?_
 refine RL.q (Y.field rfl C3) rfl ?_
 refine RL.nil ?_
 refine RX.step ?_
 refine RL.so rfl rfl MM MM (by rfl) (by rfl) jG rfl fun us29 hul29 hur29=>?_
 refine RL.nil ?_
 refine RX.step ?_
 refine RL.q (Y.move rfl) rfl ?_
 refine RL.nil ?_
 refine RX.call rfl func74 rfl rfl (by exact bn.pick (x:=bZ br um ud F s) PK (ih _ _ _ d.body us29 e2 _ s (hE.mono hs hs0 hsF hsc) (Kn.of (by rw [Ex.ay];exact hur29)) hb)) ?_ (by rintro ch Mp _ ⟨x,sp2,hpe,rfl,hsp,rfl⟩;exact az.drop ⟨x,sp2,hpe,rfl,hs.trans hsp,rfl⟩ SB)
 rintro v31 M31 _ ⟨x31,s31,he31,h031,h1F31,hs31,⟨us31,rfl,hr31⟩,rfl⟩
 have hul31 : us31.length = 3:=hr31.1.trans (Val.aq _)
 refine RX.of ?_
 refine RL.aW hr31 ?_
 refine RL.aD 3 rfl rfl RP MM EL (by first | exact Kn.bk MM EL | exact Kn.bl rfl) aB ?_
 refine RL.nil ?_
 refine hK9 _ _ _ ?_
 refine CW.kp [6] rfl ?_
 refine CW.ret ?_
 exact aC.mk rfl MM (by first | rfl | exact hul31) aE (az.drop ⟨x31,s31,he31,h031,h1F31,hs.trans hs31,⟨_,rfl,hr31⟩,rfl⟩ SB)
set_option maxRecDepth 4000 in
set_option maxHeartbeats 1000000 in
theorem Dd {p : ProgT} {F : Int} {br : Nat} {um ud : Value} {g : Nat} (ih : fA Tryd.prog p F br um ud g) (w0 : World) (M : Mem) (Γ : List As) (e : Ex) (use : List Value) (env : Env) (sp : Value) (v : Val) (usv : List Value) (s : Int) (hE : EvHyp M p um ud F s env sp) (he : Kn w0 M (bZ br um ud F s::Γ) (RdL M e.enc use)) (hv : Kn w0 M (bZ br um ud F s::Γ) (RdL M v.enc usv)) (r : EO) (hr : r = gv (aI p F g) e env v s) (hb : r ≠ .bad) :
   bn Tryd.prog w0 M (bZ br um ud F s::Γ) 113 #[cH br,.agg use.toArray,sp,.agg usv.toArray] (lV M Γ br um ud F r) (jg M Γ br um ud F r):=by
 refine bn.kn he fun he=>?_
 refine bn.kn hv fun hv=>?_
 have hs0:=hE.s0
 have hsF:=hE.sF
 have hF1:=hE.F1
 rw [Ex.ay] at he
 rw [Val.ay] at hv
 refine gk (f:=113) Tryd.func113 rfl Tryd.ntmps113 rfl rfl fun w1 hw1=>?_
 refine CW.aW he ?_
 refine CW.aW hv ?_
 refine CW.seq fun K1 hK1=>?_
 refine CW.region ?_
 refine RL.box _ rfl rfl rfl fun b5=>?_
 refine RL.box _ rfl rfl rfl fun b7=>?_
 refine RL.alloc _ aZ rfl rfl fun b8=>?_
 refine RL.nil ?_
 refine hK1 _ _ _ ?_
 refine CW.kp [0,2,5,7,8] rfl ?_
 refine CW.seq fun K2 hK2=>?_
 refine CW.seq fun K3 hK3=>?_
 refine CW.region ?_
 refine RL.q (Y.field rfl vc) rfl ?_
 refine RL.q (Y.bh rfl MM MM (by rfl) cE) rfl ?_
 refine RL.nil ?_
 refine hK3 _ _ _ ?_
 refine CW.kp [0,2,5,7,8,13] rfl ?_
 refine CW.block ?_
 refine CW.seq fun K4 hK4=>?_
 refine CW.region ?_
 refine RL.q (Y.eql rfl rfl) rfl ?_
 refine RL.q (Y.assign rfl) rfl ?_
 refine RL.nil ?_
 refine hK4 _ _ _ ?_
 refine CW.kp [0,2,5,7,8,13,14] rfl ?_
 refine CW.ite rfl (fun h1=>?_) (fun h1=>?_)
 ·rw [gv,if_pos h1] at hr
  refine CW.seq fun K5 hK5=>?_
  refine CW.seq fun K6 hK6=>?_
  refine CW.region ?_
  refine RL.q (Y.field rfl bM) rfl ?_
  refine RL.q (Y.bh rfl MM MM (by rfl) cE) rfl ?_
  refine RL.q (Y.neq rfl rfl) rfl ?_
  refine RL.nil ?_
  refine hK6 _ _ _ ?_
  refine CW.kp [0,2,5,8,18] rfl ?_
  refine CW.ite rfl (fun h2=>?_) (fun h2=>?_)
  ·rw [if_pos h2] at hr
   obtain ⟨hkl,hr⟩:=j9 (k:=1) rfl hr hb
   refine CW.seq fun K7 hK7=>?_
   refine CW.eO ?_
   refine RX.step ?_
   refine RL.q (Y.move rfl) rfl ?_
   refine RL.nil ?_
   refine RX.step ?_
   refine RL.q (Y.field rfl cI) rfl ?_
   refine RL.nil ?_
   refine RX.step ?_
   refine RL.aN rfl rfl MM MM (by rfl) gj rfl fun a21 c21 hu21 hc21 hl21=>?_
   refine RL.nil ?_
   refine RX.step ?_
   refine RL.q (Y.index 1 rfl rfl rfl AO iW SM) rfl ?_
   refine RL.nil ?_
   refine RX.step ?_
   refine RL.aM rfl rfl MM (Eq.trans (aS Ex.aq _ _ _ (List.getElem?_eq_getElem AO)) (Ex.ay _)) (by rfl) jG rfl fun us23 hul23 hur23=>?_
   refine RL.nil ?_
   refine RX.step ?_
   refine RL.q (Y.move rfl) rfl ?_
   refine RL.nil ?_
   refine RX.call rfl func74 rfl rfl (by exact bn.pick (x:=bZ br um ud F s) PK (ih _ _ _ e.kids[1] _ env _ s (hE) KK (hr ▸ hb))) ?_ (by rintro ch Mp _ ⟨x,sp2,hpe,rfl,hsp,rfl⟩;exact az.drop ⟨x,sp2,hr.trans hpe,rfl,hsp,rfl⟩ SB)
   rintro v25 M25 _ ⟨x25,s25,he25,h025,h1F25,hs25,⟨us25,rfl,hr25⟩,rfl⟩
   have hul25 : us25.length = 3:=hr25.1.trans (Val.aq _)
   refine RX.of ?_
   refine RL.aW hr25 ?_
   refine RL.aD 3 rfl rfl RP MM EL (by first | exact Kn.bk MM EL | exact Kn.bl rfl) aB ?_
   refine RL.nil ?_
   refine hK7 _ _ _ ?_
   refine CW.kp [8] rfl ?_
   refine CW.ret ?_
   exact aC.mk rfl MM (by first | rfl | exact hul25) aE (az.drop ⟨x25,s25,hr.trans he25,h025,h1F25,hs25,⟨_,rfl,hr25⟩,rfl⟩ SB)
  rw [if_neg h2] at hr
  obtain ⟨hkl,hr⟩:=j9 (k:=2) rfl hr hb
  refine CW.skip ?_
  refine hK5 _ _ _ ?_
  refine CW.seq fun K8 hK8=>?_
  refine CW.eO ?_
  refine RX.step ?_
  refine RL.q (Y.move rfl) rfl ?_
  refine RL.nil ?_
  refine RX.step ?_
  refine RL.q (Y.field rfl cI) rfl ?_
  refine RL.nil ?_
  refine RX.step ?_
  refine RL.aN rfl rfl MM MM (by rfl) gj rfl fun a28 c28 hu28 hc28 hl28=>?_
  refine RL.nil ?_
  refine RX.step ?_
  refine RL.q (Y.index 2 rfl rfl rfl AO iW SM) rfl ?_
  refine RL.nil ?_
  refine RX.step ?_
  refine RL.aM rfl rfl MM (Eq.trans (aS Ex.aq _ _ _ (List.getElem?_eq_getElem AO)) (Ex.ay _)) (by rfl) jG rfl fun us30 hul30 hur30=>?_
  refine RL.nil ?_
  refine RX.step ?_
  refine RL.q (Y.move rfl) rfl ?_
  refine RL.nil ?_
  refine RX.call rfl func74 rfl rfl (by exact bn.pick (x:=bZ br um ud F s) PK (ih _ _ _ e.kids[2] _ env _ s (hE) KK (hr ▸ hb))) ?_ (by rintro ch Mp _ ⟨x,sp2,hpe,rfl,hsp,rfl⟩;exact az.drop ⟨x,sp2,hr.trans hpe,rfl,hsp,rfl⟩ SB)
  rintro v32 M32 _ ⟨x32,s32,he32,h032,h1F32,hs32,⟨us32,rfl,hr32⟩,rfl⟩
  have hul32 : us32.length = 3:=hr32.1.trans (Val.aq _)
  refine RX.of ?_
  refine RL.aW hr32 ?_
  refine RL.aD 3 rfl rfl RP MM EL (by first | exact Kn.bk MM EL | exact Kn.bl rfl) aB ?_
  refine RL.nil ?_
  refine hK8 _ _ _ ?_
  refine CW.kp [8] rfl ?_
  refine CW.ret ?_
  exact aC.mk rfl MM (by first | rfl | exact hul32) aE (az.drop ⟨x32,s32,hr.trans he32,h032,h1F32,hs32,⟨_,rfl,hr32⟩,rfl⟩ SB)
 refine CW.seq fun K9 hK9=>?_
 refine CW.region ?_
 refine RL.q (Y.eql rfl rfl) rfl ?_
 refine RL.q (Y.assign rfl) rfl ?_
 refine RL.nil ?_
 refine hK9 _ _ _ ?_
 refine CW.kp [0,2,5,7,8,13,33] rfl ?_
 refine CW.ite rfl (fun h3=>?_) (fun h3=>?_)
 ·rw [gv,if_neg h1,if_pos h3] at hr
  obtain ⟨hkl,hr⟩:=j9 (k:=1) rfl hr hb
  refine CW.seq fun K10 hK10=>?_
  refine CW.gz 11 mix (x:=bZ br um ud F s) PK ?_
  refine HQ.take 0 rfl KR KR KR rfl (Y.move rfl) rfl ?_
  refine HQ.take 1 rfl KR KR KR rfl (Y.field rfl cI) rfl ?_
  refine HQ.aN 2 rfl KR KR KR rfl rfl MM MM (by rfl) gj rfl fun a37 c37 hu37 hc37 hl37=>?_
  refine HQ.take 3 rfl KR KR KR rfl (Y.index 1 rfl rfl rfl AO iW SM) rfl ?_
  refine HQ.aM 4 rfl KR KR KR rfl rfl MM (Eq.trans (aS Ex.aq _ _ _ (List.getElem?_eq_getElem AO)) (Ex.ay _)) (by rfl) jG rfl fun us39 hul39 hur39=>?_
  refine HQ.take 5 rfl KR KR KR rfl (Y.move rfl) rfl ?_
  refine HQ.take 6 rfl KR KR KR rfl (Y.field rfl mo) rfl ?_
  refine HQ.take 7 rfl KR KR KR rfl (Y.gD [_,_,_] rfl MM MM (by rfl) kE) rfl ?_
  refine HQ.take 8 rfl KR KR KR rfl (Y.bN rfl MM MM EL aE) rfl ?_
  refine HQ.step 9 rfl KR ?_
  refine RL.call rfl func91 rfl rfl (by exact nS _ _ _ env _ e.id 0 v usv hE.scope KK) ?_
  rintro v44 M44 _ ⟨hs44,rfl,hsc44⟩
  obtain ⟨p44,rfl,_⟩:=hsc44.ptr
  refine RL.nil ⟨bT (hs44) SB,?_⟩
  refine HQ.call 10 rfl KR rfl func74 rfl rfl (by exact bn.pick (x:=bZ br um ud F s) PK (ih _ _ _ e.kids[1] _ ((e.id,0,v)::env) _ s (hE.mono hs44 hs0 hsF hsc44) KK (hr ▸ hb))) ?_ (by rintro ch Mp _ ⟨x,sp2,hpe,rfl,hsp,rfl⟩;exact az.drop ⟨x,sp2,hr.trans hpe,rfl,hs44.trans hsp,rfl⟩ SB)
  rintro v45 M45 _ ⟨x45,s45,he45,h045,h1F45,hs45,⟨us45,rfl,hr45⟩,rfl⟩
  have hul45 : us45.length = 3:=hr45.1.trans (Val.aq _)
  refine ⟨bT (hs44.trans (hs45)) SB,?_⟩
  refine HQ.last 11 rfl ⟨KR,rfl⟩ KR ?_
  refine RL.aW hr45 ?_
  refine RL.aD 3 rfl rfl RP MM EL (by first | exact Kn.bk MM EL | exact Kn.bl rfl) aB ?_
  refine RL.nil ?_
  refine hK10 _ _ _ ?_
  refine CW.kp [8] rfl ?_
  refine CW.ret ?_
  exact aC.mk rfl MM (by first | rfl | exact hul45) aE (az.drop ⟨x45,s45,hr.trans he45,h045,h1F45,hs44.trans hs45,⟨_,rfl,hr45⟩,rfl⟩ SB)
 refine CW.seq fun K11 hK11=>?_
 refine CW.region ?_
 refine RL.q (Y.eql rfl rfl) rfl ?_
 refine RL.q (Y.assign rfl) rfl ?_
 refine RL.nil ?_
 refine hK11 _ _ _ ?_
 refine CW.kp [0,2,5,7,8,13,46] rfl ?_
 refine CW.ite rfl (fun h4=>?_) (fun h4=>?_)
 ·rw [gv,if_neg h1,if_neg h3,if_pos h4] at hr
  have hn0 : 0<=e.n:=Decidable.byContradiction fun h=>hb (by rw [hr,if_neg h])
  rw [if_pos hn0] at hr
  obtain ⟨kk,hkk⟩:=Int.eq_ofNat_of_zero_le hn0
  obtain ⟨x,hx,hr⟩:=xZ hr hb
  rw [hkk,Int.toNat_natCast] at hx
  obtain ⟨hkl,rfl⟩:=List.getElem?_eq_some_iff.1 hx
  refine CW.seq fun K12 hK12=>?_
  refine CW.region ?_
  refine RL.q (Y.field rfl cX) rfl ?_
  refine RL.aN rfl rfl MM MM (by rfl) fm rfl fun a49 c49 hu49 hc49 hl49=>?_
  refine RL.q (Y.field rfl ic) rfl ?_
  refine RL.q (Y.bh rfl MM MM (by rfl) cE) rfl ?_
  refine RL.q (Y.index kk rfl rfl hkk hkl en (fun _ hw=>hw.rd_some MM OM)) rfl ?_
  refine RL.aM rfl rfl MM (Eq.trans (aS Val.aq _ _ _ (List.getElem?_eq_getElem AO)) (Val.ay _)) (by rfl) aE rfl fun us53 hul53 hur53=>?_
  refine RL.aD 3 rfl rfl RP MM EL (by first | exact Kn.bk MM EL | exact Kn.bl rfl) aB ?_
  refine RL.nil ?_
  refine hK12 _ _ _ ?_
  refine CW.kp [8] rfl ?_
  refine CW.ret ?_
  exact aC.mk rfl MM (by first | rfl | exact hul53) aE (az.drop ⟨v.kids[kk],s,hr,hs0,hsF,Sub.refl _,⟨_,rfl,by rw [Val.ay];exact hur53⟩,rfl⟩ SB)
 refine CW.seq fun K13 hK13=>?_
 refine CW.region ?_
 refine RL.q (Y.eql rfl rfl) rfl ?_
 refine RL.q (Y.assign rfl) rfl ?_
 refine RL.nil ?_
 refine hK13 _ _ _ ?_
 refine CW.kp [0,2,5,7,8,54] rfl ?_
 refine CW.ite rfl (fun h5=>?_) (fun h5=>?_)
 ·rw [gv,if_neg h1,if_neg h3,if_neg h4,if_pos h5] at hr
  obtain ⟨hv0,hvl⟩ : ∃ h : 0 < v.kids.length,v.kids[0]? = some v.kids[0]:=by
    rcases Nat.eq_zero_or_pos v.kids.length with h | h
    · rw [List.eq_nil_of_length_eq_zero h] at hr;exact absurd hr hb
    · exact ⟨h,List.getElem?_eq_getElem h⟩
  rw [hvl] at hr
  simp only at hr
  have hvn : -4611686018427387904<=v.n/\v.n<=4611686018427387904:=Decidable.byContradiction fun h=>hb (by rw [hr,if_neg h])
  rw [if_pos hvn] at hr
  obtain ⟨kk,hkk⟩:=EZ hr hb
  obtain ⟨hkl,hr⟩:=j9 hkk hr hb
  refine CW.seq fun K14 hK14=>?_
  refine CW.gz 19 mix (x:=bZ br um ud F s) PK ?_
  refine HQ.take 0 rfl KR KR KR rfl (Y.move rfl) rfl ?_
  refine HQ.take 1 rfl KR KR KR rfl (Y.field rfl cI) rfl ?_
  refine HQ.aN 2 rfl KR KR KR rfl rfl MM MM (by rfl) gj rfl fun a58 c58 hu58 hc58 hl58=>?_
  refine HQ.take 3 rfl KR KR KR rfl (Y.field rfl bM) rfl ?_
  refine HQ.take 4 rfl KR KR KR rfl (Y.bh rfl MM MM (by rfl) cE) rfl ?_
  refine HQ.take 5 rfl KR KR KR rfl (Y.add rfl rfl OM) rfl ?_
  refine HQ.take 6 rfl KR KR KR rfl (Y.index kk rfl rfl hkk hkl iW (fun _ hw=>hw.rd_some MM OM)) rfl ?_
  refine HQ.aM 7 rfl KR KR KR rfl rfl MM (Eq.trans (aS Ex.aq _ _ _ (List.getElem?_eq_getElem AO)) (Ex.ay _)) (by rfl) jG rfl fun us63 hul63 hur63=>?_
  refine HQ.take 8 rfl KR KR KR rfl (Y.move rfl) rfl ?_
  refine HQ.take 9 rfl KR KR KR rfl (Y.field rfl mo) rfl ?_
  refine HQ.take 10 rfl KR KR KR rfl (Y.gD [_,_,_] rfl MM MM (by rfl) kE) rfl ?_
  refine HQ.take 11 rfl KR KR KR rfl (Y.field rfl bM) rfl ?_
  refine HQ.take 12 rfl KR KR KR rfl (Y.bh rfl MM MM (by rfl) cE) rfl ?_
  refine HQ.take 13 rfl KR KR KR rfl (Y.field rfl cX) rfl ?_
  refine HQ.aN 14 rfl KR KR KR rfl rfl MM MM (by rfl) fm rfl fun a70 c70 hu70 hc70 hl70=>?_
  refine HQ.take 15 rfl KR KR KR rfl (Y.index 0 rfl rfl rfl AO en SM) rfl ?_
  refine HQ.aM 16 rfl KR KR KR rfl rfl MM (Eq.trans (aS Val.aq _ _ _ (List.getElem?_eq_getElem AO)) (Val.ay _)) (by rfl) aE rfl fun us72 hul72 hur72=>?_
  refine HQ.step 17 rfl KR ?_
  refine RL.call rfl func91 rfl rfl (by exact nS _ _ _ env _ e.id v.n v.kids[0] us72 hE.scope KK) ?_
  rintro v73 M73 _ ⟨hs73,rfl,hsc73⟩
  obtain ⟨p73,rfl,_⟩:=hsc73.ptr
  refine RL.nil ⟨bT (hs73) SB,?_⟩
  refine HQ.call 18 rfl KR rfl func74 rfl rfl (by exact bn.pick (x:=bZ br um ud F s) PK (ih _ _ _ e.kids[kk] _ ((e.id,v.n,v.kids[0])::env) _ s (hE.mono hs73 hs0 hsF hsc73) KK (hr ▸ hb))) ?_ (by rintro ch Mp _ ⟨x,sp2,hpe,rfl,hsp,rfl⟩;exact az.drop ⟨x,sp2,hr.trans hpe,rfl,hs73.trans hsp,rfl⟩ SB)
  rintro v74 M74 _ ⟨x74,s74,he74,h074,h1F74,hs74,⟨us74,rfl,hr74⟩,rfl⟩
  have hul74 : us74.length = 3:=hr74.1.trans (Val.aq _)
  refine ⟨bT (hs73.trans (hs74)) SB,?_⟩
  refine HQ.last 19 rfl ⟨KR,rfl⟩ KR ?_
  refine RL.aW hr74 ?_
  refine RL.aD 3 rfl rfl RP MM EL (by first | exact Kn.bk MM EL | exact Kn.bl rfl) aB ?_
  refine RL.nil ?_
  refine hK14 _ _ _ ?_
  refine CW.kp [8] rfl ?_
  refine CW.ret ?_
  exact aC.mk rfl MM (by first | rfl | exact hul74) aE (az.drop ⟨x74,s74,hr.trans he74,h074,h1F74,hs73.trans hs74,⟨_,rfl,hr74⟩,rfl⟩ SB)
 rw [gv,if_neg h1,if_neg h3,if_neg h4,if_neg h5] at hr
 have hab:=oR hr hb
 obtain ⟨ra,hra0⟩ : ∃ ra,ra = kf (aI p F g) e.kids 1 env s:=⟨_,rfl⟩
 rw [<-hra0] at hr hab
 obtain ⟨hk1,hk1e⟩:=j9 (k:=1) rfl hra0 hab
 rw [hk1e] at hr hab
 refine CW.skip ?_
 refine hK2 _ _ _ ?_
 refine CW.seq fun K15 hK15=>?_
 refine CW.eO ?_
 refine RX.step ?_
 refine RL.q (Y.move rfl) rfl ?_
 refine RL.nil ?_
 refine RX.step ?_
 refine RL.q (Y.field rfl cI) rfl ?_
 refine RL.nil ?_
 refine RX.step ?_
 refine RL.aN rfl rfl MM MM (by rfl) gj rfl fun a77 c77 hu77 hc77 hl77=>?_
 refine RL.nil ?_
 refine RX.step ?_
 refine RL.q (Y.index 1 rfl rfl rfl AO iW SM) rfl ?_
 refine RL.nil ?_
 refine RX.step ?_
 refine RL.aM rfl rfl MM (Eq.trans (aS Ex.aq _ _ _ (List.getElem?_eq_getElem AO)) (Ex.ay _)) (by rfl) jG rfl fun us79 hul79 hur79=>?_
 refine RL.nil ?_
 refine RX.step ?_
 refine RL.q (Y.move rfl) rfl ?_
 refine RL.nil ?_
 refine RX.call rfl func74 rfl rfl (by exact bn.pick (x:=bZ br um ud F s) PK (ih _ _ _ e.kids[1] _ env _ s (hE) KK (hab))) ?_ (by rintro ch Mp _ ⟨x,sp2,hpe,rfl,hsp,rfl⟩;exact az.drop ⟨x,sp2,w7 hr hpe,rfl,hsp,rfl⟩ SB)
 rintro v81 M81 _ ⟨x81,s81,he81,h081,h1F81,hs81,⟨us81,rfl,hr81⟩,rfl⟩
 have hul81 : us81.length = 3:=hr81.1.trans (Val.aq _)
 refine RX.of ?_
 refine RL.aW hr81 ?_
 refine RL.alloc _ aZ rfl rfl fun b9=>?_
 refine RL.aD 3 rfl rfl RP MM EL (by first | exact Kn.bk MM EL | exact Kn.bl rfl) aB ?_
 refine RL.nil ?_
 refine hK15 _ _ _ ?_
 refine CW.kp [0,2,5,7,8,9] rfl ?_
 refine CW.seq fun K16 hK16=>?_
 refine CW.seq fun K17 hK17=>?_
 refine CW.front (x:=bZ br um ud F s81) PK ?_
 refine CW.front (x:=.own b9 26 us81) PK ?_
 refine CW.aW hr81 ?_
 refine CW.region ?_
 refine RL.q (Y.field rfl cX) rfl ?_
 refine RL.aN rfl rfl MM MM (by rfl) fm rfl fun a83 c83 hu83 hc83 hl83=>?_
 refine RL.q (Y.len rfl Tryd.underlying24) rfl ?_
 refine RL.q (Y.move rfl) rfl ?_
 refine RL.nil ?_
 refine hK17 _ _ _ ?_
 refine CW.kp [0,2,5,8,9,83,84,85] rfl ?_
 refine CW.block ?_
 -- LOOP 1: live [0,2,5,8,9,83,84,85] changed [85]
 refine CW.kp [85,0,2,5,8,9,83,84] rfl ?_
 refine CW.front (x:=bZ br um ud F s81) PK ?_
 refine CW.front (x:=.own b9 26 us81) PK ?_
 refine CW.front (x:=.rds x81.enc us81) PK ?_
 refine CW.ou (fun m Lc M1 Γc=>∃ (k : Nat) (acc : Val) (sk : Int) (usa : List Value),m = v.kids.length - k/\k<=v.kids.length/\Lc = [(85,av k)]/\Γc = [.rds acc.enc usa,.own b9 26 usa,bZ br um ud F sk]/\0<=sk/\sk<=F/\RdL M1 acc.enc usa/\Sub M M1/\r = fZ (fun x a s2=>kf (aI p F g) e.kids 2 ((e.id,1,a)::(e.id,0,x)::env) s2) (v.kids.drop k) acc sk) v.kids.length [(85,_)] [_,_,_] rfl rfl ⟨0,x81,s81,us81,rfl,Nat.zero_le _,rfl,rfl,h081,h1F81,hr81,hs81,w6 hr he81⟩ ?_
 rintro m Lc M1 Γc hs0x ⟨k,acc,sk,usa,rfl,hk,rfl,rfl,hk0,hkF,hra,hs,hrk⟩
 have hula : usa.length = 3:=hra.1.trans (Val.aq _)
 refine CW.seq fun K18 hK18=>?_
 refine CW.region ?_
 refine RL.q (Y.lss rfl rfl) rfl ?_
 refine RL.nil ?_
 refine hK18 _ _ _ ?_
 refine CW.kp [0,2,5,8,9,83,84,85,86] rfl ?_
 refine CW.seq fun K19 hK19=>?_
 refine CW.ite rfl (fun h6=>?_) (fun h6=>?_)
 ·have hka : k < v.kids.length:=by omega
  rw [Ae hka] at hrk
  have hfb:=oR hrk hb
  obtain ⟨hk2,hkr⟩:=j9 (k:=2) rfl rfl hfb
  refine CW.skip ?_
  refine hK19 _ _ _ ?_
  refine CW.seq fun K20 hK20=>?_
  refine CW.block ?_
  refine CW.seq fun K21 hK21=>?_
  refine CW.region ?_
  refine RL.q (Y.index _ rfl rfl rfl AO en SM) rfl ?_
  refine RL.aM rfl rfl MM (Eq.trans (aS Val.aq _ _ _ (List.getElem?_eq_getElem AO)) (Val.ay _)) (by rfl) aE rfl fun us88 hul88 hur88=>?_
  refine RL.alloc _ aZ rfl rfl fun b11=>?_
  refine RL.aD 3 rfl rfl RP MM EL (by first | exact Kn.bk MM EL | exact Kn.bl rfl) aB ?_
  refine RL.nil ?_
  refine hK21 _ _ _ ?_
  refine CW.kp [0,2,5,8,9,11,83,84,85] rfl ?_
  refine CW.gz 15 mix (x:=bZ br um ud F sk) PK ?_
  refine HQ.take 0 rfl KR KR KR rfl (Y.move rfl) rfl ?_
  refine HQ.take 1 rfl KR KR KR rfl (Y.field rfl cI) rfl ?_
  refine HQ.aN 2 rfl KR KR KR rfl rfl MM MM (by rfl) gj rfl fun a91 c91 hu91 hc91 hl91=>?_
  refine HQ.take 3 rfl KR KR KR rfl (Y.index 2 rfl rfl rfl AO iW SM) rfl ?_
  refine HQ.aM 4 rfl KR KR KR rfl rfl MM (Eq.trans (aS Ex.aq _ _ _ (List.getElem?_eq_getElem AO)) (Ex.ay _)) (by rfl) jG rfl fun us93 hul93 hur93=>?_
  refine HQ.take 5 rfl KR KR KR rfl (Y.move rfl) rfl ?_
  refine HQ.take 6 rfl KR KR KR rfl (Y.field rfl mo) rfl ?_
  refine HQ.take 7 rfl KR KR KR rfl (Y.gD [_,_,_] rfl MM MM (by rfl) kE) rfl ?_
  refine HQ.take 8 rfl KR KR KR rfl (Y.bN rfl MM MM EL aE) rfl ?_
  refine HQ.take 10 rfl KR KR KR rfl (Y.field rfl mo) rfl ?_
  refine HQ.take 11 rfl KR KR KR rfl (Y.gD [_,_,_] rfl MM MM (by rfl) kE) rfl ?_
  refine HQ.take 12 rfl KR KR KR rfl (Y.bN rfl MM MM EL aE) rfl ?_
  refine HQ.step 9 rfl KR ?_
  refine RL.call rfl func91 rfl rfl (by exact nS _ _ _ env _ e.id 0 v.kids[k] us88 (hE.scope.mono hs) KK) ?_
  rintro v98 M98 _ ⟨hs98,rfl,hsc98⟩
  obtain ⟨p98,rfl,_⟩:=hsc98.ptr
  refine RL.nil ⟨bT (hs98) SB,?_⟩
  refine HQ.step 13 rfl KR ?_
  refine RL.call rfl func91 rfl rfl (by exact nS _ _ _ ((e.id,0,v.kids[k])::env) _ e.id 1 acc usa hsc98 KK) ?_
  rintro v102 M102 _ ⟨hs102,rfl,hsc102⟩
  obtain ⟨p102,rfl,_⟩:=hsc102.ptr
  refine RL.nil ⟨bT (hs98.trans (hs102)) SB,?_⟩
  refine HQ.call 14 rfl KR rfl func74 rfl rfl (by exact bn.pick (x:=bZ br um ud F sk) PK (ih _ _ _ e.kids[2] _ ((e.id,1,acc)::(e.id,0,v.kids[k])::env) _ sk (hE.mono (hs.trans (hs98.trans hs102)) hk0 hkF hsc102) KK (hkr ▸ hfb))) ?_ (by rintro ch Mp _ ⟨x,sp2,hpe,rfl,hsp,rfl⟩;exact az.drop ⟨x,sp2,w7 hrk (hkr.trans hpe),rfl,(hs.trans (hs98.trans hs102)).trans hsp,rfl⟩ SB)
  rintro v103 M103 _ ⟨x103,vV,he103,h0103,h1F103,hs103,⟨us103,rfl,hr103⟩,rfl⟩
  have hul103 : us103.length = 3:=hr103.1.trans (Val.aq _)
  refine ⟨bT (hs98.trans (hs102.trans (hs103))) SB,?_⟩
  refine HQ.last 15 rfl ⟨KR,rfl⟩ KR ?_
  refine RL.aW hr103 ?_
  refine RL.aD 3 rfl rfl RP MM EL (by first | exact Kn.bk MM EL | exact Kn.bl rfl) aB ?_
  refine RL.nil ?_
  refine hK20 _ _ _ ?_
  refine CW.kp [0,2,5,8,9,83,84,85] rfl ?_
  refine CW.region ?_
  refine RL.q (Y.add rfl rfl OM) rfl ?_
  refine RL.q (Y.move rfl) rfl ?_
  refine RL.nil ?_
  refine ⟨v.kids.length - (k+1),[(85,_)],?_,(KP [85,0,2,5,8,9,83,84]),?_⟩
  · omega
  · refine az.front (x:=bZ br um ud F vV) PK ?_
    refine az.front (x:=.own b9 26 us103) PK ?_
    refine az.aW hr103 ?_
    exact az.drop ⟨[_,_,_],rfl,hs0x.trans (hs98.trans (hs102.trans hs103)),k+1,x103,vV,us103,rfl,by omega,rfl,rfl,h0103,h1F103,hr103,hs.trans (hs98.trans (hs102.trans hs103)),w6 hrk (hkr.trans he103)⟩ SB
 refine CW.exit ?_
 refine hK16 _ _ _ ?_
 refine CW.seq fun K22 hK22=>?_
 refine CW.region ?_
 refine RL.q (Y.bN rfl MM MM EL aE) rfl ?_
 refine RL.aD 3 rfl rfl RP MM EL (by first | exact Kn.bk MM EL | exact Kn.bl rfl) aB ?_
 refine RL.nil ?_
 refine hK22 _ _ _ ?_
 refine CW.kp [8] rfl ?_
 refine CW.ret ?_
 obtain rfl : k = v.kids.length:=by omega
 rw [CV rfl] at hrk
 exact aC.mk rfl MM (by first | rfl | exact hula) aE (az.drop ⟨acc,sk,hrk,hk0,hkF,hs,⟨_,rfl,hra⟩,rfl⟩ SB)
set_option maxRecDepth 4000 in
set_option maxHeartbeats 2000000 in
theorem Dn {p : ProgT} {F : Int} {br : Nat} {um ud : Value} {g : Nat} (ih : fA Tryd.prog p F br um ud g) (w0 : World) (M : Mem) (Γ : List As) (e : Ex) (use : List Value) (env : Env) (sp : Value) (s : Int) (hE : EvHyp M p um ud F s env sp) (he : Kn w0 M (bZ br um ud F s::Γ) (RdL M e.enc use)) (r : EO) (hr : r = bH p (aI p F g) e env s) (hb : r ≠ .bad) :
   bn Tryd.prog w0 M (bZ br um ud F s::Γ) 102 #[cH br,.agg use.toArray,sp] (lV M Γ br um ud F r) (jg M Γ br um ud F r):=by
 refine bn.kn he fun he=>?_
 have hs0:=hE.s0
 have hsF:=hE.sF
 have hF1:=hE.F1
 rw [Ex.ay] at he
 refine gk (f:=102) Tryd.func102 rfl Tryd.ntmps102 rfl rfl fun w1 hw1=>?_
 refine CW.aW he ?_
 refine CW.seq fun K1 hK1=>?_
 refine CW.region ?_
 refine RL.box _ rfl rfl rfl fun b4=>?_
 refine RL.alloc _ aZ rfl rfl fun b6=>?_
 refine RL.nil ?_
 refine hK1 _ _ _ ?_
 refine CW.kp [0,2,4,6] rfl ?_
 refine CW.seq fun K2 hK2=>?_
 refine CW.seq fun K3 hK3=>?_
 refine CW.region ?_
 refine RL.q (Y.field rfl vc) rfl ?_
 refine RL.q (Y.bh rfl MM MM (by rfl) cE) rfl ?_
 refine RL.nil ?_
 refine hK3 _ _ _ ?_
 refine CW.kp [0,2,4,6,10] rfl ?_
 refine CW.block ?_
 refine CW.seq fun K4 hK4=>?_
 refine CW.region ?_
 refine RL.q (Y.eql rfl rfl) rfl ?_
 refine RL.q (Y.assign rfl) rfl ?_
 refine RL.nil ?_
 refine hK4 _ _ _ ?_
 refine CW.kp [0,2,4,6,10,11] rfl ?_
 refine CW.ite rfl (fun h1=>?_) (fun h1=>?_)
 ·rw [bH,if_pos h1] at hr
  refine CW.seq fun K5 hK5=>?_
  refine CW.region ?_
  refine RL.q (Y.field rfl ic) rfl ?_
  refine RL.q (Y.bh rfl MM MM (by rfl) cE) rfl ?_
  refine RL.q (Y.build [_,_,_] rfl aZ cu (by rfl)) rfl ?_
  refine RL.aG _ rfl rfl RP (by rfl) (by first | (simp;done) | simp [IdT.vals]) (by first | (simp [Value.oneCell'];done) | simp [Value.oneCell',IdT.vals]) aB ?_
  refine RL.nil ?_
  refine hK5 _ _ _ ?_
  refine CW.kp [6] rfl ?_
  refine CW.ret ?_
  exact aC.mk rfl MM (by first | rfl | exact rfl) aE (az.drop ⟨.mk 0 e.n [],s,hr,hs0,hsF,Sub.refl _,⟨_,rfl,fc 0 e.n⟩,rfl⟩ SB)
 refine CW.seq fun K6 hK6=>?_
 refine CW.region ?_
 refine RL.q (Y.eql rfl rfl) rfl ?_
 refine RL.q (Y.assign rfl) rfl ?_
 refine RL.nil ?_
 refine hK6 _ _ _ ?_
 refine CW.kp [0,2,4,6,10,16] rfl ?_
 refine CW.ite rfl (fun h2=>?_) (fun h2=>?_)
 ·rw [bH,if_neg h1,if_pos h2] at hr
  refine CW.seq fun K7 hK7=>?_
  refine CW.region ?_
  refine RL.q (Y.field rfl ic) rfl ?_
  refine RL.q (Y.bh rfl MM MM (by rfl) cE) rfl ?_
  refine RL.q (Y.neq rfl rfl) rfl ?_
  refine RL.er rfl func31 rfl rfl (by exact cy _ _ _ _) ?_
  refine RL.aG _ rfl rfl RP (by rfl) (by first | (simp;done) | simp [IdT.vals]) (by first | (simp [Value.oneCell'];done) | simp [Value.oneCell',IdT.vals]) aB ?_
  refine RL.nil ?_
  refine hK7 _ _ _ ?_
  refine CW.kp [6] rfl ?_
  refine CW.ret ?_
  exact aC.mk rfl MM (by first | rfl | exact rfl) aE (az.drop ⟨fL (e.n ≠ 0),s,hr,hs0,hsF,Sub.refl _,⟨_,rfl,cw _ decide_eq_true_iff⟩,rfl⟩ SB)
 refine CW.seq fun K8 hK8=>?_
 refine CW.region ?_
 refine RL.q (Y.eql rfl rfl) rfl ?_
 refine RL.q (Y.assign rfl) rfl ?_
 refine RL.nil ?_
 refine hK8 _ _ _ ?_
 refine CW.kp [0,2,4,6,10,22] rfl ?_
 refine CW.ite rfl (fun h3=>?_) (fun h3=>?_)
 ·rw [bH,if_neg h1,if_neg h2,if_pos h3] at hr
  refine CW.seq fun K9 hK9=>?_
  refine CW.region ?_
  refine RL.q (Y.move rfl) rfl ?_
  refine RL.q (Y.field rfl vb) rfl ?_
  refine RL.q (Y.gD [_,_,_] rfl MM MM (by rfl) kE) rfl ?_
  refine RL.q (Y.field rfl ic) rfl ?_
  refine RL.q (Y.bh rfl MM MM (by rfl) cE) rfl ?_
  refine RL.q (Y.build (e.ref.vals++[av e.n]) rfl AK uE (by rfl)) rfl ?_
  refine RL.call rfl func111 rfl rfl (by exact find_ok _ _ _ env _ e.ref e.n hE.scope) ?_
  rintro v30 M _ ⟨rfl,rfl,us30,rfl,hr30⟩
  refine RL.aW hr30 ?_
  have hul30 : us30.length = 3:=hr30.1.trans (Val.aq _)
  refine RL.aD 3 rfl rfl RP MM EL (by first | exact Kn.bk MM EL | exact Kn.bl rfl) aB ?_
  refine RL.nil ?_
  refine hK9 _ _ _ ?_
  refine CW.kp [6] rfl ?_
  refine CW.ret ?_
  exact aC.mk rfl MM (by first | rfl | exact hul30) aE (az.drop ⟨dM env e.ref e.n,s,hr,hs0,hsF,Sub.refl _,⟨_,rfl,hr30⟩,rfl⟩ SB)
 refine CW.seq fun K10 hK10=>?_
 refine CW.region ?_
 refine RL.q (Y.eql rfl rfl) rfl ?_
 refine RL.q (Y.assign rfl) rfl ?_
 refine RL.nil ?_
 refine hK10 _ _ _ ?_
 refine CW.kp [0,2,4,6,10,31] rfl ?_
 refine CW.ite rfl (fun h4=>?_) (fun h4=>?_)
 ·rw [bH,if_neg h1,if_neg h2,if_neg h3,if_pos h4] at hr
  have hab:=lR hr hb
  obtain ⟨ra,hra0⟩ : ∃ ra,ra = iT (fun x s=>aI p F g x env s) e.kids s:=⟨_,rfl⟩
  rw [<-hra0] at hr hab
  obtain ⟨hkl,hra⟩:=oS hra0 hab
  refine CW.seq fun K11 hK11=>?_
  refine CW.jT mix _ _ (fun _ hw=>hw) ?_
  refine HL.take 0 rfl KR KR KR rfl (Y.move rfl) rfl ?_
  refine HL.take 1 rfl KR KR KR rfl (Y.nilCheck rfl) rfl ?_
  refine HL.take 2 rfl KR KR KR rfl (Y.field rfl Ao) rfl ?_
  refine HL.take 3 rfl KR KR KR rfl (Y.j7 [um,ud] rfl MM (fun j v hj=>by rcases j with _ | _ | j;exact hj;exact hj;simp at hj) tE) rfl ?_
  refine HL.take 4 rfl KR KR KR rfl (Y.field rfl vb) rfl ?_
  refine HL.take 5 rfl KR KR KR rfl (Y.gD [_,_,_] rfl MM MM (by rfl) kE) rfl ?_
  refine HL.step2 6 10 rfl rfl KR ?_ ?_
  ·refine RL.call rfl func57 rfl rfl (by exact Av _ _ _ p _ e.ref (Kn.of hE.prog)) ?_
   rintro v40 M _ ⟨rfl,rfl,us40,rfl,hr40⟩
   refine RL.aW hr40 ?_
   have hul40 : us40.length = 31:=hr40.1.trans (DefT.aq _)
   refine RL.nil ⟨aQ SB,?_⟩
   refine HL.take 7 rfl KR KR KR rfl (Y.move rfl) rfl ?_
   refine HL.take 8 rfl KR KR KR rfl (Y.extract rfl rfl) rfl ?_
   refine HL.take 9 rfl KR KR KR rfl (Y.extract rfl rfl) rfl ?_
   refine HL.step 10 rfl KR ?_
   refine RL.alloc _ mV rfl rfl fun b7=>?_
   refine RL.nil ⟨aQ SB,?_⟩
   refine HL.step 11 rfl KR ?_
   refine RL.aD 31 rfl rfl RP MM EL (by first | exact Kn.bk MM EL | exact Kn.bl rfl) jR ?_
   refine RL.nil ⟨aQ SB,?_⟩
   refine HL.take 12 rfl KR KR KR rfl (Y.assign rfl) rfl ?_
   refine HL.done KR ?_
   refine hK11 _ _ _ ?_
   refine CW.kp [0,2,4,6,7] rfl ?_
   refine CW.seq fun K12 hK12=>?_
   refine CW.gz 8 mix (x:=bZ br um ud F s) PK ?_
   refine HQ.take 0 rfl KR KR KR rfl (Y.move rfl) rfl ?_
   refine HQ.take 1 rfl KR KR KR rfl (Y.bN rfl MM MM EL lP) rfl ?_
   refine HQ.take 2 rfl KR KR KR rfl (Y.move rfl) rfl ?_
   refine HQ.take 3 rfl KR KR KR rfl (Y.field rfl cI) rfl ?_
   refine HQ.aN 4 rfl KR KR KR rfl rfl MM MM (by rfl) gj rfl fun a47 c47 hu47 hc47 hl47=>?_
   refine HQ.take 5 rfl KR KR KR rfl (Y.move rfl) rfl ?_
   refine HQ.call 6 rfl KR rfl func112 rfl rfl (by exact bn.pick (x:=bZ br um ud F s) PK (pX ih _ _ _ e.kids _ env sp s hE KK hkl ra hra hab)) ?_ (by rintro ch Mp _ ⟨x,sp2,hpe,rfl,hsp,rfl⟩;exact az.drop ⟨x,sp2,jI hr hpe,rfl,hsp,rfl⟩ SB)
   rintro v49 M49 _ ⟨l49,s49,he49,h049,h1F49,hs49,hr49,rfl⟩
   obtain ⟨a49,c49,rfl,hc49,hlm49,hln49⟩:=hr49.slice
   have hr:=jH hr he49
   have hsm49:=fz (hra.symm.trans he49)
   obtain ⟨env2,hae⟩ : ∃ env2,dg (aj p e.ref).slots l49 [] = some env2:=by
     cases h : dg (aj p e.ref).slots l49 [] with
     | none=>rw [h] at hr;exact absurd hr hb
     | some env2=>exact ⟨env2,rfl⟩
   rw [hae] at hr
   simp only at hr
   refine ⟨bT (hs49) SB,?_⟩
   refine HQ.call 7 rfl KR rfl func63 rfl rfl (by exact bn.pick (x:=bZ br um ud F s49) PK (oO ih _ _ _ (aj p e.ref) us40 l49 _ env2 s49 (hE.mono hs49 h049 h1F49 rfl) KK (Kn.of hr49) hae (hr ▸ hb))) ?_ (by rintro ch Mp _ ⟨x,sp2,hpe,rfl,hsp,rfl⟩;exact az.drop ⟨x,sp2,hr.trans hpe,rfl,hs49.trans hsp,rfl⟩ SB)
   rintro v50 M50 _ ⟨x50,s50,he50,h050,h1F50,hs50,⟨us50,rfl,hr50⟩,rfl⟩
   have hul50 : us50.length = 3:=hr50.1.trans (Val.aq _)
   refine ⟨bT (hs49.trans (hs50)) SB,?_⟩
   refine HQ.last 8 rfl ⟨KR,rfl⟩ KR ?_
   refine RL.aW hr50 ?_
   refine RL.aD 3 rfl rfl RP MM EL (by first | exact Kn.bk MM EL | exact Kn.bl rfl) aB ?_
   refine RL.nil ?_
   refine hK12 _ _ _ ?_
   refine CW.kp [6] rfl ?_
   refine CW.ret ?_
   exact aC.mk rfl MM (by first | rfl | exact hul50) aE (az.drop ⟨x50,s50,hr.trans he50,h050,h1F50,hs49.trans hs50,⟨_,rfl,hr50⟩,rfl⟩ SB)
  refine RL.alloc _ mV rfl rfl fun b7=>?_
  refine RL.nil ⟨aQ SB,?_⟩
  refine HL.step 6 rfl KR ?_
  refine RL.call rfl func57 rfl rfl (by exact Av _ _ _ p _ e.ref (Kn.of hE.prog)) ?_
  rintro v40 M _ ⟨rfl,rfl,us40,rfl,hr40⟩
  refine RL.aW hr40 ?_
  have hul40 : us40.length = 31:=hr40.1.trans (DefT.aq _)
  refine RL.nil ⟨aQ SB,?_⟩
  refine HL.take 7 rfl KR KR KR rfl (Y.move rfl) rfl ?_
  refine HL.take 8 rfl KR KR KR rfl (Y.extract rfl rfl) rfl ?_
  refine HL.take 9 rfl KR KR KR rfl (Y.extract rfl rfl) rfl ?_
  refine HL.step 11 rfl KR ?_
  refine RL.aD 31 rfl rfl RP MM EL (by first | exact Kn.bk MM EL | exact Kn.bl rfl) jR ?_
  refine RL.nil ⟨aQ SB,?_⟩
  refine HL.take 12 rfl KR KR KR rfl (Y.assign rfl) rfl ?_
  refine HL.done KR ?_
  refine hK11 _ _ _ ?_
  refine CW.kp [0,2,4,6,7] rfl ?_
  refine CW.seq fun K13 hK13=>?_
  refine CW.gz 8 mix (x:=bZ br um ud F s) PK ?_
  refine HQ.take 0 rfl KR KR KR rfl (Y.move rfl) rfl ?_
  refine HQ.take 1 rfl KR KR KR rfl (Y.bN rfl MM MM EL lP) rfl ?_
  refine HQ.take 2 rfl KR KR KR rfl (Y.move rfl) rfl ?_
  refine HQ.take 3 rfl KR KR KR rfl (Y.field rfl cI) rfl ?_
  refine HQ.aN 4 rfl KR KR KR rfl rfl MM MM (by rfl) gj rfl fun a47 c47 hu47 hc47 hl47=>?_
  refine HQ.take 5 rfl KR KR KR rfl (Y.move rfl) rfl ?_
  refine HQ.call 6 rfl KR rfl func112 rfl rfl (by exact bn.pick (x:=bZ br um ud F s) PK (pX ih _ _ _ e.kids _ env sp s hE KK hkl ra hra hab)) ?_ (by rintro ch Mp _ ⟨x,sp2,hpe,rfl,hsp,rfl⟩;exact az.drop ⟨x,sp2,jI hr hpe,rfl,hsp,rfl⟩ SB)
  rintro v49 M49 _ ⟨l49,s49,he49,h049,h1F49,hs49,hr49,rfl⟩
  obtain ⟨a49,c49,rfl,hc49,hlm49,hln49⟩:=hr49.slice
  have hr:=jH hr he49
  have hsm49:=fz (hra.symm.trans he49)
  obtain ⟨env2,hae⟩ : ∃ env2,dg (aj p e.ref).slots l49 [] = some env2:=by
    cases h : dg (aj p e.ref).slots l49 [] with
    | none=>rw [h] at hr;exact absurd hr hb
    | some env2=>exact ⟨env2,rfl⟩
  rw [hae] at hr
  simp only at hr
  refine ⟨bT (hs49) SB,?_⟩
  refine HQ.call 7 rfl KR rfl func63 rfl rfl (by exact bn.pick (x:=bZ br um ud F s49) PK (oO ih _ _ _ (aj p e.ref) us40 l49 _ env2 s49 (hE.mono hs49 h049 h1F49 rfl) KK (Kn.of hr49) hae (hr ▸ hb))) ?_ (by rintro ch Mp _ ⟨x,sp2,hpe,rfl,hsp,rfl⟩;exact az.drop ⟨x,sp2,hr.trans hpe,rfl,hs49.trans hsp,rfl⟩ SB)
  rintro v50 M50 _ ⟨x50,s50,he50,h050,h1F50,hs50,⟨us50,rfl,hr50⟩,rfl⟩
  have hul50 : us50.length = 3:=hr50.1.trans (Val.aq _)
  refine ⟨bT (hs49.trans (hs50)) SB,?_⟩
  refine HQ.last 8 rfl ⟨KR,rfl⟩ KR ?_
  refine RL.aW hr50 ?_
  refine RL.aD 3 rfl rfl RP MM EL (by first | exact Kn.bk MM EL | exact Kn.bl rfl) aB ?_
  refine RL.nil ?_
  refine hK13 _ _ _ ?_
  refine CW.kp [6] rfl ?_
  refine CW.ret ?_
  exact aC.mk rfl MM (by first | rfl | exact hul50) aE (az.drop ⟨x50,s50,hr.trans he50,h050,h1F50,hs49.trans hs50,⟨_,rfl,hr50⟩,rfl⟩ SB)
 refine CW.seq fun K14 hK14=>?_
 refine CW.region ?_
 refine RL.q (Y.eql rfl rfl) rfl ?_
 refine RL.q (Y.assign rfl) rfl ?_
 refine RL.nil ?_
 refine hK14 _ _ _ ?_
 refine CW.kp [0,2,4,6,10,51] rfl ?_
 refine CW.ite rfl (fun h5=>?_) (fun h5=>?_)
 ·rw [bH,if_neg h1,if_neg h2,if_neg h3,if_neg h4,if_pos h5] at hr
  have hab:=lR hr hb
  obtain ⟨ra,hra0⟩ : ∃ ra,ra = iT (fun x s=>aI p F g x env s) e.kids s:=⟨_,rfl⟩
  rw [<-hra0] at hr hab
  obtain ⟨hkl,hra⟩:=oS hra0 hab
  refine CW.seq fun K15 hK15=>?_
  refine CW.gz 8 mix (x:=bZ br um ud F s) PK ?_
  refine HQ.take 0 rfl KR KR KR rfl (Y.field rfl ic) rfl ?_
  refine HQ.take 1 rfl KR KR KR rfl (Y.bh rfl MM MM (by rfl) cE) rfl ?_
  refine HQ.take 2 rfl KR KR KR rfl (Y.move rfl) rfl ?_
  refine HQ.take 3 rfl KR KR KR rfl (Y.field rfl cI) rfl ?_
  refine HQ.aN 4 rfl KR KR KR rfl rfl MM MM (by rfl) gj rfl fun a57 c57 hu57 hc57 hl57=>?_
  refine HQ.take 5 rfl KR KR KR rfl (Y.move rfl) rfl ?_
  refine HQ.call 6 rfl KR rfl func112 rfl rfl (by exact bn.pick (x:=bZ br um ud F s) PK (pX ih _ _ _ e.kids _ env sp s hE KK hkl ra hra hab)) ?_ (by rintro ch Mp _ ⟨x,sp2,hpe,rfl,hsp,rfl⟩;exact az.drop ⟨x,sp2,jI hr hpe,rfl,hsp,rfl⟩ SB)
  rintro v59 M59 _ ⟨l59,s59,he59,h059,h1F59,hs59,hr59,rfl⟩
  obtain ⟨a59,c59,rfl,hc59,hlm59,hln59⟩:=hr59.slice
  have hr:=jH hr he59
  have hsm59:=fz (hra.symm.trans he59)
  obtain ⟨x60,hx60,hr⟩:=xZ hr hb
  refine ⟨bT (hs59) SB,?_⟩
  refine HQ.step 7 rfl KR ?_
  refine RL.fV hr59 ?_
  refine RL.call rfl func12 rfl rfl (by exact Bh _ _ _ e.n l59 _ x60 (Kn.of hr59) (hE.CC.mono hs59) (fun v hv=>Nat.le_trans (hsm59 v hv) OM) hx60) ?_
  rintro v60 M60 _ ⟨hs60,rfl,us60,rfl,hr60⟩
  refine RL.aW hr60 ?_
  have hul60 : us60.length = 3:=hr60.1.trans (Val.aq _)
  refine RL.nil ⟨bT (hs59.trans (hs60)) SB,?_⟩
  refine HQ.last 8 rfl ⟨KR,rfl⟩ KR ?_
  refine RL.aD 3 rfl rfl RP MM EL (by first | exact Kn.bk MM EL | exact Kn.bl rfl) aB ?_
  refine RL.nil ?_
  refine hK15 _ _ _ ?_
  refine CW.kp [6] rfl ?_
  refine CW.ret ?_
  exact aC.mk rfl MM (by first | rfl | exact hul60) aE (az.drop ⟨x60,s59,hr,h059,h1F59,hs59.trans hs60,⟨_,rfl,hr60⟩,rfl⟩ SB)
 refine CW.seq fun K16 hK16=>?_
 refine CW.region ?_
 refine RL.q (Y.eql rfl rfl) rfl ?_
 refine RL.q (Y.assign rfl) rfl ?_
 refine RL.nil ?_
 refine hK16 _ _ _ ?_
 refine CW.kp [0,2,4,6,10,61] rfl ?_
 refine CW.ite rfl (fun h6=>?_) (fun h6=>?_)
 ·rw [bH,if_neg h1,if_neg h2,if_neg h3,if_neg h4,if_neg h5,if_pos h6] at hr
  have hab:=lR hr hb
  obtain ⟨ra,hra0⟩ : ∃ ra,ra = iT (fun x s=>aI p F g x env s) e.kids s:=⟨_,rfl⟩
  rw [<-hra0] at hr hab
  obtain ⟨hkl,hra⟩:=oS hra0 hab
  refine CW.seq fun K17 hK17=>?_
  refine CW.eO ?_
  refine RX.step ?_
  refine RL.q (Y.move rfl) rfl ?_
  refine RL.nil ?_
  refine RX.step ?_
  refine RL.q (Y.field rfl cI) rfl ?_
  refine RL.nil ?_
  refine RX.step ?_
  refine RL.aN rfl rfl MM MM (by rfl) gj rfl fun a65 c65 hu65 hc65 hl65=>?_
  refine RL.nil ?_
  refine RX.step ?_
  refine RL.q (Y.move rfl) rfl ?_
  refine RL.nil ?_
  refine RX.call rfl func112 rfl rfl (by exact bn.pick (x:=bZ br um ud F s) PK (pX ih _ _ _ e.kids _ env sp s hE KK hkl ra hra hab)) ?_ (by rintro ch Mp _ ⟨x,sp2,hpe,rfl,hsp,rfl⟩;exact az.drop ⟨x,sp2,jI hr hpe,rfl,hsp,rfl⟩ SB)
  rintro v67 M67 _ ⟨l67,s67,he67,h067,h1F67,hs67,hr67,rfl⟩
  obtain ⟨a67,c67,rfl,hc67,hlm67,hln67⟩:=hr67.slice
  have hr:=jH hr he67
  have hsm67:=fz (hra.symm.trans he67)
  refine RX.of ?_
  refine RL.fV hr67 ?_
  refine RL.q (Y.build [_,_,_] rfl aZ cu (by rfl)) rfl ?_
  refine RL.aG _ rfl rfl RP (by rfl) (by first | (simp;done) | simp [IdT.vals]) (by first | (simp [Value.oneCell'];done) | simp [Value.oneCell',IdT.vals]) aB ?_
  refine RL.nil ?_
  refine hK17 _ _ _ ?_
  refine CW.kp [6] rfl ?_
  refine CW.ret ?_
  exact aC.mk rfl MM (by rfl) aE (az.drop ⟨.mk 2 0 l67,s67,hr,h067,h1F67,hs67,⟨_,rfl,j0 2 0 l67 hr67⟩,rfl⟩ SB)
 refine CW.seq fun K18 hK18=>?_
 refine CW.region ?_
 refine RL.q (Y.eql rfl rfl) rfl ?_
 refine RL.q (Y.assign rfl) rfl ?_
 refine RL.nil ?_
 refine hK18 _ _ _ ?_
 refine CW.kp [0,2,4,6,10,69] rfl ?_
 refine CW.ite rfl (fun h7=>?_) (fun h7=>?_)
 ·rw [bH,if_neg h1,if_neg h2,if_neg h3,if_neg h4,if_neg h5,if_neg h6,if_pos h7] at hr
  have hab:=lR hr hb
  obtain ⟨ra,hra0⟩ : ∃ ra,ra = iT (fun x s=>aI p F g x env s) e.kids s:=⟨_,rfl⟩
  rw [<-hra0] at hr hab
  obtain ⟨hkl,hra⟩:=oS hra0 hab
  refine CW.seq fun K19 hK19=>?_
  refine CW.gz 8 mix (x:=bZ br um ud F s) PK ?_
  refine HQ.take 0 rfl KR KR KR rfl (Y.field rfl ic) rfl ?_
  refine HQ.take 1 rfl KR KR KR rfl (Y.bh rfl MM MM (by rfl) cE) rfl ?_
  refine HQ.take 2 rfl KR KR KR rfl (Y.move rfl) rfl ?_
  refine HQ.take 3 rfl KR KR KR rfl (Y.field rfl cI) rfl ?_
  refine HQ.aN 4 rfl KR KR KR rfl rfl MM MM (by rfl) gj rfl fun a75 c75 hu75 hc75 hl75=>?_
  refine HQ.take 5 rfl KR KR KR rfl (Y.move rfl) rfl ?_
  refine HQ.call 6 rfl KR rfl func112 rfl rfl (by exact bn.pick (x:=bZ br um ud F s) PK (pX ih _ _ _ e.kids _ env sp s hE KK hkl ra hra hab)) ?_ (by rintro ch Mp _ ⟨x,sp2,hpe,rfl,hsp,rfl⟩;exact az.drop ⟨x,sp2,jI hr hpe,rfl,hsp,rfl⟩ SB)
  rintro v77 M77 _ ⟨l77,s77,he77,h077,h1F77,hs77,hr77,rfl⟩
  obtain ⟨a77,c77,rfl,hc77,hlm77,hln77⟩:=hr77.slice
  have hr:=jH hr he77
  have hsm77:=fz (hra.symm.trans he77)
  refine ⟨bT (hs77) SB,?_⟩
  refine HQ.take 7 rfl KR KR KR rfl (Y.build [_,_,_] rfl aZ cu (by rfl)) rfl ?_
  refine HQ.last 8 rfl ⟨KR,rfl⟩ KR ?_
  refine RL.fV hr77 ?_
  refine RL.aG _ rfl rfl RP (by rfl) (by first | (simp;done) | simp [IdT.vals]) (by first | (simp [Value.oneCell'];done) | simp [Value.oneCell',IdT.vals]) aB ?_
  refine RL.nil ?_
  refine hK19 _ _ _ ?_
  refine CW.kp [6] rfl ?_
  refine CW.ret ?_
  exact aC.mk rfl MM (by rfl) aE (az.drop ⟨.mk 3 e.n l77,s77,hr,h077,h1F77,hs77,⟨_,rfl,j0 3 e.n l77 hr77⟩,rfl⟩ SB)
 refine CW.seq fun K20 hK20=>?_
 refine CW.region ?_
 refine RL.q (Y.eql rfl rfl) rfl ?_
 refine RL.q (Y.assign rfl) rfl ?_
 refine RL.nil ?_
 refine hK20 _ _ _ ?_
 refine CW.kp [0,2,4,6,79] rfl ?_
 refine CW.ite rfl (fun h8=>?_) (fun h8=>?_)
 ·rw [bH,if_neg h1,if_neg h2,if_neg h3,if_neg h4,if_neg h5,if_neg h6,if_neg h7,if_pos h8] at hr
  have hab:=lR hr hb
  obtain ⟨ra,hra0⟩ : ∃ ra,ra = iT (fun x s=>aI p F g x env s) e.kids s:=⟨_,rfl⟩
  rw [<-hra0] at hr hab
  obtain ⟨hkl,hra⟩:=oS hra0 hab
  refine CW.seq fun K21 hK21=>?_
  refine CW.eO ?_
  refine RX.step ?_
  refine RL.q (Y.move rfl) rfl ?_
  refine RL.nil ?_
  refine RX.step ?_
  refine RL.q (Y.field rfl cI) rfl ?_
  refine RL.nil ?_
  refine RX.step ?_
  refine RL.aN rfl rfl MM MM (by rfl) gj rfl fun a83 c83 hu83 hc83 hl83=>?_
  refine RL.nil ?_
  refine RX.step ?_
  refine RL.q (Y.move rfl) rfl ?_
  refine RL.nil ?_
  refine RX.call rfl func112 rfl rfl (by exact bn.pick (x:=bZ br um ud F s) PK (pX ih _ _ _ e.kids _ env sp s hE KK hkl ra hra hab)) ?_ (by rintro ch Mp _ ⟨x,sp2,hpe,rfl,hsp,rfl⟩;exact az.drop ⟨x,sp2,jI hr hpe,rfl,hsp,rfl⟩ SB)
  rintro v85 M85 _ ⟨l85,s85,he85,h085,h1F85,hs85,hr85,rfl⟩
  obtain ⟨a85,c85,rfl,hc85,hlm85,hln85⟩:=hr85.slice
  have hr:=jH hr he85
  have hsm85:=fz (hra.symm.trans he85)
  refine RX.of ?_
  refine RL.fV hr85 ?_
  refine RL.q (Y.build [_,_,_] rfl aZ cu (by rfl)) rfl ?_
  refine RL.aG _ rfl rfl RP (by rfl) (by first | (simp;done) | simp [IdT.vals]) (by first | (simp [Value.oneCell'];done) | simp [Value.oneCell',IdT.vals]) aB ?_
  refine RL.nil ?_
  refine hK21 _ _ _ ?_
  refine CW.kp [6] rfl ?_
  refine CW.ret ?_
  exact aC.mk rfl MM (by rfl) aE (az.drop ⟨.mk 4 0 l85,s85,hr,h085,h1F85,hs85,⟨_,rfl,j0 4 0 l85 hr85⟩,rfl⟩ SB)
 rw [bH,if_neg h1,if_neg h2,if_neg h3,if_neg h4,if_neg h5,if_neg h6,if_neg h7,if_neg h8] at hr
 have hab:=oR hr hb
 obtain ⟨ra,hra0⟩ : ∃ ra,ra = kf (aI p F g) e.kids 0 env s:=⟨_,rfl⟩
 rw [<-hra0] at hr hab
 obtain ⟨hk1,hk1e⟩:=j9 (k:=0) rfl hra0 hab
 rw [hk1e] at hr hab
 refine CW.skip ?_
 refine hK2 _ _ _ ?_
 refine CW.seq fun K22 hK22=>?_
 refine CW.gz 11 mix (x:=bZ br um ud F s) PK ?_
 refine HQ.take 0 rfl KR KR KR rfl (Y.move rfl) rfl ?_
 refine HQ.take 1 rfl KR KR KR rfl (Y.bN rfl MM MM EL jG) rfl ?_
 refine HQ.take 2 rfl KR KR KR rfl (Y.move rfl) rfl ?_
 refine HQ.take 3 rfl KR KR KR rfl (Y.move rfl) rfl ?_
 refine HQ.take 4 rfl KR KR KR rfl (Y.field rfl cI) rfl ?_
 refine HQ.aN 5 rfl KR KR KR rfl rfl MM MM (by rfl) gj rfl fun a92 c92 hu92 hc92 hl92=>?_
 refine HQ.take 6 rfl KR KR KR rfl (Y.index 0 rfl rfl rfl AO iW SM) rfl ?_
 refine HQ.aM 7 rfl KR KR KR rfl rfl MM (Eq.trans (aS Ex.aq _ _ _ (List.getElem?_eq_getElem AO)) (Ex.ay _)) (by rfl) jG rfl fun us94 hul94 hur94=>?_
 refine HQ.take 8 rfl KR KR KR rfl (Y.move rfl) rfl ?_
 refine HQ.call 9 rfl KR rfl func74 rfl rfl (by exact bn.pick (x:=bZ br um ud F s) PK (ih _ _ _ e.kids[0] _ env sp s hE KK hab)) ?_ (by rintro ch Mp _ ⟨x,sp2,hpe,rfl,hsp,rfl⟩;exact az.drop ⟨x,sp2,w7 hr hpe,rfl,hsp,rfl⟩ SB)
 rintro v96 M96 _ ⟨x96,s96,he96,h096,h1F96,hs96,⟨us96,rfl,hr96⟩,rfl⟩
 have hul96 : us96.length = 3:=hr96.1.trans (Val.aq _)
 have hr:=w6 hr he96
 refine ⟨bT (hs96) SB,?_⟩
 refine HQ.call 10 rfl KR rfl func113 rfl rfl (by exact bn.pick (x:=bZ br um ud F s96) PK (Dd ih _ _ _ e _ env sp x96 us96 s96 (hE.next hs96 h096 h1F96) KK (Kn.of hr96) r hr hb)) ?_ (by rintro ch Mp _ ⟨x,sp2,hpe,rfl,hsp,rfl⟩;exact az.drop ⟨x,sp2,hpe,rfl,hs96.trans hsp,rfl⟩ SB)
 rintro v97 M97 _ ⟨x97,s97,he97,h097,h1F97,hs97,⟨us97,rfl,hr97⟩,rfl⟩
 have hul97 : us97.length = 3:=hr97.1.trans (Val.aq _)
 refine ⟨bT (hs96.trans (hs97)) SB,?_⟩
 refine HQ.last 11 rfl ⟨KR,rfl⟩ KR ?_
 refine RL.aW hr97 ?_
 refine RL.aD 3 rfl rfl RP MM EL (by first | exact Kn.bk MM EL | exact Kn.bl rfl) aB ?_
 refine RL.nil ?_
 refine hK22 _ _ _ ?_
 refine CW.kp [6] rfl ?_
 refine CW.ret ?_
 exact aC.mk rfl MM (by first | rfl | exact hul97) aE (az.drop ⟨x97,s97,he97,h097,h1F97,hs96.trans hs97,⟨_,rfl,hr97⟩,rfl⟩ SB)
theorem sQ {p : ProgT} {F : Int} {br : Nat} {um ud : Value} : ∀ g,fA Tryd.prog p F br um ud g
 | 0=>vf 0 (fun g' h=>absurd h OM)
 | g+1=>vf (g+1) (fun g' h=>by
  have : g' = g:=by omega
  subst this
  exact fun w0 M Γ e use env sp s hE he hb=>Dn (sQ g') w0 M Γ e use env sp s hE he _ rfl hb)
theorem xN (p6 p7 p8 : Addr) (w : World) :
  CallsD Tryd.prog 90 #[.pointer (some p6),.pointer (some p7),.pointer (some p8)] .returning w fun e u' w'=>e = .returned (.tuple #[])/\u' = .returning/\w' = w:=by
 refine callsD_of_wpS Tryd.func90 rfl fun c₀ cs hu=>?_
 apply wpS_seq
 apply wpS_region
 simp [wpOpsS,go_sem,recoverD,hu,Tryd.ntmps90,Exit.thenS]
 apply wpS_seq
 apply wpS_region
 simp [wpOpsS,go_sem,Tryd.ntmps90,Exit.thenS]
 refine wpS_cond (t:=false) (by simp [Act.eval,Array.replicate]) ?_
 simp only [Bool.false_eq_true,if_false]
 refine wpS_of_wp (wp_skip ?_)
 cases c₀
 simp_all [bodyPostS,results,Tryd.results90]

theorem asrt60 (W : World) (v : Value) : (Instr.typeAssert (.iface 60 v) 20 60 true).run Tryd.prog W = .ok (.tuple #[v,.bool true]) W:=by kernel_rfl
theorem Y.F4 {w0 : World} {L : Lm} {M : Mem} {Γ : List As} {d : Option Nat} {ty : TypeId} {pos : String} {af : Array Edge} {g : Option (Nat×Bool)} {x : Operand} {v : Value} (hx : evL L x = some (.iface 60 v)) :
  Yq Tryd.prog w0 L M Γ ⟨d,.typeAssert x 20 60 true,ty,pos,af,g⟩ (.tuple #[v,.bool true]):=fun n a w ha _=>by
 simp [execOp,ha.ev hx]
 rw [asrt60]
 rfl
theorem Y.B9 {w0 : World} {L : Lm} {M : Mem} {Γ : List As} {d : Option Nat} {ty : TypeId} {pos : String} {af : Array Edge} {g : Option (Nat×Bool)} {x : Operand} {v : Value} (hx : evL L x = some (.iface 60 v)) :
  Yq Tryd.prog w0 L M Γ ⟨d,.binOp .neq 20 x (.const .nilIface) 20,ty,pos,af,g⟩ (.bool true):=fun n a w ha _=>by
 simp only [execOp,ha.ev hx]
 simp [go_sem,Act.eval]
theorem xM (w0 : World) (M : Mem) (Γ : List As) (x : Int) (b6 b7 b8 : Nat) (us : List Value) (y z : Value) (hus : us.length = 3) (w : World) (hw : St w0 M (.own b8 60 [y]::.own b7 3 [z]::.own b6 26 us::Γ) w) :
  CallsD Tryd.prog 90 #[cH b6,cH b7,cH b8] (.panicking (Fz x)) w fun e u' w'=>e = .returned (.tuple #[])/\u' = .panicking [{ v:=.iface 60 (av x),recovered:=true }]/\St w0 M (.own b8 60 [av x]::.own b7 3 [av 0]::.own b6 26 [av 0,av 0,.slice none 0 0]::Γ) w':=by
 refine callsD_of_wpS Tryd.func90 rfl fun c₀ cs hu=>?_
 apply wpS_seq
 apply wpS_region
 simp [wpOpsS,go_sem,recoverD,hu,Tryd.ntmps90,Exit.thenS,Fz]
 refine wpS_of_wp (wp_mono (P:=Tryd.prog) (Q:=Real 19 w0 (fun e L M' Γ'=>e = .normal/\M' = M/\∀ w,St w0 M Γ' w->St w0 M (.own b8 60 [av x]::.own b7 3 [av 0]::.own b6 26 [av 0,av 0,.slice none 0 0]::Γ) w)) ?_ ?_)
 ·have hsat : Sat 19 [(3,.iface 60 (av x)),(0,cH b6),(1,cH b7),(2,cH b8)] ({ tmps:=#[cH b6,cH b7,cH b8]++((Array.replicate 16 undef).setIfInBounds 3 (Value.iface 60 (av x))).setIfInBounds 0 (Value.iface 60 (av x)),defers:=[] } : Act):=by
   refine ⟨by simp,rfl,fun t v h=>?_⟩
   rcases t with _ | _ | _ | _ | t
   ·simp [cR] at h ⊢;simp_all
   ·simp [cR] at h ⊢;simp_all
   ·simp [cR] at h ⊢;simp_all
   ·simp [cR] at h ⊢;simp_all
   ·exfalso;simp [cR,Nat.beq] at h
  refine (?_ : CW Tryd.prog 19 w0 _ _ [(3,.iface 60 (av x)),(0,cH b6),(1,cH b7),(2,cH b8)] M _) _ w hsat hw
  refine CW.seq fun K1 hK1=>?_
  refine CW.region ?_
  refine RL.q (Y.move rfl) rfl ?_
  refine RL.q (Y.B9 rfl) rfl ?_
  refine RL.nil ?_
  refine hK1 _ _ _ ?_
  refine CW.yes rfl ?_
  refine CW.seq fun K2 hK2=>?_
  refine CW.region ?_
  refine RL.q (Y.move rfl) rfl ?_
  refine RL.q (Y.F4 rfl) rfl ?_
  refine RL.q (Y.move rfl) rfl ?_
  refine RL.q (Y.extract rfl rfl) rfl ?_
  refine RL.q (Y.extract rfl rfl) rfl ?_
  refine RL.q (Y.assign rfl) rfl ?_
  refine RL.q (Y.assign rfl) rfl ?_
  refine RL.nil ?_
  refine hK2 _ _ _ ?_
  refine CW.seq fun K3 hK3=>?_
  refine CW.seq fun K4 hK4=>?_
  refine CW.region ?_
  refine RL.q (Y.move rfl) rfl ?_
  refine RL.q (Y.not rfl) rfl ?_
  refine RL.nil ?_
  refine hK4 _ _ _ ?_
  refine CW.no rfl ?_
  refine CW.skip ?_
  refine hK3 _ _ _ ?_
  refine CW.region ?_
  refine RL.q (Y.build [_,_,_] rfl aZ cu (by rfl)) rfl ?_
  refine RL.q (Y.move rfl) rfl ?_
  refine RL.aG [av 0,av 0,.slice none 0 0] rfl rfl RP (by rw [List.drop_eq_nil_of_le (by simp [hus])];rfl) (by simp [hus]) (by first | (simp [Value.oneCell'];done) | simp [Value.oneCell',IdT.vals]) aB ?_
  refine RL.store _ rfl rfl RP (by rfl) (by simp) (by rfl) qd ?_
  refine RL.store _ rfl rfl RP (by rfl) (by simp) (by rfl) DH ?_
  refine RL.nil ?_
  refine ⟨rfl,rfl,fun w hw=>?_⟩
  exact hw
 ·rintro e a w' ⟨L,M',Γ',⟨rfl,rfl,hG⟩,hs,hw'⟩
  cases c₀
  simp_all [bodyPostS,results,Tryd.results90]
  exact hs.defers
def dDef (b6 b7 b8 : Nat) : Deferred:={ target:=.fn (.func 90) #[cH b6,cH b7,cH b8],args:=#[] }
def doR : EO->Val×Int×Int
 | .ok x s=>(x,s,0)
 | .err k=>(v0,0,k)
 | .bad=>(v0,0,0)
def doX (w0 : World) (M : Mem) (Γ : List As) (r : EO) : DPst:=fun D e L M' Γ'=>match e with
 | .ret=>∃ b6 b7 b8 x s us,D = [dDef b6 b7 b8]/\cR L 6 = some (cH b6)/\cR L 7 = some (cH b7)/\cR L 8 = some (cH b8)/\r = .ok x s/\Sub M M'/\us.length = 3/\RdL M' x.enc us/\∀ w,St w0 M' Γ' w->St w0 M' (.own b8 60 [av 0]::.own b7 3 [av s]::.own b6 26 us::Γ) w
 | .panic ch=>∃ b6 b7 b8 k us y z,D = [dDef b6 b7 b8]/\cR L 6 = some (cH b6)/\cR L 7 = some (cH b7)/\cR L 8 = some (cH b8)/\r = .err k/\ch = Fz k/\Sub M M'/\us.length = 3/\∀ w,St w0 M' Γ' w->St w0 M' (.own b8 60 [y]::.own b7 3 [z]::.own b6 26 us::Γ) w
 | _=>False
theorem rH {w0 w : World} {M : Mem} {Γ : List As} {b6 b7 b8 : Nat} {us : List Value} {s e : Int} {tmps : Array Value} (hw : St w0 M (.own b8 60 [av e]::.own b7 3 [av s]::.own b6 26 us::Γ) w) (hl : us.length = 3)
  (t6 : tmps[6]? = some (cH b6)) (t7 : tmps[7]? = some (cH b7)) (t8 : tmps[8]? = some (cH b8)) :
  (results Tryd.f61 tmps).run Tryd.prog w = .ok (.tuple #[.agg us.toArray,av s,av e]) w:=by
 have l6:=gx (P:=Tryd.prog) (t:=26) hw (b:=b6) (e:=26) (cs:=us) MM (by rw [hl];exact aE)
 have c7 : w.cell? (adr (some ⟨b7,0,none⟩) 0) = some (av s):=hw.cq (b:=b7) (e:=3) (cs:=[av s]) MM rfl
 have c8 : w.cell? (adr (some ⟨b8,0,none⟩) 0) = some (av e):=hw.cq (b:=b8) (e:=60) (cs:=[av e]) MM rfl
 have l7 : (loadVar 3 (adr (some ⟨b7,0,none⟩) 0)).run Tryd.prog w = .ok (av s) w:=by simp [loadVar,rF cE,c7]
 have l8 : (loadVar 60 (adr (some ⟨b8,0,none⟩) 0)).run Tryd.prog w = .ok (av e) w:=by simp [loadVar,rF flat60,c8]
 simp [results,Tryd.results61,t6,t7,t8,asAddr,l6,l7,l8]

set_option maxRecDepth 4000 in
set_option maxHeartbeats 1000000 in
theorem do_ok (w0 : World) (M : Mem) (Γ : List As) (um ud : Value) (fuel : Int) (ff : FuncId) (cap : Array Value) (hff : bC Tryd.prog ff = true) (r : EO)
  (hc : ∀ br Γ',(∀ w,St w0 M Γ' w->St w0 M Γ w)->bn Tryd.prog w0 M (bZ br um ud (max fuel 0) 0::Γ') ff (#[]++#[cH br]++cap) (lV M Γ' br um ud (max fuel 0) r) (jg M Γ' br um ud (max fuel 0) r))
  (hsz : ∀ x s,r = .ok x s->x.size<=100000) :
  aA Tryd.prog w0 M Γ 61 #[.agg #[um,ud],av fuel,.func (.func ff) #[] cap] (oV M Γ fun M' v=>∃ us,v = .tuple #[.agg us.toArray,av (doR r).2.1,av (doR r).2.2]/\RdL M' (doR r).1.enc us):=by
 refine enterD (f:=61) (args:=[.agg #[um,ud],av fuel,.func (.func ff) #[] cap]) (X:=doX w0 M Γ r) Tryd.func61 rfl Tryd.ntmps61 rfl ?_ ?_ ?_ ?_
 rotate_left
 ·rintro D L M1 Γ1 tmps w hget hw (h | h)
  ·exact h.elim
  ·obtain ⟨b6,b7,b8,x,s,us,rfl,g6,g7,g8,rfl,hsub,hl,hr,hG⟩:=h
   refine leaves_cons (f:=90) (args:=#[cH b6,cH b7,cH b8]) (by simp) (by simp [invoke]) ((xN _ _ _ w).mono ?_)
   rintro e u1 w1 ⟨rfl,rfl,rfl⟩
   exact ⟨_,rH (hG _ hw) hl (hget _ _ g6) (hget _ _ g7) (hget _ _ g8),_,_,_,rfl,⟨hsub,rfl,us,rfl,hr⟩,(hG _ hw).sub SB⟩
 ·rintro D L M1 Γ1 tmps w ch hget hw h
  obtain ⟨b6,b7,b8,k,us,y,z,rfl,g6,g7,g8,rfl,rfl,hsub,hl,hG⟩:=h
  refine leaves_cons (f:=90) (args:=#[cH b6,cH b7,cH b8]) (by simp) (by simp [invoke]) ((xM w0 M1 Γ k b6 b7 b8 us y z hl w (hG _ hw)).mono ?_)
  rintro e u1 w1 ⟨rfl,rfl,hw1⟩
  exact ⟨_,rH hw1 rfl (hget _ _ g6) (hget _ _ g7) (hget _ _ g8),_,_,_,rfl,⟨hsub,rfl,_,rfl,fc 0 0⟩,hw1.sub SB⟩
 ·intro D e L M1 Γ1 h
  cases e <;> first | exact h.elim | exact .inl rfl | exact .inr (.inl rfl) | exact .inr (.inr ⟨_,rfl⟩)
 refine CWD.seq fun K1 hK1=>?_
 refine CWD.region (RD.of (RX.of ?_))
 refine RL.box [um,ud] rfl rfl rfl fun b3=>?_
 refine RL.alloc _ aZ rfl rfl fun b6=>?_
 refine RL.alloc _ zero3 rfl rfl fun b7=>?_
 refine RL.alloc _ zero60 rfl rfl fun b8=>?_
 refine RL.nil ?_
 refine hK1 _ _ _ _ ?_
 refine CWD.kp [1,2,3,6,7,8] rfl ?_
 refine CWD.seq fun K2 hK2=>?_
 refine CWD.region (RD.of (RX.of ?_))
 refine RL.q (Y.gq rfl MM (by rfl) tE) rfl ?_
 refine RL.q (Y.move rfl) rfl ?_
 refine RL.q (Y.max2 rfl rfl) rfl ?_
 refine RL.q (Y.build [um,ud,av (max fuel 0),av 0] rfl zero131 Cq (by rfl)) rfl ?_
 refine RL.box [um,ud,av (max fuel 0),av 0] rfl rfl rfl fun b14=>?_
 refine RL.q (Y.assign rfl) rfl ?_
 refine RL.nil ?_
 refine hK2 _ _ _ _ ?_
 refine CWD.kp [2,6,7,8,9] rfl ?_
 refine CWD.seq fun K3 hK3=>?_
 refine CWD.region ?_
 refine RD.step ?_
 refine RL.q (Y.makeFunc rfl rfl) rfl ?_
 refine RL.nil ?_
 refine RD.defer0 (d:=dDef b6 b7 b8) rfl rfl (fun n a w ha hw=>?_) ?_
 ·simp [execOp,ha.ev (x:=.tmp 15) (v:=.func (.func 90) #[] #[cH b6,cH b7,cH b8]) rfl,dDef,resolve,Deferred.ofValue]
 refine RD.done ?_
 refine hK3 _ _ _ _ ?_
 refine CWD.kp [2,6,7,8,9] rfl ?_
 refine CWD.seq fun K4 hK4=>?_
 refine CWD.region (RD.of ?_)
 refine RX.step ?_
 refine RL.q (Y.move rfl) rfl ?_
 refine RL.nil ?_
 refine RX.step ?_
 refine RL.q (Y.move rfl) rfl ?_
 refine RL.nil ?_
 refine RX.callf rfl hff rfl rfl rfl (by exact hc _ _ fun _ hw=>hw.sub SB) ?_ (by rintro ch Mp _ ⟨k,sp2,rfl,rfl,hsp,rfl⟩;exact ⟨b6,b7,b8,k,_,_,_,rfl,rfl,rfl,rfl,rfl,rfl,hsp,rfl,fun _ hw=>hw.sub SB⟩)
 rintro v18 M18 _ ⟨x18,s18,rfl,h018,h1F18,hs18,⟨us18,rfl,hr18⟩,rfl⟩
 have hz18:=hsz _ _ rfl
 have hkz:=gZ x18
 obtain ⟨uk,rfl,hkids⟩:=Val.open hr18
 obtain ⟨ak,ck,rfl,hck,hlk,_⟩:=hkids.slice
 refine RX.of ?_
 refine RL.fV hkids ?_
 refine RL.aG [av x18.kind,av x18.n,.slice ak x18.kids.length ck] rfl rfl RP (by rfl) (by simp) (fun _ _=>hr18.one) aB ?_
 refine RL.nil ?_
 refine hK4 _ _ _ _ ?_
 refine CWD.kp [6,7,8,9] rfl ?_
 refine CWD.seq fun K5 hK5=>?_
 refine CWD.region (RD.of (RX.of ?_))
 refine RL.q (Y.field rfl cX) rfl ?_
 refine RL.q (Y.iZ rfl MM (by rfl) fm) rfl ?_
 refine RL.call rfl func33 rfl rfl (by exact pQ x18.size _ _ _ x18.kids _ (fun v hv=>Val.dy hv) OM OM (Kn.rd MM)) ?_
 rintro v21 M21 _ ⟨hs21,rfl,hr21⟩
 obtain ⟨a21,c21,rfl,hc21,hl21,hln21⟩:=hr21.slice
 refine RL.fV hr21 ?_
 refine RL.q (Y.field rfl cX) rfl ?_
 refine RL.store _ rfl rfl RP (by rfl) (by simp) (by rfl) DI ?_
 refine RL.nil ?_
 refine hK5 _ _ _ _ ?_
 refine CWD.kp [6,7,8,9] rfl ?_
 refine CWD.seq fun K6 hK6=>?_
 have hnd:=j0 x18.kind x18.n x18.kids hr21
 rw [v_eta] at hnd
 refine CWD.jT mix _ (bZ b14 um ud (max fuel 0) s18::Γ) (fun _ hw=>hw.sub SB) ?_
 refine HL.take 1 rfl KR KR KR rfl (Y.move rfl) rfl ?_
 refine HL.take 2 rfl KR KR KR rfl (Y.nilCheck rfl) rfl ?_
 refine HL.take 3 rfl KR KR KR rfl (Y.field rfl kq) rfl ?_
 refine HL.take 4 rfl KR KR KR rfl (Y.iZ rfl MM (by rfl) cE) rfl ?_
 refine HL.step 0 rfl KR ?_
 refine RL.q (Y.gq rfl MM (by rfl) aE) rfl ?_
 refine RL.nil ⟨aQ SB,?_⟩
 refine HL.step 5 rfl KR ?_
 refine RL.aG [av x18.kind,av x18.n,.slice a21 x18.kids.length c21] rfl rfl RP (by rfl) (by first | (simp;done) | simp [IdT.vals]) (by first | (simp [Value.oneCell'];done) | simp [Value.oneCell',IdT.vals]) aB ?_
 refine RL.nil ⟨aQ SB,?_⟩
 refine HL.step 6 rfl KR ?_
 refine RL.store _ rfl rfl RP (by rfl) (by simp) (by rfl) qd ?_
 refine RL.nil ⟨aQ SB,?_⟩
 refine HL.step 7 rfl KR ?_
 refine RL.store _ rfl rfl RP (by rfl) (by simp) (by rfl) DH ?_
 refine RL.nil ⟨aQ SB,?_⟩
 refine HL.done KR ?_
 refine hK6 _ _ _ _ ?_
 refine CWD.kp [6,7,8] rfl ?_
 refine CWD.ret ?_
 exact ⟨b6,b7,b8,x18,s18,_,rfl,rfl,rfl,rfl,rfl,hs18.trans hs21,rfl,hnd,fun _ hw=>hw.sub SB⟩
theorem Fx {p : ProgT} {F : Int} {be : Nat} {um ud : Value} (g : Nat) (w0 : World) (M : Mem) (Γ Γ1 : List As) (br : Nat) (e : Ex) (use : List Value) (hG : ∀ w,St w0 M Γ1 w->St w0 M (.own be 50 use::Γ) w) (hul : use.length = 15) (hE : EvHyp M p um ud F 0 [] (.pointer none)) (he : RdL M e.enc use) (hb : aI p F g e [] 0 ≠ .bad) :
   bn Tryd.prog w0 M (bZ br um ud F 0::Γ1) 73 #[cH br,cH be] (lV M Γ1 br um ud F (aI p F g e [] 0)) (jg M Γ1 br um ud F (aI p F g e [] 0)):=by
 refine gk (f:=73) Tryd.func73 rfl Tryd.ntmps73 rfl rfl fun w1 hw1=>?_
 refine CW.seq fun K1 hK1=>?_
 refine CW.region ?_
 refine RL.alloc _ aZ rfl rfl fun b3=>?_
 refine RL.nil ?_
 refine hK1 _ _ _ ?_
 refine CW.kp [0,1,3] rfl ?_
 refine CW.seq fun K2 hK2=>?_
 refine CW.eO ?_
 refine RX.step ?_
 refine RL.q (Y.move rfl) rfl ?_
 refine RL.nil ?_
 refine RX.step ?_
 refine RL.q (Y.aM (vs:=use) rfl (by rw [hul];exact jG) (fun w hw j v hj=>by rw [cn];simpa using (hG w (hw.sub SB)).cq MM hj)) rfl ?_
 refine RL.nil ?_
 refine RX.call rfl func74 rfl rfl (by exact bn.pick (x:=bZ br um ud F 0) PK (sQ g _ _ _ e _ [] _ 0 hE (Kn.of he) hb)) ?_ (by rintro ch Mp _ ⟨x,sp2,hpe,rfl,hsp,rfl⟩;exact az.drop ⟨x,sp2,hpe,rfl,hsp,rfl⟩ SB)
 rintro v6 M6 _ ⟨x6,s6,he6,h06,h1F6,hs6,⟨us6,rfl,hr6⟩,rfl⟩
 have hul6 : us6.length = 3:=hr6.1.trans (Val.aq _)
 refine RX.of ?_
 refine RL.aW hr6 ?_
 refine RL.aD 3 rfl rfl RP MM EL (by first | exact Kn.bk MM EL | exact Kn.bl rfl) aB ?_
 refine RL.nil ?_
 refine hK2 _ _ _ ?_
 refine CW.kp [3] rfl ?_
 refine CW.ret ?_
 exact aC.mk rfl MM (by first | rfl | exact hul6) aE (az.drop ⟨x6,s6,he6,h06,h1F6,hs6,⟨_,rfl,hr6⟩,rfl⟩ SB)

theorem expr_ok (w0 : World) (M : Mem) (Γ : List As) (p : ProgT) (um ud : Value) (e : Ex) (use : List Value) (fuel : Int) (g : Nat) (hN : gQ M) (hF : max fuel 0<=1099511627776) (hp : Kn w0 M Γ (RdL M p.enc [um,ud])) (he : Kn w0 M Γ (RdL M e.enc use)) (hb : aI p (max fuel 0) g e [] 0 ≠ .bad) :
   aA Tryd.prog w0 M Γ 47 #[.agg #[um,ud],.agg use.toArray,av fuel] (oV M Γ fun M' v=>∃ us,v = .tuple #[.agg us.toArray,av (doR (aI p (max fuel 0) g e [] 0)).2.1,av (doR (aI p (max fuel 0) g e [] 0)).2.2]/\RdL M' (doR (aI p (max fuel 0) g e [] 0)).1.enc us):=by
 refine aA.kn hp fun hp=>?_
 refine aA.kn he fun he=>?_
 have hul : use.length = 15:=he.1.trans (Ex.aq _)
 refine sU (f:=47) Tryd.func47 rfl Tryd.ntmps47 rfl rfl fun w1 hw1=>?_
 refine CW.seq fun K1 hK1=>?_
 refine CW.region ?_
 refine RL.box [um,ud] rfl rfl rfl fun b3=>?_
 refine RL.box use rfl rfl rfl fun b4=>?_
 refine RL.alloc _ aZ rfl rfl fun b6=>?_
 refine RL.q (Y.assign rfl) rfl ?_
 refine RL.q (Y.assign rfl) rfl ?_
 refine RL.nil ?_
 refine hK1 _ _ _ ?_
 refine CW.kp [2,3,4,6] rfl ?_
 refine CW.seq fun K2 hK2=>?_
 refine CW.region ?_
 refine RL.q (Y.gq rfl MM (by rfl) tE) rfl ?_
 refine RL.q (Y.move rfl) rfl ?_
 refine RL.q (Y.makeFunc rfl rfl) rfl ?_
 refine RL.call rfl func61 rfl rfl (by exact do_ok _ _ _ um ud fuel 73 #[cH b4] func73 (aI p (max fuel 0) g e [] 0) (fun br Γ1 hG=>Fx g _ _ _ Γ1 br e use (fun w hw=>(hG w hw).sub SB) hul ⟨hN,hp,by omega,by omega,hF,rfl⟩ he hb) (fun x s h=>Nat.le_trans (jc h).1 OM)) ?_
 rintro v12 M12 _ ⟨hs12,rfl,us12,rfl,hr12⟩
 refine RL.aW hr12 ?_
 have hul12 : us12.length = 3:=hr12.1.trans (Val.aq _)
 refine RL.q (Y.extract rfl rfl) rfl ?_
 refine RL.q (Y.extract rfl rfl) rfl ?_
 refine RL.q (Y.extract rfl rfl) rfl ?_
 refine RL.aD 3 rfl rfl RP MM EL (by first | exact Kn.bk MM EL | exact Kn.bl rfl) aB ?_
 refine RL.q (Y.assign rfl) rfl ?_
 refine RL.q (Y.assign rfl) rfl ?_
 refine RL.nil ?_
 refine hK2 _ _ _ ?_
 refine CW.kp [6,7,8] rfl ?_
 refine CW.ret ?_
 exact ⟨_,_,rfl,rfl,aC.mk rfl MM (by first | rfl | exact hul12) aE (az.drop ⟨hs12,rfl,_,rfl,hr12⟩ SB)⟩

def qy (p : ProgT) (id : IdT) : Prop:=cT p id/\(aj p id).kind ≠ 0/\(aj p id).kind ≠ 1
instance (p : ProgT) (id : IdT) : Decidable (qy p id):=by unfold qy;exact inferInstance

theorem body_ok (w0 : World) (M : Mem) (Γ : List As) (p : ProgT) (usp : List Value) (id : IdT)  (hp : Kn w0 M Γ (RdL M p.enc usp))  :
   aA Tryd.prog w0 M Γ 53 #[.agg usp.toArray,.agg id.vals.toArray] (Has M Γ fun v=>∃ us,v = .tuple #[.agg us.toArray,.bool (decide (qy p id))]/\RdL M (aj p id).enc us):=by
 refine aA.kn hp fun hp=>?_
 rw [ProgT.ay] at hp
 refine sV (f:=53) Tryd.func53 rfl Tryd.ntmps53 rfl rfl fun w1 hw1=>?_
 refine CW.aW hp ?_
 refine CW.seq fun K1 hK1=>?_
 refine CW.region ?_
 refine RL.box _ rfl rfl rfl fun b2=>?_
 refine RL.box _ rfl rfl rfl fun b3=>?_
 refine RL.alloc _ mV rfl rfl fun b4=>?_
 refine RL.q (Y.assign rfl) rfl ?_
 refine RL.nil ?_
 refine hK1 _ _ _ ?_
 refine CW.kp [2,3,4] rfl ?_
 refine CW.seq fun K2 hK2=>?_
 refine CW.region ?_
 refine RL.q (Y.bN rfl MM MM EL tE) rfl ?_
 refine RL.q (Y.gq rfl MM (by rfl) kE) rfl ?_
 refine RL.call rfl func57 rfl rfl (by exact Av _ _ _ _ _ _ KK) ?_
 rintro v11 M _ ⟨rfl,rfl,us11,rfl,hr11⟩
 refine RL.aW hr11 ?_
 refine RL.q (Y.move rfl) rfl ?_
 refine RL.q (Y.extract rfl rfl) rfl ?_
 refine RL.q (Y.extract rfl rfl) rfl ?_
 refine RL.alloc _ mV rfl rfl fun b6=>?_
 refine RL.aD 31 rfl rfl RP MM EL (by first | exact Kn.bk MM EL | exact Kn.bl rfl) jR ?_
 refine RL.q (Y.assign rfl) rfl ?_
 refine RL.nil ?_
 refine hK2 _ _ _ ?_
 refine CW.kp [4,6,7] rfl ?_
 refine CW.seq fun K3 hK3=>?_
 refine CW.xO mix (x:=.own b4 _ _) PK ?_
 refine HL.take 0 rfl KR KR KR rfl (Y.bN rfl MM MM EL lP) rfl ?_
 refine HL.takeS 1 rfl KR KR KR rfl (Y.move rfl) rfl (fun g15=>?_) (fun g15=>?_)
 ·refine HL.take 2 rfl KR KR KR rfl (Y.move rfl) rfl ?_
  refine HL.take 3 rfl KR KR KR WG (Y.field rfl u9) rfl ?_
  refine HL.take 4 rfl KR KR KR WG (Y.bh rfl MM MM (by rfl) cE) rfl ?_
  refine HL.takeS 5 rfl KR KR KR WG (Y.neq rfl rfl) rfl (fun g19=>?_) (fun g19=>?_)
  ·refine HL.take 6 rfl KR KR KR rfl (Y.fF rfl rfl) rfl ?_
   refine HL.take 7 rfl KR KR KR rfl (Y.move rfl) rfl ?_
   refine HL.take 8 rfl KR KR KR WG (Y.field rfl u9) rfl ?_
   refine HL.take 9 rfl KR KR KR WG (Y.bh rfl MM MM (by rfl) cE) rfl ?_
   refine HL.take 10 rfl KR KR KR WG (Y.neq rfl rfl) rfl ?_
   refine HL.take 11 rfl KR KR KR rfl (Y.fF rfl rfl) rfl ?_
   refine HL.step 12 rfl KR ?_
   refine RL.aD 31 rfl rfl RP MM EL (by first | exact Kn.bk MM EL | exact Kn.bl rfl) jR ?_
   refine RL.nil ⟨aQ SB,?_⟩
   refine HL.take 13 rfl KR KR KR rfl (Y.assign rfl) rfl ?_
   refine HL.done KR ?_
   refine hK3 _ _ _ ?_
   refine CW.kp [4,5] rfl ?_
   refine CW.ret ?_
   refine ⟨_,rfl,?_⟩
   exact aC.mk rfl MM (by first | rfl | exact hr11.1.trans (DefT.aq _)) lP (az.drop ⟨rfl,rfl,_,by simp [qy, *],hr11⟩ SB)
  refine HL.take 6 rfl KR KR KR rfl (Y.fF rfl rfl) rfl ?_
  refine HL.take 7 rfl KR KR KR rfl (Y.move rfl) rfl ?_
  refine HL.jO 8 rfl KR KR KR WG rfl ?_
  refine HL.jO 9 rfl KR KR KR WG rfl ?_
  refine HL.jO 10 rfl KR KR KR WG rfl ?_
  refine HL.take 11 rfl KR KR KR rfl (Y.fG rfl rfl) rfl ?_
  refine HL.step 12 rfl KR ?_
  refine RL.aD 31 rfl rfl RP MM EL (by first | exact Kn.bk MM EL | exact Kn.bl rfl) jR ?_
  refine RL.nil ⟨aQ SB,?_⟩
  refine HL.take 13 rfl KR KR KR rfl (Y.assign rfl) rfl ?_
  refine HL.done KR ?_
  refine hK3 _ _ _ ?_
  refine CW.kp [4,5] rfl ?_
  refine CW.ret ?_
  refine ⟨_,rfl,?_⟩
  exact aC.mk rfl MM (by first | rfl | exact hr11.1.trans (DefT.aq _)) lP (az.drop ⟨rfl,rfl,_,by simp [qy, *],hr11⟩ SB)
 refine HL.take 2 rfl KR KR KR rfl (Y.move rfl) rfl ?_
 refine HL.jO 3 rfl KR KR KR WG rfl ?_
 refine HL.jO 4 rfl KR KR KR WG rfl ?_
 refine HL.jO 5 rfl KR KR KR WG rfl ?_
 refine HL.take 6 rfl KR KR KR rfl (Y.fG rfl rfl) rfl ?_
 refine HL.take 7 rfl KR KR KR rfl (Y.move rfl) rfl ?_
 refine HL.jO 8 rfl KR KR KR WG rfl ?_
 refine HL.jO 9 rfl KR KR KR WG rfl ?_
 refine HL.jO 10 rfl KR KR KR WG rfl ?_
 refine HL.take 11 rfl KR KR KR rfl (Y.fG rfl rfl) rfl ?_
 refine HL.step 12 rfl KR ?_
 refine RL.aD 31 rfl rfl RP MM EL (by first | exact Kn.bk MM EL | exact Kn.bl rfl) jR ?_
 refine RL.nil ⟨aQ SB,?_⟩
 refine HL.take 13 rfl KR KR KR rfl (Y.assign rfl) rfl ?_
 refine HL.done KR ?_
 refine hK3 _ _ _ ?_
 refine CW.kp [4,5] rfl ?_
 refine CW.ret ?_
 refine ⟨_,rfl,?_⟩
 exact aC.mk rfl MM (by first | rfl | exact hr11.1.trans (DefT.aq _)) lP (az.drop ⟨rfl,rfl,_,by simp [qy, *],hr11⟩ SB)

theorem FT {p : ProgT} {F : Int} {bd ba : Nat} {um ud : Value} (g : Nat) (w0 : World) (M : Mem) (Γ Γ1 : List As) (br : Nat) (d : DefT) (usd : List Value) (args : List Val) (ua : Value) (env2 : Env) (hG : ∀ w,St w0 M Γ1 w->St w0 M (.own bd 52 usd::.own ba 24 [ua]::Γ) w) (hul : usd.length = 31) (hE : EvHyp M p um ud F 0 [] (.pointer none)) (hd : RdL M d.enc usd) (ha : Rd M (.sl args.length 3 (args.flatMap Val.enc)) ua) (he : dg d.slots args [] = some env2) (hb : aI p F g d.body env2 0 ≠ .bad) :
   bn Tryd.prog w0 M (bZ br um ud F 0::Γ1) 62 #[cH br,cH bd,cH ba] (lV M Γ1 br um ud F (aI p F g d.body env2 0)) (jg M Γ1 br um ud F (aI p F g d.body env2 0)):=by
 refine gk (f:=62) Tryd.func62 rfl Tryd.ntmps62 rfl rfl fun w1 hw1=>?_
 refine CW.seq fun K1 hK1=>?_
 refine CW.region ?_
 refine RL.alloc _ aZ rfl rfl fun b4=>?_
 refine RL.nil ?_
 refine hK1 _ _ _ ?_
 refine CW.kp [0,1,2,4] rfl ?_
 refine CW.seq fun K2 hK2=>?_
 refine CW.eO ?_
 refine RX.step ?_
 refine RL.q (Y.move rfl) rfl ?_
 refine RL.nil ?_
 refine RX.step ?_
 refine RL.q (Y.aM (vs:=usd) rfl (by rw [hul];exact lP) (fun w hw j v hj=>by rw [cn];simpa using (hG w (hw.sub SB)).cq MM hj)) rfl ?_
 refine RL.nil ?_
 refine RX.step ?_
 refine RL.q (Y.load (p:=adr (some ⟨ba,0,none⟩) 0) rfl fm (fun w hw=>(hG w (hw.sub SB)).cq (b:=ba) (e:=24) (cs:=[ua]) MM rfl)) rfl ?_
 refine RL.nil ?_
 refine RX.call rfl func63 rfl rfl (by exact bn.pick (x:=bZ br um ud F 0) PK (oO (sQ g) _ _ _ d usd args ua env2 0 hE (Kn.of hd) (Kn.of ha) he hb)) ?_ (by rintro ch Mp _ ⟨x,sp2,hpe,rfl,hsp,rfl⟩;exact az.drop ⟨x,sp2,hpe,rfl,hsp,rfl⟩ SB)
 rintro v8 M8 _ ⟨x8,s8,he8,h08,h1F8,hs8,⟨us8,rfl,hr8⟩,rfl⟩
 have hul8 : us8.length = 3:=hr8.1.trans (Val.aq _)
 refine RX.of ?_
 refine RL.aW hr8 ?_
 refine RL.aD 3 rfl rfl RP MM EL (by first | exact Kn.bk MM EL | exact Kn.bl rfl) aB ?_
 refine RL.nil ?_
 refine hK2 _ _ _ ?_
 refine CW.kp [4] rfl ?_
 refine CW.ret ?_
 exact aC.mk rfl MM (by first | rfl | exact hul8) aE (az.drop ⟨x8,s8,he8,h08,h1F8,hs8,⟨_,rfl,hr8⟩,rfl⟩ SB)

theorem doR_eq : ∀ r : EO,doR r = nB r
 | .ok _ _=>rfl
 | .err _=>rfl
 | .bad=>rfl
theorem pV (p : ProgT) (id : IdT) : qy p id↔tA p id:=by unfold qy tA bare;constructor <;> (rintro ⟨h1,h2⟩;exact ⟨h1,by omega⟩)

theorem FD (w0 : World) (M : Mem) (Γ : List As) (p : ProgT) (um ud : Value) (id : IdT) (args : List Val) (ua : Value) (fuel : Int) (g : Nat) (hN : gQ M) (hF : max fuel 0<=1099511627776) (hp : Kn w0 M Γ (RdL M p.enc [um,ud])) (ha : Kn w0 M Γ (Rd M (.sl args.length 3 (args.flatMap Val.enc)) ua)) (hz : ∀ v∈args,v.size<=1000000000000000) (hb : dj p g id args fuel ≠ .bad) :
   aA Tryd.prog w0 M Γ 26 #[.agg #[um,ud],.agg id.vals.toArray,ua,av fuel] (oV M Γ fun M' v=>∃ us,v = .tuple #[.agg us.toArray,av (nB (dj p g id args fuel)).2.1,av (nB (dj p g id args fuel)).2.2]/\RdL M' (nB (dj p g id args fuel)).1.enc us):=by
 refine aA.kn hp fun hp=>?_
 refine aA.kn ha fun ha=>?_
 obtain ⟨a1,c1,rfl,hc1,hlim1,hlen1⟩:=ha.slice
 refine sU (f:=26) Tryd.func26 rfl Tryd.ntmps26 rfl rfl fun w1 hw1=>?_
 refine CW.aW hp ?_
 refine CW.fV ha ?_
 refine CW.seq fun K1 hK1=>?_
 refine CW.region ?_
 refine RL.box [um,ud] rfl rfl rfl fun b4=>?_
 refine RL.box id.vals rfl rfl rfl fun b5=>?_
 refine RL.box [.slice a1 args.length c1] rfl rfl rfl fun b6=>?_
 refine RL.alloc _ aZ rfl rfl fun b8=>?_
 refine RL.q (Y.assign rfl) rfl ?_
 refine RL.q (Y.assign rfl) rfl ?_
 refine RL.nil ?_
 refine hK1 _ _ _ ?_
 refine CW.kp [3,4,5,6,8] rfl ?_
 refine CW.seq fun K2 hK2=>?_
 refine CW.region ?_
 refine RL.q (Y.bN rfl MM MM EL tE) rfl ?_
 refine RL.q (Y.gq rfl MM (by rfl) kE) rfl ?_
 refine RL.call rfl func53 rfl rfl (by exact body_ok _ _ _ _ _ _ KK) ?_
 rintro v18 M _ ⟨rfl,rfl,us18,rfl,hr18⟩
 refine RL.aW hr18 ?_
 refine RL.q (Y.move rfl) rfl ?_
 refine RL.q (Y.extract rfl rfl) rfl ?_
 refine RL.q (Y.extract rfl rfl) rfl ?_
 refine RL.alloc _ mV rfl rfl fun b11=>?_
 refine RL.aD 31 rfl rfl RP MM EL (by first | exact Kn.bk MM EL | exact Kn.bl rfl) jR ?_
 refine RL.q (Y.assign rfl) rfl ?_
 refine RL.nil ?_
 refine hK2 _ _ _ ?_
 refine CW.kp [3,4,6,8,11,12] rfl ?_
 refine CW.seq fun K3 hK3=>?_
 refine CW.seq fun K4 hK4=>?_
 refine CW.region ?_
 refine RL.q (Y.move rfl) rfl ?_
 refine RL.q (Y.notD rfl) rfl ?_
 refine RL.nil ?_
 refine hK4 _ _ _ ?_
 refine CW.kp [3,4,6,8,11,22] rfl ?_
 refine CW.ite rfl (fun h1=>?_) (fun h1=>?_)
 ·refine CW.seq fun K5 hK5=>?_
  refine CW.region ?_
  refine RL.q (Y.build [av 0,av 0,.slice none 0 0] rfl aZ cu (by rfl)) rfl ?_
  refine RL.aG _ rfl rfl RP (by rfl) (by first | (simp;done) | simp [IdT.vals]) (by first | (simp [Value.oneCell'];done) | simp [Value.oneCell',IdT.vals]) aB ?_
  refine RL.q (Y.assign rfl) rfl ?_
  refine RL.q (Y.assign rfl) rfl ?_
  refine RL.nil ?_
  refine hK5 _ _ _ ?_
  refine CW.kp [8,9,10] rfl ?_
  refine CW.ret ?_
  refine ⟨_,_,rfl,rfl,aC.mk rfl MM (by rfl) aE (az.drop ⟨Sub.refl _,rfl,[av 0,av 0,.slice none 0 0],?_,?_⟩ SB)⟩
  · unfold dj;rw [if_neg (fun c=>h1 ((pV p id).2 c))];rfl
  · unfold dj;rw [if_neg (fun c=>h1 ((pV p id).2 c))];exact fc 0 0
 have hbd : tA p id:=(pV p id).1 (Decidable.not_not.1 h1)
 refine CW.skip ?_
 refine hK3 _ _ _ ?_
 refine CW.seq fun K6 hK6=>?_
 refine CW.seq fun K7 hK7=>?_
 refine CW.region ?_
 refine RL.q (Y.iZ rfl MM (by rfl) fm) rfl ?_
 refine RL.q (Y.len rfl Tryd.underlying24) rfl ?_
 refine RL.q (Y.field rfl pK) rfl ?_
 refine RL.aN rfl rfl MM MM (by rfl) Af rfl fun a27 c27 hu27 hc27 hl27=>?_
 refine RL.q (Y.len rfl Tryd.underlying46) rfl ?_
 refine RL.q (Y.neq rfl rfl) rfl ?_
 refine RL.nil ?_
 refine hK7 _ _ _ ?_
 refine CW.kp [3,4,6,8,11,29] rfl ?_
 refine CW.ite rfl (fun h2=>?_) (fun h2=>?_)
 ·refine CW.seq fun K8 hK8=>?_
  refine CW.region ?_
  refine RL.q (Y.build [av 0,av 0,.slice none 0 0] rfl aZ cu (by rfl)) rfl ?_
  refine RL.aG _ rfl rfl RP (by rfl) (by first | (simp;done) | simp [IdT.vals]) (by first | (simp [Value.oneCell'];done) | simp [Value.oneCell',IdT.vals]) aB ?_
  refine RL.q (Y.assign rfl) rfl ?_
  refine RL.q (Y.assign rfl) rfl ?_
  refine RL.nil ?_
  refine hK8 _ _ _ ?_
  refine CW.kp [8,9,10] rfl ?_
  refine CW.ret ?_
  refine ⟨_,_,rfl,rfl,aC.mk rfl MM (by rfl) aE (az.drop ⟨Sub.refl _,rfl,[av 0,av 0,.slice none 0 0],?_,?_⟩ SB)⟩
  · unfold dj;rw [if_pos hbd,if_neg (fun c=>h2 (by have:=c.1;omega))];rfl
  · unfold dj;rw [if_pos hbd,if_neg (fun c=>h2 (by have:=c.1;omega))];exact fc 0 0
 have hlen : args.length = (aj p id).slots.length:=by omega
 refine CW.skip ?_
 refine hK6 _ _ _ ?_
 refine CW.seq fun K9 hK9=>?_
 refine CW.seq fun K10 hK10=>?_
 refine CW.region ?_
 refine RL.q (Y.field rfl pK) rfl ?_
 refine RL.aN rfl rfl MM MM (by rfl) Af rfl fun a32 c32 hu32 hc32 hl32=>?_
 refine RL.q (Y.len rfl Tryd.underlying46) rfl ?_
 refine RL.q (Y.move rfl) rfl ?_
 refine RL.nil ?_
 refine hK10 _ _ _ ?_
 refine CW.kp [3,4,6,8,11,32,33,34] rfl ?_
 refine CW.block ?_
 -- LOOP 1: live [3,4,6,8,11,32,33,34] changed [34]
 refine CW.kp [34,3,4,6,8,11,32,33] rfl ?_
 refine CW.ou (fun m Lc M1 Γc=>∃ k : Nat,m = (aj p id).slots.length - k/\k<=(aj p id).slots.length/\Lc = [(34,av k)]/\Γc = []/\M1 = M/\∀ j (hj : j < args.length) (hj2 : j < (aj p id).slots.length),j < k->gI p ((aj p id).slots[j]).ty args[j]) ((aj p id).slots.length) [(34,_)] _ rfl rfl ⟨0,rfl,Nat.zero_le _,rfl,rfl,rfl,fun _ _ _ h=>absurd h (Nat.not_lt_zero _)⟩ ?_
 rintro m Lc M Γc hs ⟨k,rfl,hk,rfl,rfl,rfl,hF0⟩
 refine CW.seq fun K11 hK11=>?_
 refine CW.region ?_
 refine RL.q (Y.lss rfl rfl) rfl ?_
 refine RL.nil ?_
 refine hK11 _ _ _ ?_
 refine CW.kp [3,4,6,8,11,32,33,34,35] rfl ?_
 refine CW.seq fun K12 hK12=>?_
 refine CW.ite rfl (fun h3=>?_) (fun h3=>?_)
 ·have hka : k < (aj p id).slots.length:=by omega
  have hkb : k < args.length:=by omega
  refine CW.skip ?_
  refine hK12 _ _ _ ?_
  refine CW.seq fun K13 hK13=>?_
  refine CW.block ?_
  refine CW.seq fun K14 hK14=>?_
  refine CW.region ?_
  refine RL.q (Y.move rfl) rfl ?_
  refine RL.q (Y.index _ rfl rfl rfl AO A0 SM) rfl ?_
  refine RL.aM rfl rfl MM (Eq.trans (aS SlotT.aq _ _ _ (List.getElem?_eq_getElem AO)) (SlotT.ay _)) (by rfl) agg68 rfl fun us38 hul38 hur38=>?_
  refine RL.alloc _ Dk rfl rfl fun b14=>?_
  refine RL.q (Y.assign rfl) rfl ?_
  refine RL.aD 11 rfl rfl RP MM EL (by first | exact Kn.bk MM EL | exact Kn.bl rfl) DG ?_
  refine RL.nil ?_
  refine hK14 _ _ _ ?_
  refine CW.kp [3,4,6,8,11,13,14,32,33,34] rfl ?_
  refine CW.seq fun K15 hK15=>?_
  refine CW.A9 mix KR ?_
  refine QL.q (Y.bN rfl MM MM EL tE) rfl ?_
  refine QL.q (Y.field rfl C1) rfl ?_
  refine QL.so rfl rfl MM MM (by rfl) (by rfl) agg38 rfl fun us41 hul41 hur41=>?_
  refine QL.q (Y.iZ rfl MM (by rfl) fm) rfl ?_
  refine QL.q (Y.move rfl) rfl ?_
  refine QL.q (Y.index _ rfl rfl rfl AO en SM) rfl ?_
  refine QL.aM rfl rfl MM (Eq.trans (aS Val.aq _ _ _ (List.getElem?_eq_getElem AO)) (Val.ay _)) (by rfl) aE rfl fun us45 hul45 hur45=>?_
  refine QL.er rfl func28 rfl rfl (by exact fun _ hC=>Dc hN p _ ((aj p id).slots[k]).ty _ args[k] _ (hz _ (List.getElem_mem hkb)) (Kn.via hC KK) (Kn.via hC KK) (Kn.via hC KK)) ?_
  refine QL.q (Y.notD rfl) rfl ?_
  refine QL.nil ?_
  refine hK15 _ _ _ ?_
  refine CW.kp [3,4,6,8,11,32,33,34,47] rfl ?_
  refine CW.ite rfl (fun h4=>?_) (fun h4=>?_)
  ·refine CW.seq fun K16 hK16=>?_
   refine CW.region ?_
   refine RL.q (Y.build [av 0,av 0,.slice none 0 0] rfl aZ cu (by rfl)) rfl ?_
   refine RL.aG _ rfl rfl RP (by rfl) (by first | (simp;done) | simp [IdT.vals]) (by first | (simp [Value.oneCell'];done) | simp [Value.oneCell',IdT.vals]) aB ?_
   refine RL.q (Y.assign rfl) rfl ?_
   refine RL.q (Y.assign rfl) rfl ?_
   refine RL.nil ?_
   refine hK16 _ _ _ ?_
   refine CW.kp [8,9,10] rfl ?_
   refine CW.ret ?_
   refine ⟨_,_,rfl,rfl,aC.mk rfl MM (by rfl) aE (az.drop ⟨Sub.refl _,rfl,[av 0,av 0,.slice none 0 0],?_,?_⟩ SB)⟩
   · unfold dj;rw [if_pos hbd,if_neg (fun c=>h4 (kA c k hkb))];rfl
   · unfold dj;rw [if_pos hbd,if_neg (fun c=>h4 (kA c k hkb))];exact fc 0 0
  refine CW.skip ?_
  refine hK13 _ _ _ ?_
  refine CW.region ?_
  refine RL.q (Y.add rfl rfl OM) rfl ?_
  refine RL.q (Y.move rfl) rfl ?_
  refine RL.nil ?_
  refine ⟨(aj p id).slots.length - (k+1),[(34,_)],?_,(KP [34,3,4,6,8,11,32,33]),?_⟩
  · omega
  · exact az.drop ⟨[],rfl,hs,k+1,rfl,by omega,rfl,rfl,rfl,fun j hj hj2 hlt=>by by_cases e : j = k;subst e;exact Decidable.not_not.1 h4;exact hF0 j hj hj2 OM⟩ SB
 refine CW.exit ?_
 refine hK9 _ _ _ ?_
 refine CW.seq fun K17 hK17=>?_
 have hfit : fT p (aj p id) args:=tC hlen fun j hj=>hF0 j hj OM OM
 obtain ⟨env2,henv,_⟩:=tj hfit
 have hce : dj p g id args fuel = aI p (max fuel 0) g (aj p id).body env2 0:=by unfold dj;rw [if_pos hbd,if_pos hfit];unfold BO;rw [henv]
 rw [hce] at hb
 replace hce : nB (dj p g id args fuel) = doR (aI p (max fuel 0) g (aj p id).body env2 0):=by rw [hce,doR_eq]
 refine CW.region ?_
 refine RL.q (Y.bN rfl MM MM EL tE) rfl ?_
 refine RL.q (Y.move rfl) rfl ?_
 refine RL.q (Y.makeFunc rfl rfl) rfl ?_
 refine RL.call rfl func61 rfl rfl (by exact do_ok _ _ _ um ud fuel 62 #[cH b11,cH b6] func62 (aI p (max fuel 0) g (aj p id).body env2 0) (fun br Γ1 hG=>FT g _ _ _ Γ1 br (aj p id) us18 args _ env2 (fun w hw=>(hG w hw).sub SB) (hr18.1.trans (DefT.aq _)) ⟨hN,hp,by omega,by omega,hF,rfl⟩ hr18 ha henv hb) (fun x s h=>Nat.le_trans (jc h).1 OM)) ?_
 rintro v53 M53 _ ⟨hs53,rfl,us53,rfl,hr53⟩
 refine RL.aW hr53 ?_
 have hul53 : us53.length = 3:=hr53.1.trans (Val.aq _)
 refine RL.q (Y.extract rfl rfl) rfl ?_
 refine RL.q (Y.extract rfl rfl) rfl ?_
 refine RL.q (Y.extract rfl rfl) rfl ?_
 refine RL.aD 3 rfl rfl RP MM EL (by first | exact Kn.bk MM EL | exact Kn.bl rfl) aB ?_
 refine RL.q (Y.assign rfl) rfl ?_
 refine RL.q (Y.assign rfl) rfl ?_
 refine RL.nil ?_
 refine hK17 _ _ _ ?_
 refine CW.kp [8,9,10] rfl ?_
 refine CW.ret ?_
 exact ⟨_,_,rfl,rfl,aC.mk rfl MM (by first | rfl | exact hul53) aE (az.drop ⟨hs53,rfl,_,by rw [hce],by rw [hce];exact hr53⟩ SB)⟩
theorem of_all {p : ProgT} (hp : CallsP p) : ∀ (j : Nat) (hj : j < p.defs.length),¬ bare p.defs[j]->OfIs p p.defs[j]:=by
 intro j
 induction j using Nat.strongRecOn with
 | _ j ih =>
  intro hj hb
  obtain ⟨h1,h2⟩:=hp.calls j hj hb
  have hl:=hp.len
  refine of_isE (CF hp hj hb) (yS (by omega) (fun r hr=>?_) _ h1 h2)
  obtain ⟨k,hk,hlt,rfl,hkk⟩:=hr
  have hm:=List.getElem_mem hk
  rw [hp.nm.the hm]
  exact ⟨ih k (by omega) hk (fun h=>by unfold bare at h;omega),rfl⟩
theorem EH {p : ProgT} (hp : CallsP p) (i : IdT) : IS s20 [pgL p,i.enc] [[vI (dV p i)]]:=by
 refine w20.is ?_
 unfold g20
 have hl:=hp.len
 refine ai (body_is p i (by omega)) ?_
 simp only [pmr,pms]
 refine ⟨fun hb=>?_,fun hb=>by rw [rZ hb]⟩
 obtain ⟨d,hd,hid⟩:=hb.1
 subst hid
 have hb2:=hb.2
 rw [hp.nm.the hd] at hb2 ⊢
 obtain ⟨j,hj,rfl⟩:=List.mem_iff_getElem.1 hd
 obtain ⟨kn',_,hcall⟩:=of_all hp j hj hb2 [] (fun x hx=>by cases hx)
 refine ai hcall ?_
 simp only [pmr,knD]
theorem rd_i {M : Mem} (z : Int) : Rd M (vI z) (av z):=by unfold Rd;exact ⟨rfl,rfl⟩
theorem un_i {M : Mem} {z : Int} {d : Value} (h : Rd M (vI z) d) : d = av z:=by unfold Rd at h;exact h.1
theorem wO {p : ProgT} {g : Nat} {e : Ex} {fuel : Int} {r : EO} (hF : max fuel 0<=1099511627776) (he : aI p (max fuel 0) g e [] 0 = r) (hb : r ≠ .bad) : IS s47 [p.enc,e.enc,[vI fuel]] [(doR r).1.enc,[vI (doR r).2.1],[vI (doR r).2.2]]:=by
 subst he
 refine pn rfl ?_
 show Old _ _ _ _
 intro w0 M Γ vs hlen hpl hN
 obtain ⟨a,b,d,rfl⟩ : ∃ a b d,vs = [a,b,d]:=by
  match vs,hlen with
  | [a,b,d],_=>exact ⟨a,b,d,rfl⟩
 obtain h0 | ⟨_,h0,h1⟩:=hpl 0
 ·cases h0
 cases h0
 obtain ⟨_,us,rfl,hp⟩ : p.enc.length = 2/\∃ us : List Value,a = .agg us.toArray/\RdL M p.enc us:=h1
 obtain h0 | ⟨_,h0,h1⟩:=hpl 1
 ·cases h0
 cases h0
 obtain ⟨_,ue,rfl,hr⟩ : e.enc.length = 15/\∃ us : List Value,b = .agg us.toArray/\RdL M e.enc us:=h1
 obtain h0 | ⟨_,h0,h2⟩:=hpl 2
 ·cases h0
 cases h0
 obtain rfl:=un_i (show Rd M (vI fuel) d from h2)
 obtain ⟨um,ud,rfl⟩ : ∃ um ud,us = [um,ud]:=by
  have:=hp.1.trans (ProgT.aq _)
  match us,this with
  | [a,b],_=>exact ⟨a,b,rfl⟩
 intro w hw
 refine (expr_ok w0 M Γ p um ud e ue fuel g hN hF (Kn.of hp) (Kn.of hr) hb w hw).mono ?_
 rintro x w' ⟨v,M',Γ',rfl,⟨h3,rfl,us,rfl,hr⟩,hst⟩
 refine ⟨_,_,_,rfl,⟨h3,rfl,[.agg us.toArray,av (doR (aI p (max fuel 0) g e [] 0)).2.1,av (doR (aI p (max fuel 0) g e [] 0)).2.2],_,⟨rfl,rfl⟩,rfl,fun _=>rfl,fun t=>?_⟩,hst⟩
 match t with
 | 0=>exact .inr ⟨_,rfl,Val.aq _,us,rfl,hr⟩
 | 1=>exact .inr ⟨_,rfl,show Rd M' (vI _) _ from rd_i _⟩
 | 2=>exact .inr ⟨_,rfl,show Rd M' (vI _) _ from rd_i _⟩
 | t+3=>exact .inl rfl
theorem Ar {n : Int} {l : List Val} {r : Val} (hz : ∀ v∈l,v.size<=100000) (hr : opV n l = some r) : IS s12 [[vI n],[.sl l.length 3 (l.flatMap Val.enc)]] [r.enc]:=by
 refine pn rfl ?_
 show Old _ _ _ _
 intro w0 M Γ vs hlen hpl hN
 obtain ⟨a,b,rfl⟩ : ∃ a b,vs = [a,b]:=by
  match vs,hlen with
  | [a,b],_=>exact ⟨a,b,rfl⟩
 obtain h0 | ⟨_,h0,h1⟩:=hpl 0
 ·cases h0
 cases h0
 obtain rfl:=un_i (show Rd M (vI n) a from h1)
 obtain h0 | ⟨_,h0,h1⟩:=hpl 1
 ·cases h0
 cases h0
 replace h1 : Rd M (.sl l.length 3 (l.flatMap Val.enc)) b:=h1
 intro w hw
 refine (Bh w0 M Γ n l b r (Kn.of h1) hN hz hr w hw).mono ?_
 rintro x w' ⟨v,M',Γ',rfl,⟨h3,rfl,us,rfl,hr⟩,hst⟩
 refine ⟨_,_,_,rfl,⟨h3,rfl,[.agg us.toArray],_,rfl,rfl,fun _=>rfl,fun t=>?_⟩,hst⟩
 match t with
 | 0=>exact .inr ⟨_,rfl,Val.aq _,us,rfl,hr⟩
 | t+1=>exact .inl rfl
theorem calls0 : CallsP uB:=⟨⟨fun i j hi=>absurd hi (Nat.not_lt_zero _),fun d hd=>(by cases hd),fun d hd=>(by cases hd),fun d hd=>(by cases hd)⟩,Nat.zero_le _,fun k hk=>absurd hk (Nat.not_lt_zero _)⟩
theorem ET : IS s18 [] [[vB true]]:=by
 have sv : ∀ v : Val,v.size<=1000000000000000->IS s11 [v.enc,v.enc] [[vB true]]:=fun v hv=>by
  have:=same_is v v hv
  rwa [decide_eq_true (vj v)] at this
 have sm : ∀ {x y : Int},∀ v∈[kG x,kG y],v.size<=100000:=fun v hv=>by
  simp only [List.mem_cons,List.not_mem_nil,or_false] at hv
  rcases hv with rfl | rfl <;> exact Nat.le_of_ble_eq_true rfl
 refine w18.is ?_
 unfold g18
 refine ai (wO (by decide) lv1 (fun h=>by cases h)) ?_
 simp only [pmr,doR]
 refine ai (wO (by decide) lv2 (fun h=>by cases h)) ?_
 simp only [pmr,doR]
 refine ai (wO (by decide) lv3 (fun h=>by cases h)) ?_
 simp only [pmr,doR]
 refine ai (Ar sm lv4) ?_
 refine ai (Ar sm lv5) ?_
 refine ai (Ar sm lv6) ?_
 simp only [pmr]
 have tk : ∀ {P Q : Prop},P->(True->P)/\(¬ True->Q):=fun p=>⟨fun _=>p,fun c=>absurd trivial c⟩
 have n4 : ∀ z : Int,cell (kG z).enc 1 = vI z:=fun _=>rfl
 refine ai (sv (kG 5) (Nat.le_of_ble_eq_true rfl)) ?_
 simp only [pmr]
 refine tk (tk (tk (ai (sv (kG 13) (Nat.le_of_ble_eq_true rfl)) ?_)))
 simp only [pmr,n4]
 refine tk (tk (tk (tk (tk (ai (EH calls0 id5) ?_)))))
 rw [rZ (fun h=>lv7 _ h.1)]
 simp only [pmr]
 rfl
theorem FE {p : ProgT} {g : Nat} {id : IdT} {args : List Val} {fuel : Int} (hF : max fuel 0<=1099511627776) (hz : ∀ v∈args,v.size<=1000000000000000) (hb : dj p g id args fuel ≠ .bad) :
  IS s26 [p.enc,id.enc,[.sl args.length 3 (args.flatMap Val.enc)],[vI fuel]] [(nB (dj p g id args fuel)).1.enc,[vI (nB (dj p g id args fuel)).2.1],[vI (nB (dj p g id args fuel)).2.2]]:=by
 refine pn rfl ?_
 show Old _ _ _ _
 intro w0 M Γ vs hlen hpl hN
 obtain ⟨a,b,c,d,rfl⟩ : ∃ a b c d,vs = [a,b,c,d]:=by
  match vs,hlen with
  | [a,b,c,d],_=>exact ⟨a,b,c,d,rfl⟩
 obtain h0 | ⟨_,h0,h1⟩:=hpl 0
 ·cases h0
 cases h0
 obtain ⟨_,us,rfl,hp⟩ : p.enc.length = 2/\∃ us : List Value,a = .agg us.toArray/\RdL M p.enc us:=h1
 obtain h0 | ⟨_,h0,h1⟩:=hpl 1
 ·cases h0
 cases h0
 obtain ⟨_,ui,rfl,hi⟩ : id.enc.length = 3/\∃ us : List Value,b = .agg us.toArray/\RdL M id.enc us:=h1
 obtain h0 | ⟨_,h0,h1⟩:=hpl 2
 ·cases h0
 cases h0
 replace h1 : Rd M (.sl args.length 3 (args.flatMap Val.enc)) c:=h1
 obtain h0 | ⟨_,h0,h2⟩:=hpl 3
 ·cases h0
 cases h0
 replace h2 : Rd M (vI fuel) d:=h2
 obtain ⟨um,ud,rfl⟩ : ∃ um ud,us = [um,ud]:=by
  have:=hp.1.trans (ProgT.aq _)
  match us,this with
  | [a,b],_=>exact ⟨a,b,rfl⟩
 have ei : ui = id.vals:=by
  obtain ⟨u1,r1,rfl,k1,hi⟩:=hi.kQ
  obtain ⟨u2,r2,rfl,k2,hi⟩:=hi.kQ
  obtain ⟨u3,r3,rfl,k3,hi⟩:=hi.kQ
  obtain rfl:=hi.unnil
  unfold Rd at k1 k2 k3
  rw [k1.1,k2.1,k3.1]
  rfl
 have ed : d = av fuel:=by unfold Rd at h2;exact h2.1
 subst ei ed
 intro w hw
 refine (FD w0 M Γ p um ud id args c fuel g hN hF (Kn.of hp) (Kn.of h1) hz hb w hw).mono ?_
 rintro e w' ⟨v,M',Γ',rfl,⟨h3,rfl,us,rfl,hr⟩,hst⟩
 refine ⟨_,_,_,rfl,⟨h3,rfl,[.agg us.toArray,av (nB (dj p g id args fuel)).2.1,av (nB (dj p g id args fuel)).2.2],_,⟨rfl,rfl⟩,rfl,fun _=>rfl,fun t=>?_⟩,hst⟩
 match t with
 | 0=>exact .inr ⟨_,rfl,Val.aq _,us,rfl,hr⟩
 | 1=>exact .inr ⟨_,rfl,show Rd M' (vI _) _ by unfold Rd;exact ⟨rfl,rfl⟩⟩
 | 2=>exact .inr ⟨_,rfl,show Rd M' (vI _) _ by unfold Rd;exact ⟨rfl,rfl⟩⟩
 | t+3=>exact .inl rfl
theorem DU {l : List Int} (hl : ∀ x∈l,InI x) : IS s19 [[aK l]] [pgL (aX l)]:=by
 have:=prog_is hl
 rwa [ProgT.ay] at this
theorem FO {l : List Int} {i : IdT} {al : List Val} {fuel : Int} (hz : ∀ v∈al,v.size<=1000000000000000) (hf : fuel<=1000000) : IS s26 [pgL (aX l),i.enc,[vlD al],[vI fuel]] [(nB (dj (aX l) 1000000 i al fuel)).1.enc,[vI (nB (dj (aX l) 1000000 i al fuel)).2.1],[vI (nB (dj (aX l) 1000000 i al fuel)).2.2]]:=by
 have:=FE (p:=aX l) (g:=1000000) (id:=i) (args:=al) (fuel:=fuel) (by omega) hz (FQ (nq l) (by omega))
 rwa [ProgT.ay] at this
theorem E1 {M : Mem} {m : List Int} {u : Value} (h : Rd M (aK m) u) : m.length<=1000000000000000:=by
 obtain ⟨a,c,_,_,h1,_⟩:=h.slice
 omega
def Ac (n : Int) : List Int:=[65536,around n 60,0,-5]
theorem Fe {n : Int} (hn : InI n) : IS s25 [[vI n]] [[aK (Ac n)]]:=by
 refine w25.is ?_
 unfold g25
 simp only [pmr]
 refine ai (mB (by omega) hn) ?_
 simp only [pmr]
 rfl
theorem Fc (n : Int) {j : Nat} (h : j < 4) : ∃ f,el ((Ac n).map an) 1 j = [vI f]/\f<=65536:=by
 have h1:=ig n 60 (by omega)
 match j,h with
 | 0,_=>exact ⟨65536,rfl,by omega⟩
 | 1,_=>exact ⟨around n 60,rfl,by omega⟩
 | 2,_=>exact ⟨0,rfl,by omega⟩
 | 3,_=>exact ⟨-5,rfl,by omega⟩
theorem B8 {l m : List Int} {which fuel : Int} (hl : ∀ x∈l,InI x) (hw : InI which) (hm : ∀ x∈m,InI x) (hml : m.length<=1000000000000000) (hf : InI fuel) : IS s8 [[aK l],[vI which],[aK m],[vI fuel]] [[vB true]]:=by
 have hpt:=nq l
 have hpc:=nr l
 have hpl:=hpc.len
 obtain ⟨hd,hb⟩:=some_ok (l:=l) which
 generalize hdd : rB (aX l) which = d at hd hb
 have hfit:=F5 hd m
 have hargs:=args_is hd hm hml
 generalize haa : mR (aX l) d m = al at hfit hargs
 refine w8.is ?_
 unfold g8
 simp only [pmr]
 refine ai (DU hl) ?_
 simp only [pmr]
 refine ai (some_is hw (by omega) hpc.nm.kd (tB l)) ?_
 rw [hdd]
 simp only [pmr]
 refine ai (Fe hf) ?_
 unfold aK
 simp only [pmr]
 refine cz 4 (fun j=>[[aK m],[vI (j : Int)],pgL (aX l),d.enc,[aK (Ac fuel)]]) (fun _=>True) trivial rfl fun j next hj _ hn=>?_
 have hcall : ∀ fuel,fuel<=1000000->IS s26 [pgL (aX l),d.id.enc,[.sl al.length 3 (al.flatMap Val.enc)],[vI fuel]] _:=fun fuel hf=>FO (l:=l) (i:=d.id) (al:=al) (fun v hv=>by have:=Fs hfit v hv;omega) hf
 unfold aK at hn ⊢
 simp only [pmr]
 refine ⟨fun h=>?_,fun h=>ai ET ?_⟩
 ·have hj4 : j < 4:=by omega
  obtain ⟨f,hfe,hfl⟩:=Fc fuel hj4
  refine ja ?_
  refine ai hargs ?_
  unfold vlD
  simp only [pmr,pms,hfe]
  refine ⟨⟨by omega,by show (j : Int) < 4;omega⟩,ai (hcall f (by omega)) ?_⟩
  have nx:=hn hj4 trivial
  rcases yQ (g:=1000000) hpt hd hb hfit (fuel:=f) (by omega) with ⟨v,n,he,hv,hn0,hn1⟩ | ⟨k,he,hk⟩
  ·rw [he]
   simp only [nB,pmr,pms]
   have hvs:=(jm _ _ _).1 hv
   refine ⟨fun _=>ai (xq (by omega) (by omega)) ?_,fun c=>absurd trivial c⟩
   rw [decide_eq_true hv]
   simp only [pmr,Bool.not_true]
   exact ⟨fun _=>⟨by unfold okI;omega,nx⟩,fun c=>absurd trivial c⟩
  ·rw [he]
   simp only [nB,pmr,pms]
   refine ⟨fun c=>absurd c (by omega),fun _=>⟨fun c=>absurd c (by omega),fun _=>⟨fun _=>⟨by unfold okI;omega,nx⟩,fun k18=>⟨fun _=>⟨by unfold okI;omega,nx⟩,fun k4=>by omega⟩⟩⟩⟩
 ·simp only [pmr]
theorem oW (w0 : World) (M : Mem) (l : List Int) (ul : Value) (which : Int) (m : List Int) (um : Value) (fuel : Int) (hl : Rd M (aK l) ul) (hm : Rd M (aK m) um) (hN : gQ M) (hli : ∀ x∈l,InI x) (hwi : InI which) (hmi : ∀ x∈m,InI x) (hfi : InI fuel) :
  aA Tryd.prog w0 M [] 8 [ul,av which,um,av fuel].toArray (fun u M' Γ'=>u = .bool true/\M' = M/\Γ' = []):=by
 have h : lW Tryd.prog s8 _ _:=B8 hli hwi hmi (E1 hm) hfi
 refine xV hN h rfl (fun t=>?_) (fun _=>rfl) rfl rfl
 match t with
 | 0=>exact .inr ⟨_,rfl,hl⟩
 | 1=>exact .inr ⟨_,rfl,show Rd M (vI which) _ from rd_i _⟩
 | 2=>exact .inr ⟨_,rfl,hm⟩
 | 3=>exact .inr ⟨_,rfl,show Rd M (vI fuel) _ from rd_i _⟩
 | t+4=>exact .inl rfl
end Go.Proofs.YtanbipbiblikbaaDoor

namespace Xe
open Go Go.ChangeShapes Go.WideShapes Go.RowKit
theorem yf {H : Type} {enc : TypeId×Value->H} {C : Checked} {os : Os} {f : FuncId} {fn : Func} {s : ChangeSpec} {tb : TypeId} {fresh handsOn again : Bool} {laid : List (String×DataW Unit)} {F : Stop.Interp} (ts0 : List TypeId) (own : ownKnob C.prog.godebug = none) (started : os.Started) (noInit : C.prog.inits.idxOf? f = none) (hfn : C.prog.funcs[f]? = some fn)
  (hcl : q5 C.prog ts0 = true) (hl : laidOutB C.prog = true) (htb : C.prog.underlying tb = some .bool)
  (hts : (fn.params.toList.all fun t=>ts0.contains t && C.prog.readableRec t && Nat.blt t C.prog.types.size) = true) (hres : fn.resultTypes = #[tb]) (hvars : s.vars = []) (hspec : ∀ ds : List (DataW H),ds.length = fn.params.toList.length->s.fn H ds = { results:=[.lit (.bool true)],args:=ds,vars:=[] })
  (witness : ∃ (w : World) (tape : Tape) (i : Input),w.os = os/\(w.forCall tape i).Shaped C.prog/\i.vars = []/\Input.okWide C.prog (w.forCall tape i) .any w.heap.size f i /\
   (OpenSpec.ofChange s).preRow enc C.prog fn [] false laid (w.forCall tape i).memory i.args/\Assume.holds {} C.prog (lone (Frame.enter C.prog f i.args .normal) [] (w.forCall tape i)))
  (contract : ∀ (W : World) (vs : List Value),laidMetH C.prog laid W->ArgsW C.prog (dW W) fn.params.toList vs->aA C.prog W (dW W) [] f vs.toArray (Is (dW W) [] (.bool true))) :
  ReturnsInHanded {} C os f .any ((OpenSpec.ofChange s).preRow enc C.prog fn [] false laid) (((OpenSpec.ofChange s).at F).post enc C.prog fn false fresh handsOn again):=by
 refine returnsInHanded_of_row (C:=C) (s:=OpenSpec.ofChange s) own started noInit hfn witness ?_
 intro W base args ds gs before hval hW _ _ hsz hL _ _
 exact EX yR (ds.map SizeOf.sizeOf).sum ts0 hcl hl htb hts hres hvars hspec hval hW hsz (fun d hd=>EW SizeOf.sizeOf hd) fun vs h=>contract W vs hL h.toW
end Xe

namespace Go.Proofs.YtanbipbiblikbaaDoor
open Xe
set_option maxRecDepth 20000
theorem wty3 : Y.intB Tryd.prog 3 .i64 = true:=by kernel_rfl
theorem wty22 : slcB Tryd.prog 22 3 1 = true:=by kernel_rfl
section
variable {n : Nat} {ds : List D}
theorem ints_of (h : WT Tryd.prog n 22 ds) : ∃ l : List Int,ds = [aK l]/\∀ x∈l,InI x:=by
 obtain ⟨m,rfl,els,rfl,_,he⟩:=h.elems wty22
 obtain ⟨l,e1,e2,e3⟩:=yK (enc:=fun z=>[an z]) (Q:=InI) fun x hx=>(he x hx).int wty3
 exact ⟨l,by rw [e1,e2,aK,List.map_eq_flatMap],e3⟩
end
section
variable {M : Mem} {ts : List TypeId} {vs : List Value}
theorem yZ (h : ArgsW Tryd.prog M (22::ts) vs) : ∃ (l : List Int) (v : Value) (vs' : List Value),vs = v::vs'/\Rd M (aK l) v/\(∀ x∈l,InI x)/\ArgsW Tryd.prog M ts vs':=by
 obtain ⟨n,ds,us,v,vs',rfl,h1,h2,h3,h4⟩:=h.inv
 obtain ⟨l,rfl,hl⟩:=ints_of h2
 simp only [p4,Tryd.underlying22] at h3
 subst h3
 exact ⟨l,v,vs',rfl,h1.2 0 _ _ rfl rfl,hl,h4⟩
theorem BS (h : ArgsW Tryd.prog M (3::ts) vs) : ∃ (z : Int) (vs' : List Value),vs = av z::vs'/\InI z/\ArgsW Tryd.prog M ts vs':=by
 obtain ⟨n,ds,us,v,vs',rfl,h1,h2,h3,h4⟩:=h.inv
 obtain ⟨z,rfl,hz⟩:=h2.int wty3
 simp only [p4,Tryd.underlying3] at h3
 subst h3
 have h5:=h1.2 0 _ _ rfl rfl
 obtain rfl:=Rd.int_eq h5
 exact ⟨z,vs',rfl,hz,h4⟩
end
open Xe Go.ChangeShapes Go.WideShapes Go.ChangeAt Go.RowKit
set_option maxRecDepth 100000
abbrev Bq : List (String × DataW Unit) := [( "splicery/eval.numbers", Rows.laid_splicery_eval_numbers)]
theorem ownKn : ownKnob Tryd.prog.godebug = none:=by kernel_rfl
theorem gNums : Tryd.prog.globalNamed "splicery/eval.numbers" = some 0 := by kernel_rfl
theorem tNums : (Tryd.prog.globals[0]?).map (·.type) = some 70:=by kernel_rfl
theorem u70 : Tryd.prog.underlying 70 = some (.array 5 40):=by kernel_rfl
theorem u40 : Tryd.prog.underlying 40 = some (.func #[3,3] #[3] false):=by kernel_rfl
theorem c40 : Tryd.prog.cellsOf 40 = 1:=by kernel_rfl
theorem nums_of {W : World} (h : laidMetH Tryd.prog Bq W) : gQ (dW W):=by
 obtain ⟨g,t,cs,fuel,p,hg,ht,hv,hd⟩:=h.funcs (List.mem_singleton.2 rfl)
 obtain rfl:=Option.some.inj (gNums.symm.trans hg)
 obtain rfl:=Option.some.inj (tNums.symm.trans ht)
 have hd1 : DataW.trod (funcToken Tryd.prog) Tryd.prog W 0 (fun _=>true) true fuel 70 cs.toList = some (.agg [.held [115,112,108,105,99,101,114,121,47,101,118,97,108,46,110,117,109,98,101,114,115,36,49],.held [115,112,108,105,99,101,114,121,47,101,118,97,108,46,110,117,109,98,101,114,115,36,50],.held [115,112,108,105,99,101,114,121,47,101,118,97,108,46,116,105,109,101,115],.held [115,112,108,105,99,101,114,121,47,101,118,97,108,46,100,105,118,105,100,101],.held [115,112,108,105,99,101,114,121,47,101,118,97,108,46,114,101,115,116]],p):=hd
 obtain ⟨xs,m,rfl,hx,hl,hxl,hf⟩:=DataW.trod_array u70 hd1
 simp only [Prod.mk.injEq,DataW.agg.injEq] at hx
 have key : ∀ (k : Nat) (b : UInt8) (r : List UInt8) (f0 : FuncId),k < 5->((List.range Tryd.prog.funcs.size).filter fun f=>(Tryd.prog.funcs[f]?).any (·.name.toUTF8.data.toList == b::r)) = [f0]->(xs.map (·.1))[k]? = some (.held (b::r))->dD (dW W) (adr (some ⟨0,0,none⟩) k) = some (.func (.func f0) #[] #[]):=by
  intro k b r f0 hk hone hxk
  have h1:=hf k hk
  rw [c40,Nat.mul_one] at h1
  rw [List.getElem?_map] at hxk
  cases hy : xs[k]? with
  | none=>rw [hy] at hxk;cases hxk
  | some y =>
   rw [hy] at hxk h1
   have e1 : y.1 = .held (b::r):=Option.some.inj hxk
   have hlc : cs.toList.length = 5:=by rw [hl];kernel_rfl
   have hkl : k < cs.toList.length:=by omega
   have e2 : (cs.toList.drop k).take 1 = [cs.toList[k]]:=by rw [List.drop_eq_getElem_cons hkl];simp
   rw [e2] at h1
   have h2:=func_of_trod (q:=y.2) u40 hone (by rw [h1,<-e1])
   rw [qt,cF,Nat.zero_add,World.var?_cell hg hv k,<-h2]
   simp
 intro k hk
 have hx1:=hx.1.symm
 rcases k with _ | _ | _ | _ | _ | k
 ·exact key 0 _ _ 132 (by omega) (by kernel_rfl) (by rw [hx1];rfl)
 ·exact key 1 _ _ 133 (by omega) (by kernel_rfl) (by rw [hx1];rfl)
 ·exact key 2 _ _ 134 (by omega) (by kernel_rfl) (by rw [hx1];rfl)
 ·exact key 3 _ _ 135 (by omega) (by kernel_rfl) (by rw [hx1];rfl)
 ·exact key 4 _ _ 136 (by omega) (by kernel_rfl) (by rw [hx1];rfl)
 ·omega
theorem FH (os : Os) (args : Array Value) : laidMetH Tryd.prog Bq ((World.doorLaid Tryd.prog 600 os).forCall (fun _ _=>0) ⟨#[],args,[]⟩).memory :=
 laidMetH_of_parts3 (fuel:=8) (laidMet_of_run' 8 (by kernel_rfl) (by kernel_rfl)) (by kernel_rfl) (by kernel_rfl)
end Go.Proofs.YtanbipbiblikbaaDoor
