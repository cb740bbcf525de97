/- THE WALKS, 7: values of a type, by the program. Printed by m04g.py. -/
import Derived.Test.YtfgkhhfkodlbpaaVf
namespace Go.Proofs.Ytfgkhhfkodlbpaa
open Xe

theorem fits1_ok (N : Nat) (ih : ∀ (w0 : World) (M : Mem) (Γ : List As) (p : ProgT) (usp : List Value) (t : Ty) (ust : List Value) (v : Val) (usv : List Value), v.size < N → Kn w0 M Γ (RdL M p.enc usp) → Kn w0 M Γ (RdL M t.enc ust) → Kn w0 M Γ (RdL M v.enc usv) →
      CallOk Try.prog w0 M Γ 51 #[.agg usp.toArray, .agg ust.toArray, .agg usv.toArray] (Is M Γ (.bool (decide (fitsB p v t = true)))))
    (w0 : World) (M : Mem) (Γ : List As) (p : ProgT) (usp : List Value) (t : Ty) (ust : List Value) (v : Val) (us : List Value) (bp bt : Nat) (hv : v.size < N) (h1 : t.kids.length = 1) (hp : RdL M p.enc usp) (ht : RdL M t.enc ust) (hus : RdL M v.enc us) :
    CallOk Try.prog w0 M (.own bp 26 usp :: .own bt 31 ust :: Γ) 68 #[.agg us.toArray, .pointer (some (adr (some ⟨bp, 0, none⟩) 0)), .pointer (some (adr (some ⟨bt, 0, none⟩) 0))]
      (fun u M' Γ' => u = .bool (!(fitsB p v (t.kids.headD ty0))) ∧ M' = M ∧ Γ' = .own bp 26 usp :: .own bt 31 ust :: Γ) := by
  rw [Val.enc_eq] at hus
  rw [ProgT.enc_eq] at hp
  rw [Ty.enc_eq] at ht
  refine enter (f := 68) Try.func68 rfl Try.ntmps68 rfl rfl fun w1 hw1 => ?_
  refine CW.addRds hus ?_
  refine CW.addRds hp ?_
  refine CW.addRds ht ?_
  refine CW.seq fun K1 hK1 => ?_
  refine CW.region ?_
  refine RL.box _ rfl rfl rfl fun b3 => ?_
  refine RL.q (Y.assign rfl) rfl ?_
  refine RL.nil ?_
  refine hK1 _ _ _ ?_
  refine CW.kp [1, 2, 3] rfl ?_
  refine CW.seq fun K2 hK2 => ?_
  refine CW.regionQ mix KR ?_
  refine QL.q (Y.loadAllR rfl MM MM EL agg26) rfl ?_
  refine QL.q (Y.field rfl field31_2) rfl ?_
  refine QL.loadOwnSl rfl rfl MM MM (by rfl) flat29 rfl fun a7 c7 hu7 hc7 hl7 => ?_
  refine QL.q (Y.index 0 rfl rfl rfl AO slice29 SM) rfl ?_
  refine QL.loadAgg rfl rfl MM (Eq.trans (flat_take Ty.enc_len _ _ _ (List.getElem?_eq_getElem AO)) (Ty.enc_eq _)) (by rfl) agg31 rfl fun us9 hul9 hur9 => ?_
  refine QL.q (Y.loadAllR rfl MM MM EL agg53) rfl ?_
  refine QL.callv rfl func51 rfl rfl (by exact fun _ hC => ih _ _ _ p _ t.kids[0] _ v _ hv (Kn.via hC KK) (Kn.via hC KK) (Kn.via hC KK)) ?_
  refine QL.q (Y.notD rfl) rfl ?_
  refine QL.q (Y.assign rfl) rfl ?_
  refine QL.nil ?_
  refine hK2 _ _ _ ?_
  refine CW.kp [4] rfl ?_
  refine CW.ret ?_
  rw [headD_0 OM]
  exact ⟨_, rfl, Turn.drop ⟨vbN, rfl, rfl⟩ SB⟩

theorem fits_ok (N : Nat) : ∀ (w0 : World) (M : Mem) (Γ : List As) (p : ProgT) (usp : List Value) (t : Ty) (ust : List Value) (v : Val) (usv : List Value) , v.size = N → Kn w0 M Γ (RdL M p.enc usp) → Kn w0 M Γ (RdL M t.enc ust) → Kn w0 M Γ (RdL M v.enc usv) → 
    CallOk Try.prog w0 M Γ 51 #[.agg usp.toArray, .agg ust.toArray, .agg usv.toArray] (Is M Γ (.bool (decide (fitsB p v t = true)))) := by
  induction N using Nat.strongRecOn
  rename_i N ih
  intro w0 M Γ p usp t ust v usv hN hp ht hv 
  refine CallOk.kn hp fun hp => ?_
  rw [ProgT.enc_eq] at hp
  refine CallOk.kn ht fun ht => ?_
  rw [Ty.enc_eq] at ht
  refine CallOk.kn hv fun hv => ?_
  rw [Val.enc_eq] at hv
  refine enter (f := 51) Try.func51 rfl Try.ntmps51 rfl rfl fun w1 hw1 => ?_
  refine CW.addRds hp ?_
  refine CW.addRds ht ?_
  refine CW.addRds hv ?_
  refine CW.seq fun K1 hK1 => ?_
  refine CW.region ?_
  refine RL.box _ rfl rfl rfl fun b3 => ?_
  refine RL.box _ rfl rfl rfl fun b4 => ?_
  refine RL.box _ rfl rfl rfl fun b5 => ?_
  refine RL.q (Y.assign rfl) rfl ?_
  refine RL.nil ?_
  refine hK1 _ _ _ ?_
  refine CW.kp [3, 4, 5] rfl ?_
  refine CW.seq fun K2 hK2 => ?_
  refine CW.seq fun K3 hK3 => ?_
  refine CW.region ?_
  refine RL.q (Y.loadAllR rfl MM MM EL agg26) rfl ?_
  refine RL.q (Y.loadAllR rfl MM MM EL agg31) rfl ?_
  refine RL.callv rfl func15 rfl rfl (by exact validType_ok _ _ _ _ _ _ _ KK KK) ?_
  refine RL.q (Y.notD rfl) rfl ?_
  refine RL.nil ?_
  refine hK3 _ _ _ ?_
  refine CW.kp [3, 4, 5, 14] rfl ?_
  refine CW.ite rfl (fun h1 => ?_) (fun h1 => ?_)
  ·refine CW.seq fun K4 hK4 => ?_
   refine CW.region ?_
   refine RL.q (Y.assign rfl) rfl ?_
   refine RL.nil ?_
   refine hK4 _ _ _ ?_
   refine CW.kp [6] rfl ?_
   refine CW.ret ?_
   first | exact ⟨_, rfl, Turn.drop ⟨(vbF (fits_not h1)), rfl, rfl⟩ SB⟩
  have hvt : validT p t := Decidable.not_not.1 h1
  refine CW.skip ?_
  refine hK2 _ _ _ ?_
  refine CW.seq fun K5 hK5 => ?_
  refine CW.seq fun K6 hK6 => ?_
  refine CW.region ?_
  refine RL.q (Y.field rfl field31_0) rfl ?_
  refine RL.q (Y.loadOwnV rfl MM MM (by rfl) flat3) rfl ?_
  refine RL.nil ?_
  refine hK6 _ _ _ ?_
  refine CW.kp [3, 4, 5, 16] rfl ?_
  refine CW.block ?_
  refine CW.seq fun K7 hK7 => ?_
  refine CW.region ?_
  refine RL.q (Y.eql rfl rfl) rfl ?_
  refine RL.q (Y.assign rfl) rfl ?_
  refine RL.nil ?_
  refine hK7 _ _ _ ?_
  refine CW.kp [3, 4, 5, 16, 17] rfl ?_
  refine CW.ite rfl (fun h2 => ?_) (fun h2 => ?_)
  ·refine CW.seq fun K8 hK8 => ?_
   refine CW.region ?_
   refine RL.q (Y.field rfl field53_0) rfl ?_
   refine RL.q (Y.loadOwnV rfl MM MM (by rfl) flat3) rfl ?_
   refine RL.qs (Y.eql rfl rfl) rfl (fun g21 => ?_) (fun g21 => ?_)
   ·refine RL.q (Y.move rfl) rfl ?_
    refine RL.qg WG (Y.field rfl field53_2) rfl ?_
    refine RL.loadOwnSl WG rfl MM MM (by rfl) flat51 rfl fun a24 c24 hu24 hc24 hl24 => ?_
    refine RL.qg WG (Y.len rfl Try.underlying51) rfl ?_
    refine RL.qgs WG (Y.eql rfl rfl) rfl (fun g26 => ?_) (fun g26 => ?_)
    ·refine RL.q (Y.pickT rfl rfl) rfl ?_
     refine RL.q (Y.move rfl) rfl ?_
     refine RL.qg WG (Y.field rfl field53_1) rfl ?_
     refine RL.qg WG (Y.loadOwnV rfl MM MM (by rfl) flat3) rfl ?_
     refine RL.qgs WG (Y.geq rfl rfl) rfl (fun g31 => ?_) (fun g31 => ?_)
     ·refine RL.q (Y.pickT rfl rfl) rfl ?_
      refine RL.q (Y.move rfl) rfl ?_
      refine RL.qg WG (Y.field rfl field53_1) rfl ?_
      refine RL.qg WG (Y.loadOwnV rfl MM MM (by rfl) flat3) rfl ?_
      refine RL.qg WG (Y.leq rfl rfl) rfl ?_
      refine RL.q (Y.pickT rfl rfl) rfl ?_
      refine RL.q (Y.assign rfl) rfl ?_
      refine RL.nil ?_
      refine hK8 _ _ _ ?_
      refine CW.kp [6] rfl ?_
      refine CW.ret ?_
      exact ⟨_, rfl, Turn.drop ⟨(vb (Iff.trans ⟨fun h => ⟨g21, by omega, by omega, h⟩, fun h => h.2.2.2⟩ (fits0 hvt h2).symm)), rfl, rfl⟩ SB⟩
     refine RL.q (Y.pickT rfl rfl) rfl ?_
     refine RL.q (Y.move rfl) rfl ?_
     refine RL.no WG rfl ?_
     refine RL.no WG rfl ?_
     refine RL.no WG rfl ?_
     refine RL.q (Y.pickF rfl rfl) rfl ?_
     refine RL.q (Y.assign rfl) rfl ?_
     refine RL.nil ?_
     refine hK8 _ _ _ ?_
     refine CW.kp [6] rfl ?_
     refine CW.ret ?_
     exact ⟨_, rfl, Turn.drop ⟨(vbF (fun h => by have := ((fits0 hvt h2).1 h).2; omega)), rfl, rfl⟩ SB⟩
    refine RL.q (Y.pickT rfl rfl) rfl ?_
    refine RL.q (Y.move rfl) rfl ?_
    refine RL.no WG rfl ?_
    refine RL.no WG rfl ?_
    refine RL.no WG rfl ?_
    refine RL.q (Y.pickF rfl rfl) rfl ?_
    refine RL.q (Y.move rfl) rfl ?_
    refine RL.no WG rfl ?_
    refine RL.no WG rfl ?_
    refine RL.no WG rfl ?_
    refine RL.q (Y.pickF rfl rfl) rfl ?_
    refine RL.q (Y.assign rfl) rfl ?_
    refine RL.nil ?_
    refine hK8 _ _ _ ?_
    refine CW.kp [6] rfl ?_
    refine CW.ret ?_
    exact ⟨_, rfl, Turn.drop ⟨(vbF (fun h => by have := ((fits0 hvt h2).1 h).2; omega)), rfl, rfl⟩ SB⟩
   refine RL.q (Y.move rfl) rfl ?_
   refine RL.no WG rfl ?_
   refine RL.no WG rfl ?_
   refine RL.no WG rfl ?_
   refine RL.no WG rfl ?_
   refine RL.q (Y.pickF rfl rfl) rfl ?_
   refine RL.q (Y.move rfl) rfl ?_
   refine RL.no WG rfl ?_
   refine RL.no WG rfl ?_
   refine RL.no WG rfl ?_
   refine RL.q (Y.pickF rfl rfl) rfl ?_
   refine RL.q (Y.move rfl) rfl ?_
   refine RL.no WG rfl ?_
   refine RL.no WG rfl ?_
   refine RL.no WG rfl ?_
   refine RL.q (Y.pickF rfl rfl) rfl ?_
   refine RL.q (Y.assign rfl) rfl ?_
   refine RL.nil ?_
   refine hK8 _ _ _ ?_
   refine CW.kp [6] rfl ?_
   refine CW.ret ?_
   exact ⟨_, rfl, Turn.drop ⟨(vbF (fun h => g21 ((fits0 hvt h2).1 h).1)), rfl, rfl⟩ SB⟩
  refine CW.seq fun K9 hK9 => ?_
  refine CW.region ?_
  refine RL.q (Y.eql rfl rfl) rfl ?_
  refine RL.q (Y.assign rfl) rfl ?_
  refine RL.nil ?_
  refine hK9 _ _ _ ?_
  refine CW.kp [3, 4, 5, 16, 38] rfl ?_
  refine CW.ite rfl (fun h3 => ?_) (fun h3 => ?_)
  ·refine CW.seq fun K10 hK10 => ?_
   refine CW.region ?_
   refine RL.q (Y.field rfl field53_0) rfl ?_
   refine RL.q (Y.loadOwnV rfl MM MM (by rfl) flat3) rfl ?_
   refine RL.qs (Y.eql rfl rfl) rfl (fun g42 => ?_) (fun g42 => ?_)
   ·refine RL.q (Y.move rfl) rfl ?_
    refine RL.qg WG (Y.field rfl field53_2) rfl ?_
    refine RL.loadOwnSl WG rfl MM MM (by rfl) flat51 rfl fun a45 c45 hu45 hc45 hl45 => ?_
    refine RL.qg WG (Y.len rfl Try.underlying51) rfl ?_
    refine RL.qgs WG (Y.eql rfl rfl) rfl (fun g47 => ?_) (fun g47 => ?_)
    ·refine RL.q (Y.pickT rfl rfl) rfl ?_
     refine RL.q (Y.move rfl) rfl ?_
     refine RL.qg WG (Y.field rfl field53_1) rfl ?_
     refine RL.qg WG (Y.loadOwnV rfl MM MM (by rfl) flat3) rfl ?_
     refine RL.qgs WG (Y.eql rfl rfl) rfl (fun g52 => ?_) (fun g52 => ?_)
     ·refine RL.qg WG (Y.move rfl) rfl ?_
      refine RL.no WG rfl ?_
      refine RL.no WG rfl ?_
      refine RL.no WG rfl ?_
      refine RL.qg WG (Y.pickT rfl rfl) rfl ?_
      refine RL.q (Y.pickT rfl rfl) rfl ?_
      refine RL.q (Y.assign rfl) rfl ?_
      refine RL.nil ?_
      refine hK10 _ _ _ ?_
      refine CW.kp [6] rfl ?_
      refine CW.ret ?_
      exact ⟨_, rfl, Turn.drop ⟨(vbT ((fits1 hvt h3).2 ⟨g42, by omega, by omega⟩)), rfl, rfl⟩ SB⟩
     refine RL.qg WG (Y.move rfl) rfl ?_
     refine RL.qg WG (Y.field rfl field53_1) rfl ?_
     refine RL.qg WG (Y.loadOwnV rfl MM MM (by rfl) flat3) rfl ?_
     refine RL.qg WG (Y.eql rfl rfl) rfl ?_
     refine RL.qg WG (Y.pickF rfl rfl) rfl ?_
     refine RL.q (Y.pickT rfl rfl) rfl ?_
     refine RL.q (Y.assign rfl) rfl ?_
     refine RL.nil ?_
     refine hK10 _ _ _ ?_
     refine CW.kp [6] rfl ?_
     refine CW.ret ?_
     exact ⟨_, rfl, Turn.drop ⟨(vb (Iff.trans ⟨fun h => ⟨g42, by omega, by omega⟩, fun h => by have := h.2.2; omega⟩ (fits1 hvt h3).symm)), rfl, rfl⟩ SB⟩
    refine RL.q (Y.pickT rfl rfl) rfl ?_
    refine RL.q (Y.move rfl) rfl ?_
    refine RL.no WG rfl ?_
    refine RL.no WG rfl ?_
    refine RL.no WG rfl ?_
    refine RL.no WG rfl ?_
    refine RL_noU rfl rfl rfl ?_
    refine RL_noU rfl rfl rfl ?_
    refine RL_noU rfl rfl rfl ?_
    refine RL.no WG rfl ?_
    refine RL.q (Y.pickF rfl rfl) rfl ?_
    refine RL.q (Y.assign rfl) rfl ?_
    refine RL.nil ?_
    refine hK10 _ _ _ ?_
    refine CW.kp [6] rfl ?_
    refine CW.ret ?_
    exact ⟨_, rfl, Turn.drop ⟨(vbF (fun h => by have := ((fits1 hvt h3).1 h).2; omega)), rfl, rfl⟩ SB⟩
   refine RL.q (Y.move rfl) rfl ?_
   refine RL.no WG rfl ?_
   refine RL.no WG rfl ?_
   refine RL.no WG rfl ?_
   refine RL.no WG rfl ?_
   refine RL.q (Y.pickF rfl rfl) rfl ?_
   refine RL.q (Y.move rfl) rfl ?_
   refine RL.no WG rfl ?_
   refine RL.no WG rfl ?_
   refine RL.no WG rfl ?_
   refine RL.no WG rfl ?_
   refine RL_noU rfl rfl rfl ?_
   refine RL_noU rfl rfl rfl ?_
   refine RL_noU rfl rfl rfl ?_
   refine RL.no WG rfl ?_
   refine RL.q (Y.pickF rfl rfl) rfl ?_
   refine RL.q (Y.assign rfl) rfl ?_
   refine RL.nil ?_
   refine hK10 _ _ _ ?_
   refine CW.kp [6] rfl ?_
   refine CW.ret ?_
   exact ⟨_, rfl, Turn.drop ⟨(vbF (fun h => g42 ((fits1 hvt h3).1 h).1)), rfl, rfl⟩ SB⟩
  refine CW.seq fun K11 hK11 => ?_
  refine CW.region ?_
  refine RL.q (Y.eql rfl rfl) rfl ?_
  refine RL.q (Y.assign rfl) rfl ?_
  refine RL.nil ?_
  refine hK11 _ _ _ ?_
  refine CW.kp [3, 4, 5, 59] rfl ?_
  refine CW.ite rfl (fun h4 => ?_) (fun h4 => ?_)
  ·refine CW.seq fun K12 hK12 => ?_
   refine CW.region ?_
   refine RL.q (Y.field rfl field53_0) rfl ?_
   refine RL.q (Y.loadOwnV rfl MM MM (by rfl) flat3) rfl ?_
   refine RL.qs (Y.eql rfl rfl) rfl (fun g63 => ?_) (fun g63 => ?_)
   ·refine RL.q (Y.move rfl) rfl ?_
    refine RL.qg WG (Y.field rfl field53_1) rfl ?_
    refine RL.qg WG (Y.loadOwnV rfl MM MM (by rfl) flat3) rfl ?_
    refine RL.qgs WG (Y.eql rfl rfl) rfl (fun g67 => ?_) (fun g67 => ?_)
    ·refine RL.q (Y.pickT rfl rfl) rfl ?_
     refine RL.q (Y.move rfl) rfl ?_
     refine RL.qg WG (Y.field rfl field53_2) rfl ?_
     refine RL.loadOwnSl WG rfl MM MM (by rfl) flat51 rfl fun a71 c71 hu71 hc71 hl71 => ?_
     refine RL.qg WG (Y.makeFunc rfl rfl) rfl ?_
     refine RL.kn (Kn.rd (d := .sl v.kids.length 3 (v.kids.flatMap Val.enc)) MM) fun hkids => ?_
     refine RL.call WG func66 rfl rfl (CallOk.pick (x := .own b4 31 ust) PK (CallOk.pick (x := .own b3 26 usp) PK (contS_ok _ _ _ v.kids _ 68 _ (fun x s => (!(fitsB p x (t.kids.headD ty0)), s)) (fun _ => [.own b3 26 usp, .own b4 31 ust]) (fun _ => True) () func68 (Kn.of hkids) trivial (fun _ _ _ _ _ => trivial) (fun x hx us s Γ2 _ hr => fits1_ok N (fun w0 M Γ p usp t ust v usv hx => ih _ hx w0 M Γ p usp t ust v usv rfl) _ _ _ p usp t ust x us b3 b4 (hN ▸ Val.size_kid hx) (validT_one hvt h4) (by rw [ProgT.enc_eq]; exact hp) (by rw [Ty.enc_eq]; exact ht) hr)))) ?_
     rintro v73 M _ ⟨rfl, rfl, rfl⟩
     rw [contS_unit]
     refine RL.qg WG (Y.not rfl) rfl ?_
     refine RL.q (Y.pickT rfl rfl) rfl ?_
     refine RL.q (Y.assign rfl) rfl ?_
     refine RL.nil ?_
     refine hK12 _ _ _ ?_
     refine CW.kp [6] rfl ?_
     refine CW.ret ?_
     exact ⟨_, rfl, Turn.drop ⟨((vbB (Iff.trans (fits2a hvt h4) ⟨fun h => by rw [h.2.2]; rfl, fun h => ⟨g63, g67, by rw [Bool.not_eq_true'] at h; exact h⟩⟩)).symm), rfl, rfl⟩ SB⟩
    refine RL.q (Y.pickT rfl rfl) rfl ?_
    refine RL.q (Y.move rfl) rfl ?_
    refine RL.no WG rfl ?_
    refine RL.no WG rfl ?_
    refine RL.no WG rfl ?_
    refine RL.no WG rfl ?_
    refine RL.no WG rfl ?_
    refine RL.q (Y.pickF rfl rfl) rfl ?_
    refine RL.q (Y.assign rfl) rfl ?_
    refine RL.nil ?_
    refine hK12 _ _ _ ?_
    refine CW.kp [6] rfl ?_
    refine CW.ret ?_
    exact ⟨_, rfl, Turn.drop ⟨(vbF (fun h => g67 ((fits2 hvt h4).1 h).2.1)), rfl, rfl⟩ SB⟩
   refine RL.q (Y.move rfl) rfl ?_
   refine RL.no WG rfl ?_
   refine RL.no WG rfl ?_
   refine RL.no WG rfl ?_
   refine RL.q (Y.pickF rfl rfl) rfl ?_
   refine RL.q (Y.move rfl) rfl ?_
   refine RL.no WG rfl ?_
   refine RL.no WG rfl ?_
   refine RL.no WG rfl ?_
   refine RL.no WG rfl ?_
   refine RL.no WG rfl ?_
   refine RL.q (Y.pickF rfl rfl) rfl ?_
   refine RL.q (Y.assign rfl) rfl ?_
   refine RL.nil ?_
   refine hK12 _ _ _ ?_
   refine CW.kp [6] rfl ?_
   refine CW.ret ?_
   exact ⟨_, rfl, Turn.drop ⟨(vbF (fun h => g63 ((fits2 hvt h4).1 h).1)), rfl, rfl⟩ SB⟩
  refine CW.skip ?_
  refine hK5 _ _ _ ?_
  refine CW.seq fun K13 hK13 => ?_
  refine CW.region ?_
  refine RL.q (Y.loadAllR rfl MM MM EL agg26) rfl ?_
  refine RL.q (Y.field rfl field31_1) rfl ?_
  refine RL.q (Y.loadAggV [_, _, _] rfl MM MM (by rfl) agg28) rfl ?_
  refine RL.call rfl func19 rfl rfl (by exact def_ok _ _ _ _ _ _ KK) ?_
  rintro v80 M _ ⟨rfl, rfl, us80, rfl, hr80⟩
  refine RL.addRds hr80 ?_
  refine RL.q (Y.move rfl) rfl ?_
  refine RL.q (Y.extract rfl rfl) rfl ?_
  refine RL.q (Y.extract rfl rfl) rfl ?_
  refine RL.alloc _ zero46 rfl rfl fun b7 => ?_
  refine RL.storeRds 31 rfl rfl RP MM EL (by first | exact Kn.lenRds MM EL | exact Kn.lenLit rfl) size46 ?_
  refine RL.q (Y.assign rfl) rfl ?_
  refine RL.nil ?_
  refine hK13 _ _ _ ?_
  refine CW.kp [3, 5, 7] rfl ?_
  refine CW.seq fun K14 hK14 => ?_
  refine CW.seq fun K15 hK15 => ?_
  refine CW.region ?_
  refine RL.q (Y.field rfl field46_1) rfl ?_
  refine RL.q (Y.loadOwnV rfl MM MM (by rfl) flat3) rfl ?_
  refine RL.q (Y.eql rfl rfl) rfl ?_
  refine RL.nil ?_
  refine hK15 _ _ _ ?_
  refine CW.kp [3, 5, 7, 85] rfl ?_
  refine CW.ite rfl (fun h5 => ?_) (fun h5 => ?_)
  ·refine CW.seq fun K16 hK16 => ?_
   refine CW.regionQ mix KR ?_
   refine QL.q (Y.field rfl field53_0) rfl ?_
   refine QL.q (Y.loadOwnV rfl MM MM (by rfl) flat3) rfl ?_
   refine QL.qs (Y.eql rfl rfl) rfl (fun g88 => ?_) (fun g88 => ?_)
   ·refine QL.q (Y.move rfl) rfl ?_
    refine QL.qg WG (Y.field rfl field53_1) rfl ?_
    refine QL.qg WG (Y.loadOwnV rfl MM MM (by rfl) flat3) rfl ?_
    refine QL.qgs WG (Y.geq rfl rfl) rfl (fun g92 => ?_) (fun g92 => ?_)
    ·refine QL.q (Y.pickT rfl rfl) rfl ?_
     refine QL.q (Y.move rfl) rfl ?_
     refine QL.qg WG (Y.field rfl field53_1) rfl ?_
     refine QL.qg WG (Y.loadOwnV rfl MM MM (by rfl) flat3) rfl ?_
     refine QL.qg WG (Y.field rfl field46_4) rfl ?_
     refine QL.loadOwnSl WG rfl MM MM (by rfl) flat40 rfl fun a98 c98 hu98 hc98 hl98 => ?_
     refine QL.qg WG (Y.len rfl Try.underlying40) rfl ?_
     refine QL.qgs WG (Y.lss rfl rfl) rfl (fun g100 => ?_) (fun g100 => ?_)
     ·refine QL.q (Y.pickT rfl rfl) rfl ?_
      refine QL.q (Y.move rfl) rfl ?_
      refine QL.qg WG (Y.field rfl field53_2) rfl ?_
      refine QL.loadOwnSl WG rfl MM MM (by rfl) flat51 rfl fun a104 c104 hu104 hc104 hl104 => ?_
      refine QL.qg WG (Y.len rfl Try.underlying51) rfl ?_
      refine QL.qgs WG (Y.eql rfl rfl) rfl (fun g106 => ?_) (fun g106 => ?_)
      ·refine QL.q (Y.pickT rfl rfl) rfl ?_
       refine QL.q (Y.move rfl) rfl ?_
       refine QL.qg WG (Y.loadAllR rfl MM MM EL agg26) rfl ?_
       refine QL.qg WG (Y.field rfl field46_4) rfl ?_
       refine QL.loadOwnSl WG rfl MM MM (by rfl) flat40 rfl fun a111 c111 hu111 hc111 hl111 => ?_
       refine QL.qg WG (Y.field rfl field53_1) rfl ?_
       refine QL.qg WG (Y.loadOwnV rfl MM MM (by rfl) flat3) rfl ?_
       refine QL.qg WG (Y.index v.n.toNat rfl rfl OM OM slice40 (fun _ hw => hw.rd_some MM OM)) rfl ?_
       refine QL.qg WG (Y.field rfl field66_2) rfl ?_
       refine QL.loadAgg WG rfl MM (Eq.trans (flat_sub SlotT.enc_len _ _ _ (List.getElem?_eq_getElem AO) _ _ (Nat.le_of_ble_eq_true rfl)) (by rw [SlotT.enc_eq] <;> rfl)) (by rfl) agg31 rfl fun us116 hul116 hur116 => ?_
       refine QL.qg WG (Y.field rfl field53_2) rfl ?_
       refine QL.loadOwnSl WG rfl MM MM (by rfl) flat51 rfl fun a118 c118 hu118 hc118 hl118 => ?_
       refine QL.qg WG (Y.index 0 rfl rfl rfl AO slice51 SM) rfl ?_
       refine QL.loadAgg WG rfl MM (Eq.trans (flat_take Val.enc_len _ _ _ (List.getElem?_eq_getElem AO)) (Val.enc_eq _)) (by rfl) agg53 rfl fun us120 hul120 hur120 => ?_
       refine QL.callv WG func51 rfl rfl (by exact fun _ hC => ih _ (by rw [← hN]; exact Val.size_kid (List.getElem_mem OM)) _ _ _ p _ ((theDef p t.df).slots[v.n.toNat]).ty _ v.kids[0] _ rfl (Kn.via hC KK) (Kn.via hC KK) (Kn.via hC KK)) ?_
       refine QL.q (Y.pickT rfl rfl) rfl ?_
       refine QL.q (Y.assign rfl) rfl ?_
       refine QL.nil ?_
       refine hK16 _ _ _ ?_
       refine CW.kp [6] rfl ?_
       refine CW.ret ?_
       exact ⟨_, rfl, Turn.drop ⟨(vb (fits3k hvt h2 h3 h4 h5 g88 g92 OM OM).symm), rfl, rfl⟩ SB⟩
      refine QL.q (Y.pickT rfl rfl) rfl ?_
      refine QL.q (Y.move rfl) rfl ?_
      refine QL.no WG rfl ?_
      refine QL.no WG rfl ?_
      refine QL.no WG rfl ?_
      refine QL.no WG rfl ?_
      refine QL.no WG rfl ?_
      refine QL.no WG rfl ?_
      refine QL.no WG rfl ?_
      refine QL.no WG rfl ?_
      refine QL.no WG rfl ?_
      refine QL.no WG rfl ?_
      refine QL.no WG rfl ?_
      refine QL.no WG rfl ?_
      refine QL.no WG rfl ?_
      refine QL.q (Y.pickF rfl rfl) rfl ?_
      refine QL.q (Y.assign rfl) rfl ?_
      refine QL.nil ?_
      refine hK16 _ _ _ ?_
      refine CW.kp [6] rfl ?_
      refine CW.ret ?_
      exact ⟨_, rfl, Turn.drop ⟨(vbF (fun h => by have := ((fits3c hvt h2 h3 h4 h5).1 h); omega)), rfl, rfl⟩ SB⟩
     refine QL.q (Y.pickT rfl rfl) rfl ?_
     refine QL.q (Y.move rfl) rfl ?_
     refine QL.no WG rfl ?_
     refine QL.no WG rfl ?_
     refine QL.no WG rfl ?_
     refine QL.no WG rfl ?_
     refine QL.q (Y.pickF rfl rfl) rfl ?_
     refine QL.q (Y.move rfl) rfl ?_
     refine QL.no WG rfl ?_
     refine QL.no WG rfl ?_
     refine QL.no WG rfl ?_
     refine QL.no WG rfl ?_
     refine QL.no WG rfl ?_
     refine QL.no WG rfl ?_
     refine QL.no WG rfl ?_
     refine QL.no WG rfl ?_
     refine QL.no WG rfl ?_
     refine QL.no WG rfl ?_
     refine QL.no WG rfl ?_
     refine QL.no WG rfl ?_
     refine QL.no WG rfl ?_
     refine QL.q (Y.pickF rfl rfl) rfl ?_
     refine QL.q (Y.assign rfl) rfl ?_
     refine QL.nil ?_
     refine hK16 _ _ _ ?_
     refine CW.kp [6] rfl ?_
     refine CW.ret ?_
     exact ⟨_, rfl, Turn.drop ⟨(vbF (fun h => by have := ((fits3c hvt h2 h3 h4 h5).1 h); omega)), rfl, rfl⟩ SB⟩
    refine QL.q (Y.pickT rfl rfl) rfl ?_
    refine QL.q (Y.move rfl) rfl ?_
    refine QL.no WG rfl ?_
    refine QL.no WG rfl ?_
    refine QL.no WG rfl ?_
    refine QL.no WG rfl ?_
    refine QL.no WG rfl ?_
    refine QL.no WG rfl ?_
    refine QL.q (Y.pickF rfl rfl) rfl ?_
    refine QL.q (Y.move rfl) rfl ?_
    refine QL.no WG rfl ?_
    refine QL.no WG rfl ?_
    refine QL.no WG rfl ?_
    refine QL.no WG rfl ?_
    refine QL.q (Y.pickF rfl rfl) rfl ?_
    refine QL.q (Y.move rfl) rfl ?_
    refine QL.no WG rfl ?_
    refine QL.no WG rfl ?_
    refine QL.no WG rfl ?_
    refine QL.no WG rfl ?_
    refine QL.no WG rfl ?_
    refine QL.no WG rfl ?_
    refine QL.no WG rfl ?_
    refine QL.no WG rfl ?_
    refine QL.no WG rfl ?_
    refine QL.no WG rfl ?_
    refine QL.no WG rfl ?_
    refine QL.no WG rfl ?_
    refine QL.no WG rfl ?_
    refine QL.q (Y.pickF rfl rfl) rfl ?_
    refine QL.q (Y.assign rfl) rfl ?_
    refine QL.nil ?_
    refine hK16 _ _ _ ?_
    refine CW.kp [6] rfl ?_
    refine CW.ret ?_
    exact ⟨_, rfl, Turn.drop ⟨(vbF (fun h => by have := ((fits3c hvt h2 h3 h4 h5).1 h); omega)), rfl, rfl⟩ SB⟩
   refine QL.q (Y.move rfl) rfl ?_
   refine QL.no WG rfl ?_
   refine QL.no WG rfl ?_
   refine QL.no WG rfl ?_
   refine QL.q (Y.pickF rfl rfl) rfl ?_
   refine QL.q (Y.move rfl) rfl ?_
   refine QL.no WG rfl ?_
   refine QL.no WG rfl ?_
   refine QL.no WG rfl ?_
   refine QL.no WG rfl ?_
   refine QL.no WG rfl ?_
   refine QL.no WG rfl ?_
   refine QL.q (Y.pickF rfl rfl) rfl ?_
   refine QL.q (Y.move rfl) rfl ?_
   refine QL.no WG rfl ?_
   refine QL.no WG rfl ?_
   refine QL.no WG rfl ?_
   refine QL.no WG rfl ?_
   refine QL.q (Y.pickF rfl rfl) rfl ?_
   refine QL.q (Y.move rfl) rfl ?_
   refine QL.no WG rfl ?_
   refine QL.no WG rfl ?_
   refine QL.no WG rfl ?_
   refine QL.no WG rfl ?_
   refine QL.no WG rfl ?_
   refine QL.no WG rfl ?_
   refine QL.no WG rfl ?_
   refine QL.no WG rfl ?_
   refine QL.no WG rfl ?_
   refine QL.no WG rfl ?_
   refine QL.no WG rfl ?_
   refine QL.no WG rfl ?_
   refine QL.no WG rfl ?_
   refine QL.q (Y.pickF rfl rfl) rfl ?_
   refine QL.q (Y.assign rfl) rfl ?_
   refine QL.nil ?_
   refine hK16 _ _ _ ?_
   refine CW.kp [6] rfl ?_
   refine CW.ret ?_
   exact ⟨_, rfl, Turn.drop ⟨(vbF (fun h => by have := ((fits3c hvt h2 h3 h4 h5).1 h); omega)), rfl, rfl⟩ SB⟩
  refine CW.skip ?_
  refine hK14 _ _ _ ?_
  refine CW.seq fun K17 hK17 => ?_
  refine CW.seq fun K18 hK18 => ?_
  refine CW.region ?_
  refine RL.q (Y.field rfl field53_0) rfl ?_
  refine RL.q (Y.loadOwnV rfl MM MM (by rfl) flat3) rfl ?_
  refine RL.qs (Y.neq rfl rfl) rfl (fun g125 => ?_) (fun g125 => ?_)
  ·refine RL.q (Y.move rfl) rfl ?_
   refine RL.no WG rfl ?_
   refine RL.no WG rfl ?_
   refine RL.no WG rfl ?_
   refine RL.q (Y.pickT rfl rfl) rfl ?_
   refine RL.q (Y.move rfl) rfl ?_
   refine RL.no WG rfl ?_
   refine RL.no WG rfl ?_
   refine RL.no WG rfl ?_
   refine RL.no WG rfl ?_
   refine RL.no WG rfl ?_
   refine RL.no WG rfl ?_
   refine RL.no WG rfl ?_
   refine RL.q (Y.pickT rfl rfl) rfl ?_
   refine RL.nil ?_
   refine hK18 _ _ _ ?_
   refine CW.kp [3, 5, 7, 139] rfl ?_
   refine CW.yes rfl ?_
   refine CW.seq fun K19 hK19 => ?_
   refine CW.region ?_
   refine RL.q (Y.assign rfl) rfl ?_
   refine RL.nil ?_
   refine hK19 _ _ _ ?_
   refine CW.kp [6] rfl ?_
   refine CW.ret ?_
   first | exact ⟨_, rfl, Turn.drop ⟨(vbF (fun h => by have := ((fits3r hvt h2 h3 h4 h5).1 h); omega)), rfl, rfl⟩ SB⟩
  refine RL.q (Y.move rfl) rfl ?_
  refine RL.qg WG (Y.field rfl field53_1) rfl ?_
  refine RL.qg WG (Y.loadOwnV rfl MM MM (by rfl) flat3) rfl ?_
  refine RL.qgs WG (Y.neq rfl rfl) rfl (fun g129 => ?_) (fun g129 => ?_)
  ·refine RL.q (Y.pickF rfl rfl) rfl ?_
   refine RL.q (Y.move rfl) rfl ?_
   refine RL.no WG rfl ?_
   refine RL.no WG rfl ?_
   refine RL.no WG rfl ?_
   refine RL.no WG rfl ?_
   refine RL.no WG rfl ?_
   refine RL.no WG rfl ?_
   refine RL.no WG rfl ?_
   refine RL.q (Y.pickT rfl rfl) rfl ?_
   refine RL.nil ?_
   refine hK18 _ _ _ ?_
   refine CW.kp [3, 5, 7, 139] rfl ?_
   refine CW.yes rfl ?_
   refine CW.seq fun K20 hK20 => ?_
   refine CW.region ?_
   refine RL.q (Y.assign rfl) rfl ?_
   refine RL.nil ?_
   refine hK20 _ _ _ ?_
   refine CW.kp [6] rfl ?_
   refine CW.ret ?_
   first | exact ⟨_, rfl, Turn.drop ⟨(vbF (fun h => by have := ((fits3r hvt h2 h3 h4 h5).1 h); omega)), rfl, rfl⟩ SB⟩
  refine RL.q (Y.pickF rfl rfl) rfl ?_
  refine RL.q (Y.move rfl) rfl ?_
  refine RL.qg WG (Y.field rfl field53_2) rfl ?_
  refine RL.loadOwnSl WG rfl MM MM (by rfl) flat51 rfl fun a133 c133 hu133 hc133 hl133 => ?_
  refine RL.qg WG (Y.len rfl Try.underlying51) rfl ?_
  refine RL.qg WG (Y.field rfl field46_4) rfl ?_
  refine RL.loadOwnSl WG rfl MM MM (by rfl) flat40 rfl fun a136 c136 hu136 hc136 hl136 => ?_
  refine RL.qg WG (Y.len rfl Try.underlying40) rfl ?_
  refine RL.qg WG (Y.neq rfl rfl) rfl ?_
  refine RL.q (Y.pickF rfl rfl) rfl ?_
  refine RL.nil ?_
  refine hK18 _ _ _ ?_
  refine CW.kp [3, 5, 7, 139] rfl ?_
  refine CW.ite rfl (fun h6 => ?_) (fun h6 => ?_)
  ·refine CW.seq fun K21 hK21 => ?_
   refine CW.region ?_
   refine RL.q (Y.assign rfl) rfl ?_
   refine RL.nil ?_
   refine hK21 _ _ _ ?_
   refine CW.kp [6] rfl ?_
   refine CW.ret ?_
   first | exact ⟨_, rfl, Turn.drop ⟨(vbF (fun h => by have := ((fits3r hvt h2 h3 h4 h5).1 h); omega)), rfl, rfl⟩ SB⟩
  refine CW.skip ?_
  refine hK17 _ _ _ ?_
  refine CW.seq fun K22 hK22 => ?_
  refine CW.seq fun K23 hK23 => ?_
  refine CW.region ?_
  refine RL.q (Y.field rfl field53_2) rfl ?_
  refine RL.loadOwnSl rfl rfl MM MM (by rfl) flat51 rfl fun a141 c141 hu141 hc141 hl141 => ?_
  refine RL.q (Y.len rfl Try.underlying51) rfl ?_
  refine RL.q (Y.move rfl) rfl ?_
  refine RL.nil ?_
  refine hK23 _ _ _ ?_
  refine CW.kp [3, 7, 141, 142, 143] rfl ?_
  refine CW.block ?_
  -- LOOP 1: live [3, 7, 141, 142, 143] changed [143]
  refine CW.kp [143, 3, 7, 141, 142] rfl ?_
  refine CW.loopF (fun m Lc M1 Γc => ∃ k : Nat, m = v.kids.length - k ∧ k ≤ v.kids.length ∧ Lc = [(143, vint k)] ∧ Γc = [] ∧ M1 = M ∧ ∀ j (hj : j < v.kids.length) (hj2 : j < (theDef p t.df).slots.length), j < k → fitsB p v.kids[j] ((theDef p t.df).slots[j]).ty = true) (v.kids.length) [(143, _)] _ rfl rfl ⟨0, rfl, Nat.zero_le _, rfl, rfl, rfl, fun _ _ _ h => absurd h (Nat.not_lt_zero _)⟩ ?_
  rintro m Lc M Γc hs ⟨k, rfl, hk, rfl, rfl, rfl, hF0⟩
  refine CW.seq fun K24 hK24 => ?_
  refine CW.region ?_
  refine RL.q (Y.lss rfl rfl) rfl ?_
  refine RL.nil ?_
  refine hK24 _ _ _ ?_
  refine CW.kp [3, 7, 141, 142, 143, 144] rfl ?_
  refine CW.seq fun K25 hK25 => ?_
  refine CW.ite rfl (fun h7 => ?_) (fun h7 => ?_)
  ·have hka : k < v.kids.length := by omega
   have hkb : k < (theDef p t.df).slots.length := by omega
   refine CW.skip ?_
   refine hK25 _ _ _ ?_
   refine CW.seq fun K26 hK26 => ?_
   refine CW.block ?_
   refine CW.seq fun K27 hK27 => ?_
   refine CW.region ?_
   refine RL.q (Y.move rfl) rfl ?_
   refine RL.q (Y.index _ rfl rfl rfl AO slice51 SM) rfl ?_
   refine RL.loadAgg rfl rfl MM (Eq.trans (flat_take Val.enc_len _ _ _ (List.getElem?_eq_getElem AO)) (Val.enc_eq _)) (by rfl) agg53 rfl fun us147 hul147 hur147 => ?_
   refine RL.alloc _ zero53 rfl rfl fun b10 => ?_
   refine RL.q (Y.assign rfl) rfl ?_
   refine RL.storeRds 3 rfl rfl RP MM EL (by first | exact Kn.lenRds MM EL | exact Kn.lenLit rfl) size53 ?_
   refine RL.nil ?_
   refine hK27 _ _ _ ?_
   refine CW.kp [3, 7, 9, 10, 141, 142, 143] rfl ?_
   refine CW.seq fun K28 hK28 => ?_
   refine CW.regionQ mix KR ?_
   refine QL.q (Y.loadAllR rfl MM MM EL agg26) rfl ?_
   refine QL.q (Y.field rfl field46_4) rfl ?_
   refine QL.loadOwnSl rfl rfl MM MM (by rfl) flat40 rfl fun a150 c150 hu150 hc150 hl150 => ?_
   refine QL.q (Y.move rfl) rfl ?_
   refine QL.q (Y.index _ rfl rfl rfl AO slice40 SM) rfl ?_
   refine QL.q (Y.field rfl field66_2) rfl ?_
   refine QL.loadAgg rfl rfl MM (Eq.trans (flat_sub SlotT.enc_len _ _ _ (List.getElem?_eq_getElem AO) _ _ (Nat.le_of_ble_eq_true rfl)) (by rw [SlotT.enc_eq] <;> rfl)) (by rfl) agg31 rfl fun us154 hul154 hur154 => ?_
   refine QL.q (Y.loadAllR rfl MM MM EL agg53) rfl ?_
   refine QL.callv rfl func51 rfl rfl (by exact fun _ hC => ih _ (by rw [← hN]; exact Val.size_kid (List.getElem_mem OM)) _ _ _ p _ ((theDef p t.df).slots[k]).ty _ v.kids[k] _ rfl (Kn.via hC KK) (Kn.via hC KK) (Kn.via hC KK)) ?_
   refine QL.q (Y.notD rfl) rfl ?_
   refine QL.nil ?_
   refine hK28 _ _ _ ?_
   refine CW.kp [3, 7, 141, 142, 143, 157] rfl ?_
   refine CW.ite rfl (fun h8 => ?_) (fun h8 => ?_)
   ·refine CW.seq fun K29 hK29 => ?_
    refine CW.region ?_
    refine RL.q (Y.assign rfl) rfl ?_
    refine RL.nil ?_
    refine hK29 _ _ _ ?_
    refine CW.kp [6] rfl ?_
    refine CW.ret ?_
    first | exact ⟨_, rfl, Turn.drop ⟨(vbF (fun h => h8 (((fits3r hvt h2 h3 h4 h5).1 h).2.2.2 _ hka hkb))), rfl, rfl⟩ SB⟩
   refine CW.skip ?_
   refine hK26 _ _ _ ?_
   refine CW.region ?_
   refine RL.q (Y.add rfl rfl OM) rfl ?_
   refine RL.q (Y.move rfl) rfl ?_
   refine RL.nil ?_
   refine ⟨v.kids.length - (k + 1), [(143, _)], ?_, (KP [143, 3, 7, 141, 142]), ?_⟩
   · omega
   · exact Turn.drop ⟨[], rfl, hs, k + 1, rfl, by omega, rfl, rfl, rfl, fun j hj hj2 hlt => by by_cases e : j = k; subst e; exact Decidable.not_not.1 h8; exact hF0 j hj hj2 OM⟩ SB
  refine CW.exit ?_
  refine hK22 _ _ _ ?_
  refine CW.seq fun K30 hK30 => ?_
  refine CW.region ?_
  refine RL.q (Y.assign rfl) rfl ?_
  refine RL.nil ?_
  refine hK30 _ _ _ ?_
  refine CW.kp [6] rfl ?_
  refine CW.ret ?_
  first | exact ⟨_, rfl, Turn.drop ⟨(vbT ((fits3r hvt h2 h3 h4 h5).2 ⟨by omega, by omega, by omega, fun j hj hj2 => hF0 j hj hj2 OM⟩)), rfl, rfl⟩ SB⟩

theorem valid_ok (w0 : World) (M : Mem) (Γ : List As) (p : ProgT) (usp : List Value) (t : Ty) (ust : List Value) (v : Val) (usv : List Value)  (hp : Kn w0 M Γ (RdL M p.enc usp)) (ht : Kn w0 M Γ (RdL M t.enc ust)) (hv : Kn w0 M Γ (RdL M v.enc usv))  :
    CallOk Try.prog w0 M Γ 24 #[.agg usp.toArray, .agg ust.toArray, .agg usv.toArray] (Is M Γ (.bool (decide (validV p t v)))) := by
  refine CallOk.kn hp fun hp => ?_
  rw [ProgT.enc_eq] at hp
  refine CallOk.kn ht fun ht => ?_
  rw [Ty.enc_eq] at ht
  refine CallOk.kn hv fun hv => ?_
  rw [Val.enc_eq] at hv
  refine enter (f := 24) Try.func24 rfl Try.ntmps24 rfl rfl fun w1 hw1 => ?_
  refine CW.addRds hp ?_
  refine CW.addRds ht ?_
  refine CW.addRds hv ?_
  refine CW.seq fun K1 hK1 => ?_
  refine CW.region ?_
  refine RL.box _ rfl rfl rfl fun b3 => ?_
  refine RL.box _ rfl rfl rfl fun b4 => ?_
  refine RL.box _ rfl rfl rfl fun b5 => ?_
  refine RL.q (Y.assign rfl) rfl ?_
  refine RL.nil ?_
  refine hK1 _ _ _ ?_
  refine CW.kp [3, 4, 5] rfl ?_
  refine CW.seq fun K2 hK2 => ?_
  refine CW.region ?_
  refine RL.q (Y.loadAllR rfl MM MM EL agg53) rfl ?_
  refine RL.callvs rfl func50 rfl rfl (by exact small_ok _ _ _ _ _ KK) (fun g8 => ?_) (fun g8 => ?_)
  ·refine RL.q (Y.move rfl) rfl ?_
   refine RL.qg WG (Y.loadAllR rfl MM MM EL agg26) rfl ?_
   refine RL.qg WG (Y.loadAllR rfl MM MM EL agg31) rfl ?_
   refine RL.qg WG (Y.loadAllR rfl MM MM EL agg53) rfl ?_
   refine RL.callv WG func51 rfl rfl (by exact fits_ok _ _ _ _ p _ t _ v _ rfl KK KK KK) ?_
   refine RL.q (Y.pickT rfl rfl) rfl ?_
   refine RL.q (Y.assign rfl) rfl ?_
   refine RL.nil ?_
   refine hK2 _ _ _ ?_
   refine CW.kp [6] rfl ?_
   refine CW.ret ?_
   exact ⟨_, rfl, Turn.drop ⟨(vb ⟨fun h => ⟨g8, h⟩, fun h => h.2⟩), rfl, rfl⟩ SB⟩
  refine RL.q (Y.move rfl) rfl ?_
  refine RL.no WG rfl ?_
  refine RL.no WG rfl ?_
  refine RL.no WG rfl ?_
  refine RL.no WG rfl ?_
  refine RL.q (Y.pickF rfl rfl) rfl ?_
  refine RL.q (Y.assign rfl) rfl ?_
  refine RL.nil ?_
  refine hK2 _ _ _ ?_
  refine CW.kp [6] rfl ?_
  refine CW.ret ?_
  exact ⟨_, rfl, Turn.drop ⟨(vbF (fun h => g8 h.1)), rfl, rfl⟩ SB⟩
end Go.Proofs.Ytfgkhhfkodlbpaa
