/- THE WALKS, 8: values of a type, by the reference. Printed by m04h.py. -/
import Derived.Test.YtfgkhhfkodlbpaaVg
namespace Go.Proofs.Ytfgkhhfkodlbpaa
open Xe

theorem rfits_ok (N : Nat) : ∀ (w0 : World) (M : Mem) (Γ : List As) (p : ProgT) (usp : List Value) (t : Ty) (ust : List Value) (v : Val) (usv : List Value) , v.size = N → Kn w0 M Γ (RdL M p.enc usp) → Kn w0 M Γ (RdL M t.enc ust) → Kn w0 M Γ (RdL M v.enc usv) → 
    CallOk Try.prog w0 M Γ 52 #[.agg usp.toArray, .agg ust.toArray, .agg usv.toArray] (Is M Γ (.bool (decide (fitsB p v t = true)))) := by
  induction N using Nat.strongRecOn
  rename_i N ih
  intro w0 M Γ p usp t ust v usv hN hp ht hv 
  refine CallOk.kn hp fun hp => ?_
  rw [ProgT.enc_eq] at hp
  refine CallOk.kn ht fun ht => ?_
  rw [Ty.enc_eq] at ht
  refine CallOk.kn hv fun hv => ?_
  rw [Val.enc_eq] at hv
  refine enter (f := 52) Try.func52 rfl Try.ntmps52 rfl rfl fun w1 hw1 => ?_
  refine CW.addRds hp ?_
  refine CW.addRds ht ?_
  refine CW.addRds hv ?_
  refine CW.seq fun K1 hK1 => ?_
  refine CW.region ?_
  refine RL.box _ rfl rfl rfl fun b3 => ?_
  refine RL.box _ rfl rfl rfl fun b4 => ?_
  refine RL.box _ rfl rfl rfl fun b5 => ?_
  refine RL.q (Y.assign rfl) rfl ?_
  refine RL.nil ?_
  refine hK1 _ _ _ ?_
  refine CW.kp [3, 4, 5] rfl ?_
  refine CW.seq fun K2 hK2 => ?_
  refine CW.seq fun K3 hK3 => ?_
  refine CW.region ?_
  refine RL.q (Y.loadAllR rfl MM MM EL agg26) rfl ?_
  refine RL.q (Y.loadAllR rfl MM MM EL agg31) rfl ?_
  refine RL.callv rfl func16 rfl rfl (by exact rvalidType_ok _ _ _ _ _ _ _ KK KK) ?_
  refine RL.q (Y.notD rfl) rfl ?_
  refine RL.nil ?_
  refine hK3 _ _ _ ?_
  refine CW.kp [3, 4, 5, 14] rfl ?_
  refine CW.ite rfl (fun h1 => ?_) (fun h1 => ?_)
  ·refine CW.seq fun K4 hK4 => ?_
   refine CW.region ?_
   refine RL.q (Y.assign rfl) rfl ?_
   refine RL.nil ?_
   refine hK4 _ _ _ ?_
   refine CW.kp [6] rfl ?_
   refine CW.ret ?_
   first | exact ⟨_, rfl, Turn.drop ⟨(vbF (fits_not h1)), rfl, rfl⟩ SB⟩
  have hvt : validT p t := Decidable.not_not.1 h1
  refine CW.skip ?_
  refine hK2 _ _ _ ?_
  refine CW.seq fun K5 hK5 => ?_
  refine CW.seq fun K6 hK6 => ?_
  refine CW.region ?_
  refine RL.q (Y.field rfl field31_0) rfl ?_
  refine RL.q (Y.loadOwnV rfl MM MM (by rfl) flat3) rfl ?_
  refine RL.q (Y.eql rfl rfl) rfl ?_
  refine RL.nil ?_
  refine hK6 _ _ _ ?_
  refine CW.kp [3, 4, 5, 17] rfl ?_
  refine CW.ite rfl (fun h2 => ?_) (fun h2 => ?_)
  ·refine CW.seq fun K7 hK7 => ?_
   refine CW.region ?_
   refine RL.q (Y.field rfl field53_0) rfl ?_
   refine RL.q (Y.loadOwnV rfl MM MM (by rfl) flat3) rfl ?_
   refine RL.qs (Y.eql rfl rfl) rfl (fun g20 => ?_) (fun g20 => ?_)
   ·refine RL.q (Y.move rfl) rfl ?_
    refine RL.qg WG (Y.field rfl field53_2) rfl ?_
    refine RL.loadOwnSl WG rfl MM MM (by rfl) flat51 rfl fun a23 c23 hu23 hc23 hl23 => ?_
    refine RL.qg WG (Y.len rfl Try.underlying51) rfl ?_
    refine RL.qgs WG (Y.eql rfl rfl) rfl (fun g25 => ?_) (fun g25 => ?_)
    ·refine RL.q (Y.pickT rfl rfl) rfl ?_
     refine RL.q (Y.move rfl) rfl ?_
     refine RL.qg WG (Y.field rfl field53_1) rfl ?_
     refine RL.qg WG (Y.loadOwnV rfl MM MM (by rfl) flat3) rfl ?_
     refine RL.qgs WG (Y.geq rfl rfl) rfl (fun g30 => ?_) (fun g30 => ?_)
     ·refine RL.q (Y.pickT rfl rfl) rfl ?_
      refine RL.q (Y.move rfl) rfl ?_
      refine RL.qg WG (Y.field rfl field53_1) rfl ?_
      refine RL.qg WG (Y.loadOwnV rfl MM MM (by rfl) flat3) rfl ?_
      refine RL.qg WG (Y.leq rfl rfl) rfl ?_
      refine RL.q (Y.pickT rfl rfl) rfl ?_
      refine RL.q (Y.assign rfl) rfl ?_
      refine RL.nil ?_
      refine hK7 _ _ _ ?_
      refine CW.kp [6] rfl ?_
      refine CW.ret ?_
      exact ⟨_, rfl, Turn.drop ⟨(vb (Iff.trans ⟨fun h => ⟨g20, by omega, by omega, h⟩, fun h => h.2.2.2⟩ (fits0 hvt h2).symm)), rfl, rfl⟩ SB⟩
     refine RL.q (Y.pickT rfl rfl) rfl ?_
     refine RL.q (Y.move rfl) rfl ?_
     refine RL.no WG rfl ?_
     refine RL.no WG rfl ?_
     refine RL.no WG rfl ?_
     refine RL.q (Y.pickF rfl rfl) rfl ?_
     refine RL.q (Y.assign rfl) rfl ?_
     refine RL.nil ?_
     refine hK7 _ _ _ ?_
     refine CW.kp [6] rfl ?_
     refine CW.ret ?_
     exact ⟨_, rfl, Turn.drop ⟨(vbF (fun h => by have := ((fits0 hvt h2).1 h).2; omega)), rfl, rfl⟩ SB⟩
    refine RL.q (Y.pickT rfl rfl) rfl ?_
    refine RL.q (Y.move rfl) rfl ?_
    refine RL.no WG rfl ?_
    refine RL.no WG rfl ?_
    refine RL.no WG rfl ?_
    refine RL.q (Y.pickF rfl rfl) rfl ?_
    refine RL.q (Y.move rfl) rfl ?_
    refine RL.no WG rfl ?_
    refine RL.no WG rfl ?_
    refine RL.no WG rfl ?_
    refine RL.q (Y.pickF rfl rfl) rfl ?_
    refine RL.q (Y.assign rfl) rfl ?_
    refine RL.nil ?_
    refine hK7 _ _ _ ?_
    refine CW.kp [6] rfl ?_
    refine CW.ret ?_
    exact ⟨_, rfl, Turn.drop ⟨(vbF (fun h => by have := ((fits0 hvt h2).1 h).2; omega)), rfl, rfl⟩ SB⟩
   refine RL.q (Y.move rfl) rfl ?_
   refine RL.no WG rfl ?_
   refine RL.no WG rfl ?_
   refine RL.no WG rfl ?_
   refine RL.no WG rfl ?_
   refine RL.q (Y.pickF rfl rfl) rfl ?_
   refine RL.q (Y.move rfl) rfl ?_
   refine RL.no WG rfl ?_
   refine RL.no WG rfl ?_
   refine RL.no WG rfl ?_
   refine RL.q (Y.pickF rfl rfl) rfl ?_
   refine RL.q (Y.move rfl) rfl ?_
   refine RL.no WG rfl ?_
   refine RL.no WG rfl ?_
   refine RL.no WG rfl ?_
   refine RL.q (Y.pickF rfl rfl) rfl ?_
   refine RL.q (Y.assign rfl) rfl ?_
   refine RL.nil ?_
   refine hK7 _ _ _ ?_
   refine CW.kp [6] rfl ?_
   refine CW.ret ?_
   exact ⟨_, rfl, Turn.drop ⟨(vbF (fun h => g20 ((fits0 hvt h2).1 h).1)), rfl, rfl⟩ SB⟩
  refine CW.skip ?_
  refine hK5 _ _ _ ?_
  refine CW.seq fun K8 hK8 => ?_
  refine CW.seq fun K9 hK9 => ?_
  refine CW.region ?_
  refine RL.q (Y.field rfl field31_0) rfl ?_
  refine RL.q (Y.loadOwnV rfl MM MM (by rfl) flat3) rfl ?_
  refine RL.q (Y.eql rfl rfl) rfl ?_
  refine RL.nil ?_
  refine hK9 _ _ _ ?_
  refine CW.kp [3, 4, 5, 39] rfl ?_
  refine CW.ite rfl (fun h3 => ?_) (fun h3 => ?_)
  ·refine CW.seq fun K10 hK10 => ?_
   refine CW.region ?_
   refine RL.q (Y.field rfl field53_0) rfl ?_
   refine RL.q (Y.loadOwnV rfl MM MM (by rfl) flat3) rfl ?_
   refine RL.qs (Y.eql rfl rfl) rfl (fun g42 => ?_) (fun g42 => ?_)
   ·refine RL.q (Y.move rfl) rfl ?_
    refine RL.qg WG (Y.field rfl field53_2) rfl ?_
    refine RL.loadOwnSl WG rfl MM MM (by rfl) flat51 rfl fun a45 c45 hu45 hc45 hl45 => ?_
    refine RL.qg WG (Y.len rfl Try.underlying51) rfl ?_
    refine RL.qgs WG (Y.eql rfl rfl) rfl (fun g47 => ?_) (fun g47 => ?_)
    ·refine RL.q (Y.pickT rfl rfl) rfl ?_
     refine RL.q (Y.move rfl) rfl ?_
     refine RL.qg WG (Y.field rfl field53_1) rfl ?_
     refine RL.qg WG (Y.loadOwnV rfl MM MM (by rfl) flat3) rfl ?_
     refine RL.qgs WG (Y.eql rfl rfl) rfl (fun g52 => ?_) (fun g52 => ?_)
     ·refine RL.qg WG (Y.move rfl) rfl ?_
      refine RL.no WG rfl ?_
      refine RL.no WG rfl ?_
      refine RL.no WG rfl ?_
      refine RL.qg WG (Y.pickT rfl rfl) rfl ?_
      refine RL.q (Y.pickT rfl rfl) rfl ?_
      refine RL.q (Y.assign rfl) rfl ?_
      refine RL.nil ?_
      refine hK10 _ _ _ ?_
      refine CW.kp [6] rfl ?_
      refine CW.ret ?_
      exact ⟨_, rfl, Turn.drop ⟨(vbT ((fits1 hvt h3).2 ⟨g42, by omega, by omega⟩)), rfl, rfl⟩ SB⟩
     refine RL.qg WG (Y.move rfl) rfl ?_
     refine RL.qg WG (Y.field rfl field53_1) rfl ?_
     refine RL.qg WG (Y.loadOwnV rfl MM MM (by rfl) flat3) rfl ?_
     refine RL.qg WG (Y.eql rfl rfl) rfl ?_
     refine RL.qg WG (Y.pickF rfl rfl) rfl ?_
     refine RL.q (Y.pickT rfl rfl) rfl ?_
     refine RL.q (Y.assign rfl) rfl ?_
     refine RL.nil ?_
     refine hK10 _ _ _ ?_
     refine CW.kp [6] rfl ?_
     refine CW.ret ?_
     exact ⟨_, rfl, Turn.drop ⟨(vb (Iff.trans ⟨fun h => ⟨g42, by omega, by omega⟩, fun h => by have := h.2.2; omega⟩ (fits1 hvt h3).symm)), rfl, rfl⟩ SB⟩
    refine RL.q (Y.pickT rfl rfl) rfl ?_
    refine RL.q (Y.move rfl) rfl ?_
    refine RL.no WG rfl ?_
    refine RL.no WG rfl ?_
    refine RL.no WG rfl ?_
    refine RL.no WG rfl ?_
    refine RL_noU rfl rfl rfl ?_
    refine RL_noU rfl rfl rfl ?_
    refine RL_noU rfl rfl rfl ?_
    refine RL.no WG rfl ?_
    refine RL.q (Y.pickF rfl rfl) rfl ?_
    refine RL.q (Y.assign rfl) rfl ?_
    refine RL.nil ?_
    refine hK10 _ _ _ ?_
    refine CW.kp [6] rfl ?_
    refine CW.ret ?_
    exact ⟨_, rfl, Turn.drop ⟨(vbF (fun h => by have := ((fits1 hvt h3).1 h).2; omega)), rfl, rfl⟩ SB⟩
   refine RL.q (Y.move rfl) rfl ?_
   refine RL.no WG rfl ?_
   refine RL.no WG rfl ?_
   refine RL.no WG rfl ?_
   refine RL.no WG rfl ?_
   refine RL.q (Y.pickF rfl rfl) rfl ?_
   refine RL.q (Y.move rfl) rfl ?_
   refine RL.no WG rfl ?_
   refine RL.no WG rfl ?_
   refine RL.no WG rfl ?_
   refine RL.no WG rfl ?_
   refine RL_noU rfl rfl rfl ?_
   refine RL_noU rfl rfl rfl ?_
   refine RL_noU rfl rfl rfl ?_
   refine RL.no WG rfl ?_
   refine RL.q (Y.pickF rfl rfl) rfl ?_
   refine RL.q (Y.assign rfl) rfl ?_
   refine RL.nil ?_
   refine hK10 _ _ _ ?_
   refine CW.kp [6] rfl ?_
   refine CW.ret ?_
   exact ⟨_, rfl, Turn.drop ⟨(vbF (fun h => g42 ((fits1 hvt h3).1 h).1)), rfl, rfl⟩ SB⟩
  refine CW.skip ?_
  refine hK8 _ _ _ ?_
  refine CW.seq fun K11 hK11 => ?_
  refine CW.seq fun K12 hK12 => ?_
  refine CW.region ?_
  refine RL.q (Y.field rfl field31_0) rfl ?_
  refine RL.q (Y.loadOwnV rfl MM MM (by rfl) flat3) rfl ?_
  refine RL.q (Y.eql rfl rfl) rfl ?_
  refine RL.nil ?_
  refine hK12 _ _ _ ?_
  refine CW.kp [3, 4, 5, 61] rfl ?_
  refine CW.ite rfl (fun h4 => ?_) (fun h4 => ?_)
  ·refine CW.seq fun K13 hK13 => ?_
   refine CW.seq fun K14 hK14 => ?_
   refine CW.region ?_
   refine RL.q (Y.assign rfl) rfl ?_
   refine RL.nil ?_
   refine hK14 _ _ _ ?_
   refine CW.kp [3, 4, 5, 7] rfl ?_
   refine CW.block ?_
   -- LOOP 1: live [3, 4, 5, 7] changed [7]
   refine CW.kp [7, 3, 4, 5] rfl ?_
   refine CW.loopF (fun m Lc M1 Γc => ∃ k : Nat, m = v.kids.length - k ∧ k ≤ v.kids.length ∧ Lc = [(7, vint k)] ∧ Γc = [] ∧ M1 = M ∧ ∀ j (hj : j < v.kids.length), j < k → fitsB p v.kids[j] (t.kids.headD ty0) = true) (v.kids.length) [(7, _)] _ rfl rfl ⟨0, rfl, Nat.zero_le _, rfl, rfl, rfl, fun _ _ h => absurd h (Nat.not_lt_zero _)⟩ ?_
   rintro m Lc M Γc hs ⟨k, rfl, hk, rfl, rfl, rfl, hF0⟩
   refine CW.seq fun K15 hK15 => ?_
   refine CW.seq fun K16 hK16 => ?_
   refine CW.region ?_
   refine RL.q (Y.move rfl) rfl ?_
   refine RL.q (Y.field rfl field53_2) rfl ?_
   refine RL.loadOwnSl rfl rfl MM MM (by rfl) flat51 rfl fun a64 c64 hu64 hc64 hl64 => ?_
   refine RL.q (Y.len rfl Try.underlying51) rfl ?_
   refine RL.q (Y.lss rfl rfl) rfl ?_
   refine RL.nil ?_
   refine hK16 _ _ _ ?_
   refine CW.kp [3, 4, 5, 7, 66] rfl ?_
   refine CW.ite rfl (fun h5 => ?_) (fun h5 => ?_)
   ·have hka : k < v.kids.length := by omega
    have hone := validT_one hvt h4
    refine CW.skip ?_
    refine hK15 _ _ _ ?_
    refine CW.seq fun K17 hK17 => ?_
    refine CW.block ?_
    refine CW.seq fun K18 hK18 => ?_
    refine CW.regionQ mix KR ?_
    refine QL.q (Y.loadAllR rfl MM MM EL agg26) rfl ?_
    refine QL.q (Y.field rfl field31_2) rfl ?_
    refine QL.loadOwnSl rfl rfl MM MM (by rfl) flat29 rfl fun a71 c71 hu71 hc71 hl71 => ?_
    refine QL.q (Y.index 0 rfl rfl rfl AO slice29 SM) rfl ?_
    refine QL.loadAgg rfl rfl MM (Eq.trans (flat_take Ty.enc_len _ _ _ (List.getElem?_eq_getElem AO)) (Ty.enc_eq _)) (by rfl) agg31 rfl fun us73 hul73 hur73 => ?_
    refine QL.q (Y.field rfl field53_2) rfl ?_
    refine QL.loadOwnSl rfl rfl MM MM (by rfl) flat51 rfl fun a75 c75 hu75 hc75 hl75 => ?_
    refine QL.q (Y.move rfl) rfl ?_
    refine QL.q (Y.index _ rfl rfl rfl AO slice51 SM) rfl ?_
    refine QL.loadAgg rfl rfl MM (Eq.trans (flat_take Val.enc_len _ _ _ (List.getElem?_eq_getElem AO)) (Val.enc_eq _)) (by rfl) agg53 rfl fun us78 hul78 hur78 => ?_
    refine QL.callv rfl func52 rfl rfl (by exact fun _ hC => ih _ (by rw [← hN]; exact Val.size_kid (List.getElem_mem hka)) _ _ _ p _ t.kids[0] _ v.kids[k] _ rfl (Kn.via hC KK) (Kn.via hC KK) (Kn.via hC KK)) ?_
    refine QL.q (Y.notD rfl) rfl ?_
    refine QL.nil ?_
    refine hK18 _ _ _ ?_
    refine CW.kp [3, 4, 5, 7, 80] rfl ?_
    refine CW.ite rfl (fun h6 => ?_) (fun h6 => ?_)
    ·refine CW.seq fun K19 hK19 => ?_
     refine CW.region ?_
     refine RL.q (Y.assign rfl) rfl ?_
     refine RL.nil ?_
     refine hK19 _ _ _ ?_
     refine CW.kp [6] rfl ?_
     refine CW.ret ?_
     first | exact ⟨_, rfl, Turn.drop ⟨(vbF (fun h => h6 (by rw [← headD_0 (l := t.kids) OM]; exact ((fits2 hvt h4).1 h).2.2 k hka))), rfl, rfl⟩ SB⟩
    refine CW.skip ?_
    refine hK17 _ _ _ ?_
    refine CW.region ?_
    refine RL.q (Y.move rfl) rfl ?_
    refine RL.q (Y.add rfl rfl OM) rfl ?_
    refine RL.q (Y.assign rfl) rfl ?_
    refine RL.nil ?_
    refine ⟨v.kids.length - (k + 1), [(7, _)], ?_, (KP [7, 3, 4, 5]), ?_⟩
    · omega
    · exact Turn.drop ⟨[], rfl, hs, k + 1, rfl, by omega, rfl, rfl, rfl, fun j hj hlt => by by_cases e : j = k; subst e; rw [headD_0 OM]; exact Decidable.not_not.1 h6; exact hF0 j hj OM⟩ SB
   refine CW.exit ?_
   refine hK13 _ _ _ ?_
   refine CW.seq fun K20 hK20 => ?_
   refine CW.region ?_
   refine RL.q (Y.field rfl field53_0) rfl ?_
   refine RL.q (Y.loadOwnV rfl MM MM (by rfl) flat3) rfl ?_
   refine RL.qs (Y.eql rfl rfl) rfl (fun g83 => ?_) (fun g83 => ?_)
   ·refine RL.q (Y.move rfl) rfl ?_
    refine RL.qg WG (Y.field rfl field53_1) rfl ?_
    refine RL.qg WG (Y.loadOwnV rfl MM MM (by rfl) flat3) rfl ?_
    refine RL.qg WG (Y.eql rfl rfl) rfl ?_
    refine RL.q (Y.pickT rfl rfl) rfl ?_
    refine RL.q (Y.assign rfl) rfl ?_
    refine RL.nil ?_
    refine hK20 _ _ _ ?_
    refine CW.kp [6] rfl ?_
    refine CW.ret ?_
    exact ⟨_, rfl, Turn.drop ⟨(vb (Iff.trans ⟨fun h => ⟨g83, h, fun j hj => hF0 j hj OM⟩, fun h => h.2.1⟩ (fits2 hvt h4).symm)), rfl, rfl⟩ SB⟩
   refine RL.q (Y.move rfl) rfl ?_
   refine RL.no WG rfl ?_
   refine RL.no WG rfl ?_
   refine RL.no WG rfl ?_
   refine RL.q (Y.pickF rfl rfl) rfl ?_
   refine RL.q (Y.assign rfl) rfl ?_
   refine RL.nil ?_
   refine hK20 _ _ _ ?_
   refine CW.kp [6] rfl ?_
   refine CW.ret ?_
   exact ⟨_, rfl, Turn.drop ⟨(vbF (fun h => g83 ((fits2 hvt h4).1 h).1)), rfl, rfl⟩ SB⟩
  refine CW.skip ?_
  refine hK11 _ _ _ ?_
  refine CW.seq fun K21 hK21 => ?_
  refine CW.region ?_
  refine RL.q (Y.loadAllR rfl MM MM EL agg26) rfl ?_
  refine RL.q (Y.field rfl field31_1) rfl ?_
  refine RL.q (Y.loadAggV [_, _, _] rfl MM MM (by rfl) agg28) rfl ?_
  refine RL.call rfl func20 rfl rfl (by exact rdef_ok _ _ _ _ _ _ KK) ?_
  rintro v93 M _ ⟨rfl, rfl, us93, rfl, hr93⟩
  refine RL.addRds hr93 ?_
  refine RL.q (Y.move rfl) rfl ?_
  refine RL.q (Y.extract rfl rfl) rfl ?_
  refine RL.q (Y.extract rfl rfl) rfl ?_
  refine RL.alloc _ zero46 rfl rfl fun b8 => ?_
  refine RL.storeRds 31 rfl rfl RP MM EL (by first | exact Kn.lenRds MM EL | exact Kn.lenLit rfl) size46 ?_
  refine RL.q (Y.assign rfl) rfl ?_
  refine RL.nil ?_
  refine hK21 _ _ _ ?_
  refine CW.kp [3, 5, 8] rfl ?_
  refine CW.seq fun K22 hK22 => ?_
  refine CW.seq fun K23 hK23 => ?_
  refine CW.region ?_
  refine RL.q (Y.field rfl field46_1) rfl ?_
  refine RL.q (Y.loadOwnV rfl MM MM (by rfl) flat3) rfl ?_
  refine RL.q (Y.eql rfl rfl) rfl ?_
  refine RL.nil ?_
  refine hK23 _ _ _ ?_
  refine CW.kp [3, 5, 8, 98] rfl ?_
  refine CW.ite rfl (fun h7 => ?_) (fun h7 => ?_)
  ·refine CW.seq fun K24 hK24 => ?_
   refine CW.seq fun K25 hK25 => ?_
   refine CW.region ?_
   refine RL.q (Y.field rfl field53_0) rfl ?_
   refine RL.q (Y.loadOwnV rfl MM MM (by rfl) flat3) rfl ?_
   refine RL.qs (Y.neq rfl rfl) rfl (fun g101 => ?_) (fun g101 => ?_)
   ·refine RL.q (Y.move rfl) rfl ?_
    refine RL.no WG rfl ?_
    refine RL.no WG rfl ?_
    refine RL.no WG rfl ?_
    refine RL.q (Y.pickT rfl rfl) rfl ?_
    refine RL.q (Y.move rfl) rfl ?_
    refine RL.no WG rfl ?_
    refine RL.no WG rfl ?_
    refine RL.no WG rfl ?_
    refine RL.no WG rfl ?_
    refine RL.no WG rfl ?_
    refine RL.no WG rfl ?_
    refine RL.q (Y.pickT rfl rfl) rfl ?_
    refine RL.q (Y.move rfl) rfl ?_
    refine RL.no WG rfl ?_
    refine RL.no WG rfl ?_
    refine RL.no WG rfl ?_
    refine RL.no WG rfl ?_
    refine RL.q (Y.pickT rfl rfl) rfl ?_
    refine RL.nil ?_
    refine hK25 _ _ _ ?_
    refine CW.kp [3, 5, 8, 120] rfl ?_
    refine CW.yes rfl ?_
    refine CW.seq fun K26 hK26 => ?_
    refine CW.region ?_
    refine RL.q (Y.assign rfl) rfl ?_
    refine RL.nil ?_
    refine hK26 _ _ _ ?_
    refine CW.kp [6] rfl ?_
    refine CW.ret ?_
    first | exact ⟨_, rfl, Turn.drop ⟨(vbF (fun h => by have := ((fits3c hvt h2 h3 h4 h7).1 h); omega)), rfl, rfl⟩ SB⟩
   refine RL.q (Y.move rfl) rfl ?_
   refine RL.qg WG (Y.field rfl field53_1) rfl ?_
   refine RL.qg WG (Y.loadOwnV rfl MM MM (by rfl) flat3) rfl ?_
   refine RL.qgs WG (Y.lss rfl rfl) rfl (fun g105 => ?_) (fun g105 => ?_)
   ·refine RL.q (Y.pickF rfl rfl) rfl ?_
    refine RL.q (Y.move rfl) rfl ?_
    refine RL.no WG rfl ?_
    refine RL.no WG rfl ?_
    refine RL.no WG rfl ?_
    refine RL.no WG rfl ?_
    refine RL.no WG rfl ?_
    refine RL.no WG rfl ?_
    refine RL.q (Y.pickT rfl rfl) rfl ?_
    refine RL.q (Y.move rfl) rfl ?_
    refine RL.no WG rfl ?_
    refine RL.no WG rfl ?_
    refine RL.no WG rfl ?_
    refine RL.no WG rfl ?_
    refine RL.q (Y.pickT rfl rfl) rfl ?_
    refine RL.nil ?_
    refine hK25 _ _ _ ?_
    refine CW.kp [3, 5, 8, 120] rfl ?_
    refine CW.yes rfl ?_
    refine CW.seq fun K27 hK27 => ?_
    refine CW.region ?_
    refine RL.q (Y.assign rfl) rfl ?_
    refine RL.nil ?_
    refine hK27 _ _ _ ?_
    refine CW.kp [6] rfl ?_
    refine CW.ret ?_
    first | exact ⟨_, rfl, Turn.drop ⟨(vbF (fun h => by have := ((fits3c hvt h2 h3 h4 h7).1 h); omega)), rfl, rfl⟩ SB⟩
   refine RL.q (Y.pickF rfl rfl) rfl ?_
   refine RL.q (Y.move rfl) rfl ?_
   refine RL.qg WG (Y.field rfl field53_1) rfl ?_
   refine RL.qg WG (Y.loadOwnV rfl MM MM (by rfl) flat3) rfl ?_
   refine RL.qg WG (Y.field rfl field46_4) rfl ?_
   refine RL.loadOwnSl WG rfl MM MM (by rfl) flat40 rfl fun a111 c111 hu111 hc111 hl111 => ?_
   refine RL.qg WG (Y.len rfl Try.underlying40) rfl ?_
   refine RL.qgs WG (Y.geq rfl rfl) rfl (fun g113 => ?_) (fun g113 => ?_)
   ·refine RL.q (Y.pickF rfl rfl) rfl ?_
    refine RL.q (Y.move rfl) rfl ?_
    refine RL.no WG rfl ?_
    refine RL.no WG rfl ?_
    refine RL.no WG rfl ?_
    refine RL.no WG rfl ?_
    refine RL.q (Y.pickT rfl rfl) rfl ?_
    refine RL.nil ?_
    refine hK25 _ _ _ ?_
    refine CW.kp [3, 5, 8, 120] rfl ?_
    refine CW.yes rfl ?_
    refine CW.seq fun K28 hK28 => ?_
    refine CW.region ?_
    refine RL.q (Y.assign rfl) rfl ?_
    refine RL.nil ?_
    refine hK28 _ _ _ ?_
    refine CW.kp [6] rfl ?_
    refine CW.ret ?_
    first | exact ⟨_, rfl, Turn.drop ⟨(vbF (fun h => by have := ((fits3c hvt h2 h3 h4 h7).1 h); omega)), rfl, rfl⟩ SB⟩
   refine RL.q (Y.pickF rfl rfl) rfl ?_
   refine RL.q (Y.move rfl) rfl ?_
   refine RL.qg WG (Y.field rfl field53_2) rfl ?_
   refine RL.loadOwnSl WG rfl MM MM (by rfl) flat51 rfl fun a117 c117 hu117 hc117 hl117 => ?_
   refine RL.qg WG (Y.len rfl Try.underlying51) rfl ?_
   refine RL.qg WG (Y.neq rfl rfl) rfl ?_
   refine RL.q (Y.pickF rfl rfl) rfl ?_
   refine RL.nil ?_
   refine hK25 _ _ _ ?_
   refine CW.kp [3, 5, 8, 120] rfl ?_
   refine CW.ite rfl (fun h8 => ?_) (fun h8 => ?_)
   ·refine CW.seq fun K29 hK29 => ?_
    refine CW.region ?_
    refine RL.q (Y.assign rfl) rfl ?_
    refine RL.nil ?_
    refine hK29 _ _ _ ?_
    refine CW.kp [6] rfl ?_
    refine CW.ret ?_
    first | exact ⟨_, rfl, Turn.drop ⟨(vbF (fun h => by have := ((fits3c hvt h2 h3 h4 h7).1 h); omega)), rfl, rfl⟩ SB⟩
   refine CW.skip ?_
   refine hK24 _ _ _ ?_
   refine CW.seq fun K30 hK30 => ?_
   refine CW.regionQ mix KR ?_
   refine QL.q (Y.loadAllR rfl MM MM EL agg26) rfl ?_
   refine QL.q (Y.field rfl field46_4) rfl ?_
   refine QL.loadOwnSl rfl rfl MM MM (by rfl) flat40 rfl fun a123 c123 hu123 hc123 hl123 => ?_
   refine QL.q (Y.field rfl field53_1) rfl ?_
   refine QL.q (Y.loadOwnV rfl MM MM (by rfl) flat3) rfl ?_
   refine QL.q (Y.index v.n.toNat rfl rfl OM OM slice40 (fun _ hw => hw.rd_some MM OM)) rfl ?_
   refine QL.q (Y.field rfl field66_2) rfl ?_
   refine QL.loadAgg rfl rfl MM (Eq.trans (flat_sub SlotT.enc_len _ _ _ (List.getElem?_eq_getElem AO) _ _ (Nat.le_of_ble_eq_true rfl)) (by rw [SlotT.enc_eq] <;> rfl)) (by rfl) agg31 rfl fun us128 hul128 hur128 => ?_
   refine QL.q (Y.field rfl field53_2) rfl ?_
   refine QL.loadOwnSl rfl rfl MM MM (by rfl) flat51 rfl fun a130 c130 hu130 hc130 hl130 => ?_
   refine QL.q (Y.index 0 rfl rfl rfl AO slice51 SM) rfl ?_
   refine QL.loadAgg rfl rfl MM (Eq.trans (flat_take Val.enc_len _ _ _ (List.getElem?_eq_getElem AO)) (Val.enc_eq _)) (by rfl) agg53 rfl fun us132 hul132 hur132 => ?_
   refine QL.callv rfl func52 rfl rfl (by exact fun _ hC => ih _ (by rw [← hN]; exact Val.size_kid (List.getElem_mem OM)) _ _ _ p _ ((theDef p t.df).slots[v.n.toNat]).ty _ v.kids[0] _ rfl (Kn.via hC KK) (Kn.via hC KK) (Kn.via hC KK)) ?_
   refine QL.q (Y.assign rfl) rfl ?_
   refine QL.nil ?_
   refine hK30 _ _ _ ?_
   refine CW.kp [6] rfl ?_
   refine CW.ret ?_
   first | exact ⟨_, rfl, Turn.drop ⟨(vb (fits3k hvt h2 h3 h4 h7 OM OM OM OM).symm), rfl, rfl⟩ SB⟩
  refine CW.skip ?_
  refine hK22 _ _ _ ?_
  refine CW.seq fun K31 hK31 => ?_
  refine CW.seq fun K32 hK32 => ?_
  refine CW.region ?_
  refine RL.q (Y.field rfl field53_0) rfl ?_
  refine RL.q (Y.loadOwnV rfl MM MM (by rfl) flat3) rfl ?_
  refine RL.qs (Y.neq rfl rfl) rfl (fun g136 => ?_) (fun g136 => ?_)
  ·refine RL.q (Y.move rfl) rfl ?_
   refine RL.no WG rfl ?_
   refine RL.no WG rfl ?_
   refine RL.no WG rfl ?_
   refine RL.q (Y.pickT rfl rfl) rfl ?_
   refine RL.q (Y.move rfl) rfl ?_
   refine RL.no WG rfl ?_
   refine RL.no WG rfl ?_
   refine RL.no WG rfl ?_
   refine RL.no WG rfl ?_
   refine RL.no WG rfl ?_
   refine RL.no WG rfl ?_
   refine RL.no WG rfl ?_
   refine RL.q (Y.pickT rfl rfl) rfl ?_
   refine RL.nil ?_
   refine hK32 _ _ _ ?_
   refine CW.kp [3, 5, 8, 150] rfl ?_
   refine CW.yes rfl ?_
   refine CW.seq fun K33 hK33 => ?_
   refine CW.region ?_
   refine RL.q (Y.assign rfl) rfl ?_
   refine RL.nil ?_
   refine hK33 _ _ _ ?_
   refine CW.kp [6] rfl ?_
   refine CW.ret ?_
   first | exact ⟨_, rfl, Turn.drop ⟨(vbF (fun h => by have := ((fits3r hvt h2 h3 h4 h7).1 h); omega)), rfl, rfl⟩ SB⟩
  refine RL.q (Y.move rfl) rfl ?_
  refine RL.qg WG (Y.field rfl field53_1) rfl ?_
  refine RL.qg WG (Y.loadOwnV rfl MM MM (by rfl) flat3) rfl ?_
  refine RL.qgs WG (Y.neq rfl rfl) rfl (fun g140 => ?_) (fun g140 => ?_)
  ·refine RL.q (Y.pickF rfl rfl) rfl ?_
   refine RL.q (Y.move rfl) rfl ?_
   refine RL.no WG rfl ?_
   refine RL.no WG rfl ?_
   refine RL.no WG rfl ?_
   refine RL.no WG rfl ?_
   refine RL.no WG rfl ?_
   refine RL.no WG rfl ?_
   refine RL.no WG rfl ?_
   refine RL.q (Y.pickT rfl rfl) rfl ?_
   refine RL.nil ?_
   refine hK32 _ _ _ ?_
   refine CW.kp [3, 5, 8, 150] rfl ?_
   refine CW.yes rfl ?_
   refine CW.seq fun K34 hK34 => ?_
   refine CW.region ?_
   refine RL.q (Y.assign rfl) rfl ?_
   refine RL.nil ?_
   refine hK34 _ _ _ ?_
   refine CW.kp [6] rfl ?_
   refine CW.ret ?_
   first | exact ⟨_, rfl, Turn.drop ⟨(vbF (fun h => by have := ((fits3r hvt h2 h3 h4 h7).1 h); omega)), rfl, rfl⟩ SB⟩
  refine RL.q (Y.pickF rfl rfl) rfl ?_
  refine RL.q (Y.move rfl) rfl ?_
  refine RL.qg WG (Y.field rfl field53_2) rfl ?_
  refine RL.loadOwnSl WG rfl MM MM (by rfl) flat51 rfl fun a144 c144 hu144 hc144 hl144 => ?_
  refine RL.qg WG (Y.len rfl Try.underlying51) rfl ?_
  refine RL.qg WG (Y.field rfl field46_4) rfl ?_
  refine RL.loadOwnSl WG rfl MM MM (by rfl) flat40 rfl fun a147 c147 hu147 hc147 hl147 => ?_
  refine RL.qg WG (Y.len rfl Try.underlying40) rfl ?_
  refine RL.qg WG (Y.neq rfl rfl) rfl ?_
  refine RL.q (Y.pickF rfl rfl) rfl ?_
  refine RL.nil ?_
  refine hK32 _ _ _ ?_
  refine CW.kp [3, 5, 8, 150] rfl ?_
  refine CW.ite rfl (fun h9 => ?_) (fun h9 => ?_)
  ·refine CW.seq fun K35 hK35 => ?_
   refine CW.region ?_
   refine RL.q (Y.assign rfl) rfl ?_
   refine RL.nil ?_
   refine hK35 _ _ _ ?_
   refine CW.kp [6] rfl ?_
   refine CW.ret ?_
   first | exact ⟨_, rfl, Turn.drop ⟨(vbF (fun h => by have := ((fits3r hvt h2 h3 h4 h7).1 h); omega)), rfl, rfl⟩ SB⟩
  refine CW.skip ?_
  refine hK31 _ _ _ ?_
  refine CW.seq fun K36 hK36 => ?_
  refine CW.seq fun K37 hK37 => ?_
  refine CW.region ?_
  refine RL.q (Y.assign rfl) rfl ?_
  refine RL.nil ?_
  refine hK37 _ _ _ ?_
  refine CW.kp [3, 5, 8, 10] rfl ?_
  refine CW.block ?_
  -- LOOP 2: live [3, 5, 8, 10] changed [10]
  refine CW.kp [10, 3, 5, 8] rfl ?_
  refine CW.loopF (fun m Lc M1 Γc => ∃ k : Nat, m = v.kids.length - k ∧ k ≤ v.kids.length ∧ Lc = [(10, vint k)] ∧ Γc = [] ∧ M1 = M ∧ ∀ j (hj : j < v.kids.length) (hj2 : j < (theDef p t.df).slots.length), j < k → fitsB p v.kids[j] ((theDef p t.df).slots[j]).ty = true) (v.kids.length) [(10, _)] _ rfl rfl ⟨0, rfl, Nat.zero_le _, rfl, rfl, rfl, fun _ _ _ h => absurd h (Nat.not_lt_zero _)⟩ ?_
  rintro m Lc M Γc hs ⟨k, rfl, hk, rfl, rfl, rfl, hF0⟩
  refine CW.seq fun K38 hK38 => ?_
  refine CW.seq fun K39 hK39 => ?_
  refine CW.region ?_
  refine RL.q (Y.move rfl) rfl ?_
  refine RL.q (Y.field rfl field53_2) rfl ?_
  refine RL.loadOwnSl rfl rfl MM MM (by rfl) flat51 rfl fun a153 c153 hu153 hc153 hl153 => ?_
  refine RL.q (Y.len rfl Try.underlying51) rfl ?_
  refine RL.q (Y.lss rfl rfl) rfl ?_
  refine RL.nil ?_
  refine hK39 _ _ _ ?_
  refine CW.kp [3, 5, 8, 10, 155] rfl ?_
  refine CW.ite rfl (fun h10 => ?_) (fun h10 => ?_)
  ·have hka : k < v.kids.length := by omega
   have hkb : k < (theDef p t.df).slots.length := by omega
   refine CW.skip ?_
   refine hK38 _ _ _ ?_
   refine CW.seq fun K40 hK40 => ?_
   refine CW.block ?_
   refine CW.seq fun K41 hK41 => ?_
   refine CW.regionQ mix KR ?_
   refine QL.q (Y.loadAllR rfl MM MM EL agg26) rfl ?_
   refine QL.q (Y.field rfl field46_4) rfl ?_
   refine QL.loadOwnSl rfl rfl MM MM (by rfl) flat40 rfl fun a160 c160 hu160 hc160 hl160 => ?_
   refine QL.q (Y.move rfl) rfl ?_
   refine QL.q (Y.index _ rfl rfl rfl AO slice40 SM) rfl ?_
   refine QL.q (Y.field rfl field66_2) rfl ?_
   refine QL.loadAgg rfl rfl MM (Eq.trans (flat_sub SlotT.enc_len _ _ _ (List.getElem?_eq_getElem AO) _ _ (Nat.le_of_ble_eq_true rfl)) (by rw [SlotT.enc_eq] <;> rfl)) (by rfl) agg31 rfl fun us164 hul164 hur164 => ?_
   refine QL.q (Y.field rfl field53_2) rfl ?_
   refine QL.loadOwnSl rfl rfl MM MM (by rfl) flat51 rfl fun a166 c166 hu166 hc166 hl166 => ?_
   refine QL.q (Y.move rfl) rfl ?_
   refine QL.q (Y.index _ rfl rfl rfl AO slice51 SM) rfl ?_
   refine QL.loadAgg rfl rfl MM (Eq.trans (flat_take Val.enc_len _ _ _ (List.getElem?_eq_getElem AO)) (Val.enc_eq _)) (by rfl) agg53 rfl fun us169 hul169 hur169 => ?_
   refine QL.callv rfl func52 rfl rfl (by exact fun _ hC => ih _ (by rw [← hN]; exact Val.size_kid (List.getElem_mem OM)) _ _ _ p _ ((theDef p t.df).slots[k]).ty _ v.kids[k] _ rfl (Kn.via hC KK) (Kn.via hC KK) (Kn.via hC KK)) ?_
   refine QL.q (Y.notD rfl) rfl ?_
   refine QL.nil ?_
   refine hK41 _ _ _ ?_
   refine CW.kp [3, 5, 8, 10, 171] rfl ?_
   refine CW.ite rfl (fun h11 => ?_) (fun h11 => ?_)
   ·refine CW.seq fun K42 hK42 => ?_
    refine CW.region ?_
    refine RL.q (Y.assign rfl) rfl ?_
    refine RL.nil ?_
    refine hK42 _ _ _ ?_
    refine CW.kp [6] rfl ?_
    refine CW.ret ?_
    first | exact ⟨_, rfl, Turn.drop ⟨(vbF (fun h => h11 (((fits3r hvt h2 h3 h4 h7).1 h).2.2.2 _ hka hkb))), rfl, rfl⟩ SB⟩
   refine CW.skip ?_
   refine hK40 _ _ _ ?_
   refine CW.region ?_
   refine RL.q (Y.move rfl) rfl ?_
   refine RL.q (Y.add rfl rfl OM) rfl ?_
   refine RL.q (Y.assign rfl) rfl ?_
   refine RL.nil ?_
   refine ⟨v.kids.length - (k + 1), [(10, _)], ?_, (KP [10, 3, 5, 8]), ?_⟩
   · omega
   · exact Turn.drop ⟨[], rfl, hs, k + 1, rfl, by omega, rfl, rfl, rfl, fun j hj hj2 hlt => by by_cases e : j = k; subst e; exact Decidable.not_not.1 h11; exact hF0 j hj hj2 OM⟩ SB
  refine CW.exit ?_
  refine hK36 _ _ _ ?_
  refine CW.seq fun K43 hK43 => ?_
  refine CW.region ?_
  refine RL.q (Y.assign rfl) rfl ?_
  refine RL.nil ?_
  refine hK43 _ _ _ ?_
  refine CW.kp [6] rfl ?_
  refine CW.ret ?_
  first | exact ⟨_, rfl, Turn.drop ⟨(vbT ((fits3r hvt h2 h3 h4 h7).2 ⟨by omega, by omega, by omega, fun j hj hj2 => hF0 j hj hj2 OM⟩)), rfl, rfl⟩ SB⟩

theorem rvalid_ok (w0 : World) (M : Mem) (Γ : List As) (p : ProgT) (usp : List Value) (t : Ty) (ust : List Value) (v : Val) (usv : List Value)  (hp : Kn w0 M Γ (RdL M p.enc usp)) (ht : Kn w0 M Γ (RdL M t.enc ust)) (hv : Kn w0 M Γ (RdL M v.enc usv)) (hs : v.size ≤ 4611686018427387904) (hd : v.depth ≤ 4611686018427387904) :
    CallOk Try.prog w0 M Γ 25 #[.agg usp.toArray, .agg ust.toArray, .agg usv.toArray] (Is M Γ (.bool (decide (v.size ≤ 256 ∧ v.depth ≤ 24 ∧ fitsB p v t = true)))) := by
  have hw : w64 (v.size : Int) = (v.size : Int) := w64_in OM
  refine CallOk.kn hp fun hp => ?_
  rw [ProgT.enc_eq] at hp
  refine CallOk.kn ht fun ht => ?_
  rw [Ty.enc_eq] at ht
  refine CallOk.kn hv fun hv => ?_
  rw [Val.enc_eq] at hv
  refine enter (f := 25) Try.func25 rfl Try.ntmps25 rfl rfl fun w1 hw1 => ?_
  refine CW.addRds hp ?_
  refine CW.addRds ht ?_
  refine CW.addRds hv ?_
  refine CW.seq fun K1 hK1 => ?_
  refine CW.region ?_
  refine RL.box _ rfl rfl rfl fun b3 => ?_
  refine RL.box _ rfl rfl rfl fun b4 => ?_
  refine RL.box _ rfl rfl rfl fun b5 => ?_
  refine RL.q (Y.assign rfl) rfl ?_
  refine RL.nil ?_
  refine hK1 _ _ _ ?_
  refine CW.kp [3, 4, 5] rfl ?_
  refine CW.seq fun K2 hK2 => ?_
  refine CW.region ?_
  refine RL.q (Y.loadAllR rfl MM MM EL agg53) rfl ?_
  refine RL.callv rfl func28 rfl rfl (by exact hw ▸ rsize_ok _ _ _ _ v _ rfl (by first | exact Kn.val MM | fail)) ?_
  refine RL.qs (Y.leq rfl rfl) rfl (fun g9 => ?_) (fun g9 => ?_)
  ·refine RL.q (Y.move rfl) rfl ?_
   refine RL.qg WG (Y.loadAllR rfl MM MM EL agg53) rfl ?_
   refine RL.callv WG func49 rfl rfl (by exact rdepth_ok _ _ _ _ v _ rfl KK hd) ?_
   refine RL.qgs WG (Y.leq rfl rfl) rfl (fun g13 => ?_) (fun g13 => ?_)
   ·refine RL.q (Y.pickT rfl rfl) rfl ?_
    refine RL.q (Y.move rfl) rfl ?_
    refine RL.qg WG (Y.loadAllR rfl MM MM EL agg26) rfl ?_
    refine RL.qg WG (Y.loadAllR rfl MM MM EL agg31) rfl ?_
    refine RL.qg WG (Y.loadAllR rfl MM MM EL agg53) rfl ?_
    refine RL.callv WG func52 rfl rfl (by exact rfits_ok _ _ _ _ p _ t _ v _ rfl KK KK KK) ?_
    refine RL.q (Y.pickT rfl rfl) rfl ?_
    refine RL.q (Y.assign rfl) rfl ?_
    refine RL.nil ?_
    refine hK2 _ _ _ ?_
    refine CW.kp [6] rfl ?_
    refine CW.ret ?_
    exact ⟨_, rfl, Turn.drop ⟨(vb ⟨fun h => ⟨by omega, by omega, h⟩, fun h => h.2.2⟩), rfl, rfl⟩ SB⟩
   refine RL.q (Y.pickT rfl rfl) rfl ?_
   refine RL.q (Y.move rfl) rfl ?_
   refine RL.no WG rfl ?_
   refine RL.no WG rfl ?_
   refine RL.no WG rfl ?_
   refine RL.no WG rfl ?_
   refine RL.q (Y.pickF rfl rfl) rfl ?_
   refine RL.q (Y.assign rfl) rfl ?_
   refine RL.nil ?_
   refine hK2 _ _ _ ?_
   refine CW.kp [6] rfl ?_
   refine CW.ret ?_
   exact ⟨_, rfl, Turn.drop ⟨(vbF (fun h => g13 OM)), rfl, rfl⟩ SB⟩
  refine RL.q (Y.move rfl) rfl ?_
  refine RL.no WG rfl ?_
  refine RL.no WG rfl ?_
  refine RL.no WG rfl ?_
  refine RL.q (Y.pickF rfl rfl) rfl ?_
  refine RL.q (Y.move rfl) rfl ?_
  refine RL.no WG rfl ?_
  refine RL.no WG rfl ?_
  refine RL.no WG rfl ?_
  refine RL.no WG rfl ?_
  refine RL.q (Y.pickF rfl rfl) rfl ?_
  refine RL.q (Y.assign rfl) rfl ?_
  refine RL.nil ?_
  refine hK2 _ _ _ ?_
  refine CW.kp [6] rfl ?_
  refine CW.ret ?_
  exact ⟨_, rfl, Turn.drop ⟨(vbF (fun h => g9 OM)), rfl, rfl⟩ SB⟩
end Go.Proofs.Ytfgkhhfkodlbpaa
