/- THE WALKS, 3: types of the reference, equal types, sizes, weights, depths. Printed by m04c.py. -/
import Derived.Test.YtfgkhhfkodlbpaaVb
namespace Go.Proofs.Ytfgkhhfkodlbpaa
open Xe

theorem rvalidTF_ok (n : Nat) : ∀ (w0 : World) (M : Mem) (Γ : List As) (p : ProgT) (t : Ty) (usp ust : List Value) (d : Nat), d + n = 25 → 1 ≤ d → Kn w0 M Γ (RdL M p.enc usp) → Kn w0 M Γ (RdL M t.enc ust) →
    CallOk Try.prog w0 M Γ 43 #[.agg usp.toArray, .agg ust.toArray, vint d] (Is M Γ (.bool (decide (validTF p n t = true)))) := by
  induction n using Nat.strongRecOn
  rename_i n ih
  intro w0 M Γ p t usp ust d hd hd1 hp ht
  refine CallOk.kn hp fun hp => ?_
  refine CallOk.kn ht fun ht => ?_
  rw [ProgT.enc_eq] at hp
  rw [Ty.enc_eq] at ht
  refine enter (f := 43) Try.func43 rfl Try.ntmps43 rfl rfl fun w1 hw1 => ?_
  refine CW.addRds hp ?_
  refine CW.addRds ht ?_
  refine CW.seq fun K1 hK1 => ?_
  refine CW.region ?_
  refine RL.box _ rfl rfl rfl fun b3 => ?_
  refine RL.box _ rfl rfl rfl fun b4 => ?_
  refine RL.q (Y.assign rfl) rfl ?_
  refine RL.nil ?_
  refine hK1 _ _ _ ?_
  refine CW.kp [2, 3, 4] rfl ?_
  refine CW.seq fun K2 hK2 => ?_
  refine CW.seq fun K3 hK3 => ?_
  refine CW.region ?_
  refine RL.q (Y.move rfl) rfl ?_
  refine RL.q (Y.gtr rfl rfl) rfl ?_
  refine RL.nil ?_
  refine hK3 _ _ _ ?_
  refine CW.kp [2, 3, 4, 10] rfl ?_
  refine CW.ite rfl (fun h1 => ?_) (fun h1 => ?_)
  ·refine CW.seq fun K4 hK4 => ?_
   refine CW.region ?_
   refine RL.q (Y.assign rfl) rfl ?_
   refine RL.nil ?_
   refine hK4 _ _ _ ?_
   refine CW.kp [6] rfl ?_
   refine CW.ret ?_
   first | exact ⟨_, rfl, Turn.drop ⟨(vbF (fun h => by rw [show n = 0 by omega] at h; cases h)), rfl, rfl⟩ SB⟩
  obtain ⟨n, rfl⟩ : ∃ k, n = k + 1 := ⟨n - 1, by omega⟩
  refine CW.skip ?_
  refine hK2 _ _ _ ?_
  refine CW.seq fun K5 hK5 => ?_
  refine CW.seq fun K6 hK6 => ?_
  refine CW.region ?_
  refine RL.q (Y.field rfl field31_0) rfl ?_
  refine RL.q (Y.loadOwnV rfl MM MM (by rfl) flat3) rfl ?_
  refine RL.q (Y.eql rfl rfl) rfl ?_
  refine RL.nil ?_
  refine hK6 _ _ _ ?_
  refine CW.kp [2, 3, 4, 13] rfl ?_
  refine CW.ite rfl (fun h2 => ?_) (fun h2 => ?_)
  ·refine CW.seq fun K7 hK7 => ?_
   refine CW.regionQ mix KR ?_
   refine QL.q (Y.field rfl field31_1) rfl ?_
   refine QL.q (Y.loadAggV [_, _, _] rfl MM MM (by rfl) agg28) rfl ?_
   refine QL.q (Y.build [_, _, _] rfl zero28 places28 (by rfl)) rfl ?_
   refine QL.qs (id28_eql rfl rfl) rfl (fun g17 => ?_) (fun g17 => ?_)
   ·refine QL.q (Y.move rfl) rfl ?_
    refine QL.qg WG (Y.field rfl field31_2) rfl ?_
    refine QL.loadOwnSl WG rfl MM MM (by rfl) flat29 rfl fun a20 c20 hu20 hc20 hl20 => ?_
    refine QL.qg WG (Y.len rfl Try.underlying29) rfl ?_
    refine QL.qgs WG (Y.eql rfl rfl) rfl (fun g22 => ?_) (fun g22 => ?_)
    ·refine QL.q (Y.pickT rfl rfl) rfl ?_
     refine QL.q (Y.move rfl) rfl ?_
     refine QL.qg WG (Y.loadAllR rfl MM MM EL agg26) rfl ?_
     refine QL.qg WG (Y.field rfl field31_2) rfl ?_
     refine QL.loadOwnSl WG rfl MM MM (by rfl) flat29 rfl fun a27 c27 hu27 hc27 hl27 => ?_
     refine QL.qg WG (Y.index 0 rfl rfl rfl AO slice29 SM) rfl ?_
     refine QL.loadAgg WG rfl MM (Eq.trans (flat_take Ty.enc_len _ _ _ (List.getElem?_eq_getElem AO)) (Ty.enc_eq _)) (by rfl) agg31 rfl fun us29 hul29 hur29 => ?_
     refine QL.qg WG (Y.move rfl) rfl ?_
     refine QL.qg WG (Y.add rfl rfl OM) rfl ?_
     refine QL.callv WG func43 rfl rfl (by exact fun _ hC => ih n OM _ _ _ p t.kids[0] _ _ (d + 1) OM OM (Kn.via hC KK) (Kn.via hC KK)) ?_
     refine QL.q (Y.pickT rfl rfl) rfl ?_
     refine QL.q (Y.assign rfl) rfl ?_
     refine QL.nil ?_
     refine hK7 _ _ _ ?_
     refine CW.kp [6] rfl ?_
     refine CW.ret ?_
     exact ⟨_, rfl, Turn.drop ⟨(vb (validTF_kid h2 g17 OM).symm), rfl, rfl⟩ SB⟩
    refine QL.q (Y.pickT rfl rfl) rfl ?_
    refine QL.q (Y.move rfl) rfl ?_
    refine QL.no WG rfl ?_
    refine QL.no WG rfl ?_
    refine QL.no WG rfl ?_
    refine QL.no WG rfl ?_
    refine QL.no WG rfl ?_
    refine QL.no WG rfl ?_
    refine QL.no WG rfl ?_
    refine QL.no WG rfl ?_
    refine QL.q (Y.pickF rfl rfl) rfl ?_
    refine QL.q (Y.assign rfl) rfl ?_
    refine QL.nil ?_
    refine hK7 _ _ _ ?_
    refine CW.kp [6] rfl ?_
    refine CW.ret ?_
    exact ⟨_, rfl, Turn.drop ⟨(vbF (fun h => by have := (validTF_kids h2 h).2; omega)), rfl, rfl⟩ SB⟩
   refine QL.q (Y.move rfl) rfl ?_
   refine QL.no WG rfl ?_
   refine QL.no WG rfl ?_
   refine QL.no WG rfl ?_
   refine QL.no WG rfl ?_
   refine QL.q (Y.pickF rfl rfl) rfl ?_
   refine QL.q (Y.move rfl) rfl ?_
   refine QL.no WG rfl ?_
   refine QL.no WG rfl ?_
   refine QL.no WG rfl ?_
   refine QL.no WG rfl ?_
   refine QL.no WG rfl ?_
   refine QL.no WG rfl ?_
   refine QL.no WG rfl ?_
   refine QL.no WG rfl ?_
   refine QL.q (Y.pickF rfl rfl) rfl ?_
   refine QL.q (Y.assign rfl) rfl ?_
   refine QL.nil ?_
   refine hK7 _ _ _ ?_
   refine CW.kp [6] rfl ?_
   refine CW.ret ?_
   exact ⟨_, rfl, Turn.drop ⟨(vbF (fun h => g17 (validTF_kids h2 h).1)), rfl, rfl⟩ SB⟩
  refine CW.skip ?_
  refine hK5 _ _ _ ?_
  refine CW.seq fun K8 hK8 => ?_
  refine CW.seq fun K9 hK9 => ?_
  refine CW.region ?_
  refine RL.q (Y.field rfl field31_2) rfl ?_
  refine RL.loadOwnSl rfl rfl MM MM (by rfl) flat29 rfl fun a35 c35 hu35 hc35 hl35 => ?_
  refine RL.q (Y.len rfl Try.underlying29) rfl ?_
  refine RL.q (Y.gtr rfl rfl) rfl ?_
  refine RL.nil ?_
  refine hK9 _ _ _ ?_
  refine CW.kp [3, 4, 37] rfl ?_
  refine CW.ite rfl (fun h3 => ?_) (fun h3 => ?_)
  ·refine CW.seq fun K10 hK10 => ?_
   refine CW.region ?_
   refine RL.q (Y.assign rfl) rfl ?_
   refine RL.nil ?_
   refine hK10 _ _ _ ?_
   refine CW.kp [6] rfl ?_
   refine CW.ret ?_
   first | exact ⟨_, rfl, Turn.drop ⟨(vbF (fun h => by by_cases h4 : t.kind = 3; exact absurd ((validTF_def h4).1 h).2 OM; exact absurd ((validTF_one OM h4).1 h).1 OM)), rfl, rfl⟩ SB⟩
  refine CW.skip ?_
  refine hK8 _ _ _ ?_
  refine CW.seq fun K11 hK11 => ?_
  refine CW.seq fun K12 hK12 => ?_
  refine CW.region ?_
  refine RL.q (Y.field rfl field31_0) rfl ?_
  refine RL.q (Y.loadOwnV rfl MM MM (by rfl) flat3) rfl ?_
  refine RL.q (Y.eql rfl rfl) rfl ?_
  refine RL.nil ?_
  refine hK12 _ _ _ ?_
  refine CW.kp [3, 4, 40] rfl ?_
  refine CW.ite rfl (fun h4 => ?_) (fun h4 => ?_)
  ·refine CW.seq fun K13 hK13 => ?_
   refine CW.region ?_
   refine RL.q (Y.loadAllR rfl MM MM EL agg26) rfl ?_
   refine RL.q (Y.field rfl field31_1) rfl ?_
   refine RL.q (Y.loadAggV [_, _, _] rfl MM MM (by rfl) agg28) rfl ?_
   refine RL.call rfl func20 rfl rfl (by exact rdef_ok _ _ _ _ _ _ KK) ?_
   rintro v45 M _ ⟨rfl, rfl, us45, rfl, hr45⟩
   refine RL.addRds hr45 ?_
   refine RL.q (Y.move rfl) rfl ?_
   refine RL.q (Y.extract rfl rfl) rfl ?_
   refine RL.q (Y.extract rfl rfl) rfl ?_
   refine RL.alloc _ zero46 rfl rfl fun b7 => ?_
   refine RL.storeRds 31 rfl rfl RP MM EL (by first | exact Kn.lenRds MM EL | exact Kn.lenLit rfl) size46 ?_
   refine RL.q (Y.assign rfl) rfl ?_
   refine RL.nil ?_
   refine hK13 _ _ _ ?_
   refine CW.kp [7, 8] rfl ?_
   refine CW.seq fun K14 hK14 => ?_
   refine CW.region ?_
   refine RL.qs (Y.move rfl) rfl (fun g48 => ?_) (fun g48 => ?_)
   ·refine RL.q (Y.move rfl) rfl ?_
    refine RL.qg WG (Y.field rfl field46_1) rfl ?_
    refine RL.qg WG (Y.loadOwnV rfl MM MM (by rfl) flat3) rfl ?_
    refine RL.qgs WG (Y.eql rfl rfl) rfl (fun g52 => ?_) (fun g52 => ?_)
    ·refine RL.qg WG (Y.move rfl) rfl ?_
     refine RL.no WG rfl ?_
     refine RL.no WG rfl ?_
     refine RL.no WG rfl ?_
     refine RL.qg WG (Y.pickT rfl rfl) rfl ?_
     refine RL.q (Y.pickT rfl rfl) rfl ?_
     refine RL.q (Y.assign rfl) rfl ?_
     refine RL.nil ?_
     refine hK14 _ _ _ ?_
     refine CW.kp [6] rfl ?_
     refine CW.ret ?_
     exact ⟨_, rfl, Turn.drop ⟨(vbT ((validTF_def h4).2 ⟨⟨g48, by omega⟩, by omega⟩)), rfl, rfl⟩ SB⟩
    refine RL.qg WG (Y.move rfl) rfl ?_
    refine RL.qg WG (Y.field rfl field46_1) rfl ?_
    refine RL.qg WG (Y.loadOwnV rfl MM MM (by rfl) flat3) rfl ?_
    refine RL.qg WG (Y.eql rfl rfl) rfl ?_
    refine RL.qg WG (Y.pickF rfl rfl) rfl ?_
    refine RL.q (Y.pickT rfl rfl) rfl ?_
    refine RL.q (Y.assign rfl) rfl ?_
    refine RL.nil ?_
    refine hK14 _ _ _ ?_
    refine CW.kp [6] rfl ?_
    refine CW.ret ?_
    exact ⟨_, rfl, Turn.drop ⟨(vb (Iff.trans ⟨fun h => ⟨⟨g48, by omega⟩, by omega⟩, fun h => by have := h.1.2; omega⟩ (validTF_def h4).symm)), rfl, rfl⟩ SB⟩
   refine RL.q (Y.move rfl) rfl ?_
   refine RL.no WG rfl ?_
   refine RL.no WG rfl ?_
   refine RL.no WG rfl ?_
   refine RL.no WG rfl ?_
   refine RL_noU rfl rfl rfl ?_
   refine RL_noU rfl rfl rfl ?_
   refine RL_noU rfl rfl rfl ?_
   refine RL.no WG rfl ?_
   refine RL.q (Y.pickF rfl rfl) rfl ?_
   refine RL.q (Y.assign rfl) rfl ?_
   refine RL.nil ?_
   refine hK14 _ _ _ ?_
   refine CW.kp [6] rfl ?_
   refine CW.ret ?_
   exact ⟨_, rfl, Turn.drop ⟨(vbF (fun h => g48 ((validTF_def h4).1 h).1.1)), rfl, rfl⟩ SB⟩
  refine CW.skip ?_
  refine hK11 _ _ _ ?_
  refine CW.seq fun K15 hK15 => ?_
  refine CW.region ?_
  refine RL.q (Y.field rfl field31_1) rfl ?_
  refine RL.q (Y.loadAggV [_, _, _] rfl MM MM (by rfl) agg28) rfl ?_
  refine RL.q (Y.build [_, _, _] rfl zero28 places28 (by rfl)) rfl ?_
  refine RL.qs (id28_eql rfl rfl) rfl (fun g62 => ?_) (fun g62 => ?_)
  ·refine RL.q (Y.move rfl) rfl ?_
   refine RL.qg WG (Y.field rfl field31_0) rfl ?_
   refine RL.qg WG (Y.loadOwnV rfl MM MM (by rfl) flat3) rfl ?_
   refine RL.qgs WG (Y.eql rfl rfl) rfl (fun g66 => ?_) (fun g66 => ?_)
   ·refine RL.qg WG (Y.move rfl) rfl ?_
    refine RL.no WG rfl ?_
    refine RL.no WG rfl ?_
    refine RL.no WG rfl ?_
    refine RL.qg WG (Y.pickT rfl rfl) rfl ?_
    refine RL.q (Y.pickT rfl rfl) rfl ?_
    refine RL.q (Y.assign rfl) rfl ?_
    refine RL.nil ?_
    refine hK15 _ _ _ ?_
    refine CW.kp [6] rfl ?_
    refine CW.ret ?_
    exact ⟨_, rfl, Turn.drop ⟨(vbT ((validTF_one OM OM).2 ⟨by omega, g62, by omega⟩)), rfl, rfl⟩ SB⟩
   refine RL.qg WG (Y.move rfl) rfl ?_
   refine RL.qg WG (Y.field rfl field31_0) rfl ?_
   refine RL.qg WG (Y.loadOwnV rfl MM MM (by rfl) flat3) rfl ?_
   refine RL.qg WG (Y.eql rfl rfl) rfl ?_
   refine RL.qg WG (Y.pickF rfl rfl) rfl ?_
   refine RL.q (Y.pickT rfl rfl) rfl ?_
   refine RL.q (Y.assign rfl) rfl ?_
   refine RL.nil ?_
   refine hK15 _ _ _ ?_
   refine CW.kp [6] rfl ?_
   refine CW.ret ?_
   exact ⟨_, rfl, Turn.drop ⟨(vb (Iff.trans ⟨fun h => ⟨by omega, g62, by omega⟩, fun h => by have := h.2.2; omega⟩ (validTF_one OM OM).symm)), rfl, rfl⟩ SB⟩
  refine RL.q (Y.move rfl) rfl ?_
  refine RL.no WG rfl ?_
  refine RL.no WG rfl ?_
  refine RL.no WG rfl ?_
  refine RL.no WG rfl ?_
  refine RL_noU rfl rfl rfl ?_
  refine RL_noU rfl rfl rfl ?_
  refine RL_noU rfl rfl rfl ?_
  refine RL.no WG rfl ?_
  refine RL.q (Y.pickF rfl rfl) rfl ?_
  refine RL.q (Y.assign rfl) rfl ?_
  refine RL.nil ?_
  refine hK15 _ _ _ ?_
  refine CW.kp [6] rfl ?_
  refine CW.ret ?_
  exact ⟨_, rfl, Turn.drop ⟨(vbF (fun h => g62 ((validTF_one OM OM).1 h).2.1)), rfl, rfl⟩ SB⟩

theorem rvalidT1_ok (w0 : World) (M : Mem) (Γ : List As) (p : ProgT) (t : Ty) (usp ust : List Value) (hp : Kn w0 M Γ (RdL M p.enc usp)) (ht : Kn w0 M Γ (RdL M t.enc ust)) :
    CallOk Try.prog w0 M Γ 43 #[.agg usp.toArray, .agg ust.toArray, vint 1] (Is M Γ (.bool (decide (validT p t)))) := rvalidTF_ok 24 w0 M Γ p t usp ust 1 rfl OM hp ht

theorem rvalidType_ok (w0 : World) (M : Mem) (Γ : List As) (p : ProgT) (usp : List Value) (t : Ty) (ust : List Value)  (hp : Kn w0 M Γ (RdL M p.enc usp)) (ht : Kn w0 M Γ (RdL M t.enc ust))  :
    CallOk Try.prog w0 M Γ 16 #[.agg usp.toArray, .agg ust.toArray] (Is M Γ (.bool (decide (validT p t)))) := by
  refine CallOk.kn hp fun hp => ?_
  rw [ProgT.enc_eq] at hp
  refine CallOk.kn ht fun ht => ?_
  rw [Ty.enc_eq] at ht
  refine enter (f := 16) Try.func16 rfl Try.ntmps16 rfl rfl fun w1 hw1 => ?_
  refine CW.addRds hp ?_
  refine CW.addRds ht ?_
  refine CW.seq fun K1 hK1 => ?_
  refine CW.region ?_
  refine RL.box _ rfl rfl rfl fun b2 => ?_
  refine RL.box _ rfl rfl rfl fun b3 => ?_
  refine RL.q (Y.assign rfl) rfl ?_
  refine RL.nil ?_
  refine hK1 _ _ _ ?_
  refine CW.kp [2, 3] rfl ?_
  refine CW.seq fun K2 hK2 => ?_
  refine CW.region ?_
  refine RL.q (Y.loadAllR rfl MM MM EL agg26) rfl ?_
  refine RL.q (Y.loadAllR rfl MM MM EL agg31) rfl ?_
  refine RL.callv rfl func43 rfl rfl (by exact rvalidT1_ok _ _ _ _ _ _ _ KK KK) ?_
  refine RL.q (Y.assign rfl) rfl ?_
  refine RL.nil ?_
  refine hK2 _ _ _ ?_
  refine CW.kp [4] rfl ?_
  refine CW.ret ?_
  exact ⟨_, rfl, Turn.drop ⟨rfl, rfl, rfl⟩ SB⟩

theorem rsameTy_ok (N : Nat) : ∀ (w0 : World) (M : Mem) (Γ : List As) (a : Ty) (usa : List Value) (b : Ty) (usb : List Value) , a.size = N → Kn w0 M Γ (RdL M a.enc usa) → Kn w0 M Γ (RdL M b.enc usb) → 
    CallOk Try.prog w0 M Γ 18 #[.agg usa.toArray, .agg usb.toArray] (Is M Γ (.bool (decide (a = b)))) := by
  induction N using Nat.strongRecOn
  rename_i N ih
  intro w0 M Γ a usa b usb hN ha hb 
  refine CallOk.kn ha fun ha => ?_
  rw [Ty.enc_eq] at ha
  refine CallOk.kn hb fun hb => ?_
  rw [Ty.enc_eq] at hb
  refine enter (f := 18) Try.func18 rfl Try.ntmps18 rfl rfl fun w1 hw1 => ?_
  refine CW.addRds ha ?_
  refine CW.addRds hb ?_
  refine CW.seq fun K1 hK1 => ?_
  refine CW.region ?_
  refine RL.box _ rfl rfl rfl fun b2 => ?_
  refine RL.box _ rfl rfl rfl fun b3 => ?_
  refine RL.q (Y.assign rfl) rfl ?_
  refine RL.nil ?_
  refine hK1 _ _ _ ?_
  refine CW.kp [2, 3] rfl ?_
  refine CW.seq fun K2 hK2 => ?_
  refine CW.seq fun K3 hK3 => ?_
  refine CW.region ?_
  refine RL.q (Y.field rfl field31_0) rfl ?_
  refine RL.q (Y.loadOwnV rfl MM MM (by rfl) flat3) rfl ?_
  refine RL.q (Y.field rfl field31_0) rfl ?_
  refine RL.q (Y.loadOwnV rfl MM MM (by rfl) flat3) rfl ?_
  refine RL.qs (Y.neq rfl rfl) rfl (fun g10 => ?_) (fun g10 => ?_)
  ·refine RL.q (Y.move rfl) rfl ?_
   refine RL.no WG rfl ?_
   refine RL.no WG rfl ?_
   refine RL.no WG rfl ?_
   refine RL.no WG rfl ?_
   refine RL.no WG rfl ?_
   refine RL.q (Y.pickT rfl rfl) rfl ?_
   refine RL.q (Y.move rfl) rfl ?_
   refine RL.no WG rfl ?_
   refine RL.no WG rfl ?_
   refine RL.no WG rfl ?_
   refine RL.no WG rfl ?_
   refine RL.no WG rfl ?_
   refine RL.no WG rfl ?_
   refine RL.no WG rfl ?_
   refine RL.q (Y.pickT rfl rfl) rfl ?_
   refine RL.nil ?_
   refine hK3 _ _ _ ?_
   refine CW.kp [2, 3, 26] rfl ?_
   refine CW.yes rfl ?_
   refine CW.seq fun K4 hK4 => ?_
   refine CW.region ?_
   refine RL.q (Y.assign rfl) rfl ?_
   refine RL.nil ?_
   refine hK4 _ _ _ ?_
   refine CW.kp [4] rfl ?_
   refine CW.ret ?_
   exact ⟨_, rfl, Turn.drop ⟨(vbF (fun e => g10 (by first | (rw [e]; done) | fail))), rfl, rfl⟩ SB⟩
  refine RL.q (Y.move rfl) rfl ?_
  refine RL.qg WG (Y.field rfl field31_1) rfl ?_
  refine RL.qg WG (Y.loadAggV [_, _, _] rfl MM MM (by rfl) agg28) rfl ?_
  refine RL.qg WG (Y.field rfl field31_1) rfl ?_
  refine RL.qg WG (Y.loadAggV [_, _, _] rfl MM MM (by rfl) agg28) rfl ?_
  refine RL.qgs WG (id28_neq rfl rfl) rfl (fun g16 => ?_) (fun g16 => ?_)
  ·refine RL.q (Y.pickF rfl rfl) rfl ?_
   refine RL.q (Y.move rfl) rfl ?_
   refine RL.no WG rfl ?_
   refine RL.no WG rfl ?_
   refine RL.no WG rfl ?_
   refine RL.no WG rfl ?_
   refine RL.no WG rfl ?_
   refine RL.no WG rfl ?_
   refine RL.no WG rfl ?_
   refine RL.q (Y.pickT rfl rfl) rfl ?_
   refine RL.nil ?_
   refine hK3 _ _ _ ?_
   refine CW.kp [2, 3, 26] rfl ?_
   refine CW.yes rfl ?_
   refine CW.seq fun K5 hK5 => ?_
   refine CW.region ?_
   refine RL.q (Y.assign rfl) rfl ?_
   refine RL.nil ?_
   refine hK5 _ _ _ ?_
   refine CW.kp [4] rfl ?_
   refine CW.ret ?_
   exact ⟨_, rfl, Turn.drop ⟨(vbF (fun e => g16 (by first | (rw [e]; done) | fail))), rfl, rfl⟩ SB⟩
  refine RL.q (Y.pickF rfl rfl) rfl ?_
  refine RL.q (Y.move rfl) rfl ?_
  refine RL.qg WG (Y.field rfl field31_2) rfl ?_
  refine RL.loadOwnSl WG rfl MM MM (by rfl) flat29 rfl fun a20 c20 hu20 hc20 hl20 => ?_
  refine RL.qg WG (Y.len rfl Try.underlying29) rfl ?_
  refine RL.qg WG (Y.field rfl field31_2) rfl ?_
  refine RL.loadOwnSl WG rfl MM MM (by rfl) flat29 rfl fun a23 c23 hu23 hc23 hl23 => ?_
  refine RL.qg WG (Y.len rfl Try.underlying29) rfl ?_
  refine RL.qg WG (Y.neq rfl rfl) rfl ?_
  refine RL.q (Y.pickF rfl rfl) rfl ?_
  refine RL.nil ?_
  refine hK3 _ _ _ ?_
  refine CW.kp [2, 3, 26] rfl ?_
  refine CW.ite rfl (fun h1 => ?_) (fun h1 => ?_)
  ·refine CW.seq fun K6 hK6 => ?_
   refine CW.region ?_
   refine RL.q (Y.assign rfl) rfl ?_
   refine RL.nil ?_
   refine hK6 _ _ _ ?_
   refine CW.kp [4] rfl ?_
   refine CW.ret ?_
   exact ⟨_, rfl, Turn.drop ⟨(vbF (fun e => h1 (by first | (rw [e]; done) | fail))), rfl, rfl⟩ SB⟩
  refine CW.skip ?_
  refine hK2 _ _ _ ?_
  refine CW.seq fun K7 hK7 => ?_
  refine CW.seq fun K8 hK8 => ?_
  refine CW.region ?_
  refine RL.q (Y.assign rfl) rfl ?_
  refine RL.nil ?_
  refine hK8 _ _ _ ?_
  refine CW.kp [2, 3, 5] rfl ?_
  refine CW.block ?_
  -- LOOP 1: live [2, 3, 5] changed [5]
  refine CW.kp [5, 2, 3] rfl ?_
  refine CW.loopF (fun m Lc M1 Γc => ∃ k : Nat, m = a.kids.length - k ∧ k ≤ a.kids.length ∧ Lc = [(5, vint k)] ∧ Γc = [] ∧ M1 = M ∧ a.kids.take k = b.kids.take k) (a.kids.length) [(5, _)] _ rfl rfl ⟨0, rfl, Nat.zero_le _, rfl, rfl, rfl, rfl⟩ ?_
  rintro m Lc M Γc hs ⟨k, rfl, hk, rfl, rfl, rfl, hF0⟩
  refine CW.seq fun K9 hK9 => ?_
  refine CW.seq fun K10 hK10 => ?_
  refine CW.region ?_
  refine RL.q (Y.move rfl) rfl ?_
  refine RL.q (Y.field rfl field31_2) rfl ?_
  refine RL.loadOwnSl rfl rfl MM MM (by rfl) flat29 rfl fun a29 c29 hu29 hc29 hl29 => ?_
  refine RL.q (Y.len rfl Try.underlying29) rfl ?_
  refine RL.q (Y.lss rfl rfl) rfl ?_
  refine RL.nil ?_
  refine hK10 _ _ _ ?_
  refine CW.kp [2, 3, 5, 31] rfl ?_
  refine CW.ite rfl (fun h2 => ?_) (fun h2 => ?_)
  ·have hka : k < a.kids.length := by omega
   have hkb : k < b.kids.length := by omega
   refine CW.skip ?_
   refine hK9 _ _ _ ?_
   refine CW.seq fun K11 hK11 => ?_
   refine CW.block ?_
   refine CW.seq fun K12 hK12 => ?_
   refine CW.regionQ mix KR ?_
   refine QL.q (Y.field rfl field31_2) rfl ?_
   refine QL.loadOwnSl rfl rfl MM MM (by rfl) flat29 rfl fun a35 c35 hu35 hc35 hl35 => ?_
   refine QL.q (Y.move rfl) rfl ?_
   refine QL.q (Y.index _ rfl rfl rfl AO slice29 SM) rfl ?_
   refine QL.loadAgg rfl rfl MM (Eq.trans (flat_take Ty.enc_len _ _ _ (List.getElem?_eq_getElem AO)) (Ty.enc_eq _)) (by rfl) agg31 rfl fun us38 hul38 hur38 => ?_
   refine QL.q (Y.field rfl field31_2) rfl ?_
   refine QL.loadOwnSl rfl rfl MM MM (by rfl) flat29 rfl fun a40 c40 hu40 hc40 hl40 => ?_
   refine QL.q (Y.move rfl) rfl ?_
   refine QL.q (Y.index _ rfl rfl rfl AO slice29 SM) rfl ?_
   refine QL.loadAgg rfl rfl MM (Eq.trans (flat_take Ty.enc_len _ _ _ (List.getElem?_eq_getElem AO)) (Ty.enc_eq _)) (by rfl) agg31 rfl fun us43 hul43 hur43 => ?_
   refine QL.callv rfl func18 rfl rfl (by exact fun _ hC => ih _ (by rw [← hN]; exact Ty.size_kid (List.getElem_mem hka)) _ _ _ a.kids[k] _ b.kids[k] _ rfl (Kn.via hC KK) (Kn.via hC KK)) ?_
   refine QL.q (Y.notD rfl) rfl ?_
   refine QL.nil ?_
   refine hK12 _ _ _ ?_
   refine CW.kp [2, 3, 5, 45] rfl ?_
   refine CW.ite rfl (fun h3 => ?_) (fun h3 => ?_)
   ·refine CW.seq fun K13 hK13 => ?_
    refine CW.region ?_
    refine RL.q (Y.assign rfl) rfl ?_
    refine RL.nil ?_
    refine hK13 _ _ _ ?_
    refine CW.kp [4] rfl ?_
    refine CW.ret ?_
    first | exact ⟨_, rfl, Turn.drop ⟨(vbF (fun e => h3 (by simp [e]))), rfl, rfl⟩ SB⟩
   refine CW.skip ?_
   refine hK11 _ _ _ ?_
   refine CW.region ?_
   refine RL.q (Y.move rfl) rfl ?_
   refine RL.q (Y.add rfl rfl OM) rfl ?_
   refine RL.q (Y.assign rfl) rfl ?_
   refine RL.nil ?_
   refine ⟨a.kids.length - (k + 1), [(5, _)], ?_, (KP [5, 2, 3]), ?_⟩
   · omega
   · exact Turn.drop ⟨[], rfl, hs, k + 1, rfl, by omega, rfl, rfl, rfl, by rw [List.take_succ_eq_append_getElem hka, List.take_succ_eq_append_getElem hkb, hF0, Decidable.not_not.1 h3]⟩ SB
  refine CW.exit ?_
  refine hK7 _ _ _ ?_
  refine CW.seq fun K14 hK14 => ?_
  refine CW.region ?_
  refine RL.q (Y.assign rfl) rfl ?_
  refine RL.nil ?_
  refine hK14 _ _ _ ?_
  refine CW.kp [4] rfl ?_
  refine CW.ret ?_
  first | exact ⟨_, rfl, Turn.drop ⟨(vbT (Ty.ext (Decidable.not_not.1 g10) (Decidable.not_not.1 g16) (take_all_eq hk hF0 OM OM))), rfl, rfl⟩ SB⟩
end Go.Proofs.Ytfgkhhfkodlbpaa
