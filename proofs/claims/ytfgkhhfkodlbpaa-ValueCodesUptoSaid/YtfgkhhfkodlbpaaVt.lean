/- THE WALKS, 20: the small program of a program. Printed by m04t.py. -/
import Derived.Test.YtfgkhhfkodlbpaaVs
import Derived.Test.YtfgkhhfkodlbpaaPureA
namespace Go.Proofs.Ytfgkhhfkodlbpaa
open Xe

theorem few_ok (w0 : World) (M : Mem) (Γ : List As) (p : ProgT) (usp : List Value)  (hp : Kn w0 M Γ (RdL M p.enc usp))  :
    CallOk Try.prog w0 M Γ 10 #[.agg usp.toArray] (Gives M Γ fun M' v => ∃ us, v = .agg us.toArray ∧ RdL M' (fewP p).enc us) := by
  refine CallOk.kn hp fun hp => ?_
  rw [ProgT.enc_eq] at hp
  refine enterCell (f := 10) Try.func10 rfl Try.ntmps10 rfl rfl fun w1 hw1 => ?_
  refine CW.addRds hp ?_
  refine CW.seq fun K1 hK1 => ?_
  refine CW.region ?_
  refine RL.box _ rfl rfl rfl fun b1 => ?_
  refine RL.alloc _ zero26 rfl rfl fun b2 => ?_
  refine RL.nil ?_
  refine hK1 _ _ _ ?_
  refine CW.kp [1, 2] rfl ?_
  refine CW.seq fun K2 hK2 => ?_
  refine CW.region ?_
  refine RL.alloc _ zero26 rfl rfl fun b3 => ?_
  refine RL.nil ?_
  refine hK2 _ _ _ ?_
  refine CW.kp [1, 2, 3] rfl ?_
  refine CW.seq fun K3 hK3 => ?_
  refine CW.seq fun K4 hK4 => ?_
  refine CW.region ?_
  refine RL.q (Y.assign rfl) rfl ?_
  refine RL.nil ?_
  refine hK4 _ _ _ ?_
  refine CW.kp [1, 2, 3, 4] rfl ?_
  refine CW.block ?_
  -- LOOP 1: live [1, 2, 3, 4] changed [4]
  refine CW.kp [4, 1, 2, 3] rfl ?_
  refine CW.front (x := .own b3 26 [.slice none 0 0, .slice none 0 0]) PK ?_
  refine CW.accNil 46 31 ?_
  refine CW.addRds (RdL.nil _) ?_
  refine CW.loopF (fun m Lc M1 Γc => ∃ (k : Nat) (ua : Option Addr) (ca : Nat) (us : List Value), m = 6 - k ∧ k ≤ 6 ∧ k ≤ p.defs.length ∧ Lc = [(4, vint k)] ∧ Γc = [.rds (((p.defs.take k).map fewD).flatMap DefT.enc) us, .acc (.slice ua k ca) 46 31 k us, .own b3 26 [.slice none 0 0, .slice ua k ca]]) 6 [(4, _)] [_, _, _] rfl rfl ⟨0, none, 0, [], rfl, Nat.zero_le _, Nat.zero_le _, rfl, by simp⟩ ?_
  rintro m Lc M1 Γc hs ⟨k, ua, ca, us, rfl, hk6, hk, rfl, rfl⟩
  refine CW.seq fun K5 hK5 => ?_
  refine CW.seq fun K6 hK6 => ?_
  refine CW.region ?_
  refine RL.q (Y.move rfl) rfl ?_
  refine RL.q (Y.field rfl field26_1) rfl ?_
  refine RL.loadOwnSl rfl rfl MM MM (by rfl) flat24 rfl fun a8 c8 hu8 hc8 hl8 => ?_
  refine RL.q (Y.len rfl Try.underlying24) rfl ?_
  refine RL.qs (Y.lss rfl rfl) rfl (fun g10 => ?_) (fun g10 => ?_)
  ·refine RL.q (Y.move rfl) rfl ?_
   refine RL.qg WG (Y.move rfl) rfl ?_
   refine RL.qg WG (Y.lss rfl rfl) rfl ?_
   refine RL.q (Y.pickT rfl rfl) rfl ?_
   refine RL.nil ?_
   refine hK6 _ _ _ ?_
   refine CW.kp [1, 2, 3, 4, 14] rfl ?_
   refine CW.ite rfl (fun h1 => ?_) (fun h1 => ?_)
   ·have hka : k < p.defs.length := by omega
    have hk5 : k < 6 := by omega
    refine CW.skip ?_
    refine hK5 _ _ _ ?_
    refine CW.seq fun K7 hK7 => ?_
    refine CW.block ?_
    refine CW.seq fun K8 hK8 => ?_
    refine CW.region ?_
    refine RL.q (Y.field rfl field26_1) rfl ?_
    refine RL.loadOwnSl rfl rfl MM MM (by rfl) flat24 rfl fun a18 c18 hu18 hc18 hl18 => ?_
    refine RL.q (Y.move rfl) rfl ?_
    refine RL.q (Y.index _ rfl rfl rfl AO slice24 SM) rfl ?_
    refine RL.loadAgg rfl rfl MM (Eq.trans (flat_take DefT.enc_len _ _ _ (List.getElem?_eq_getElem AO)) (DefT.enc_eq _)) (by rfl) agg46 rfl fun us21 hul21 hur21 => ?_
    refine RL.alloc _ zero46 rfl rfl fun b5 => ?_
    refine RL.storeRds 31 rfl rfl RP MM EL (by first | exact Kn.lenRds MM EL | exact Kn.lenLit rfl) size46 ?_
    refine RL.nil ?_
    refine hK8 _ _ _ ?_
    refine CW.kp [1, 2, 3, 4, 5] rfl ?_
    rw [← DefT.enc_eq] at hur21
    obtain ⟨u8, u13, u26, u27, u28, u30, rfl, hu8, hu13, hu26, hu27, hu28, hu30⟩ := DefT.open hur21
    obtain ⟨a8, c8, rfl, hc8, hlim8, hlen8⟩ := hu8.slice
    refine CW.seq fun K9 hK9 => ?_
    refine CW.seq fun K10 hK10 => ?_
    refine CW.region ?_
    refine RL.q (Y.field rfl field46_4) rfl ?_
    refine RL.q (Y.loadOwn rfl MM (by rfl) flat40) rfl ?_
    refine RL.q (Y.len rfl Try.underlying40) rfl ?_
    refine RL.q (Y.gtr rfl rfl) rfl ?_
    refine RL.nil ?_
    refine hK10 _ _ _ ?_
    refine CW.kp [1, 2, 3, 4, 5, 25] rfl ?_
    refine CW.ite rfl (fun h2 => ?_) (fun h2 => ?_)
    ·refine CW.region ?_
     refine RL.q (Y.field rfl field46_4) rfl ?_
     refine RL.q (Y.loadOwn rfl MM (by rfl) flat40) rfl ?_
     refine RL.q (Y.slice0 4 c8 rfl ⟨_, rfl, (by rfl)⟩ rfl (by simp) OM OM slice40) rfl ?_
     refine RL.q (Y.field rfl field46_4) rfl ?_
     refine RL.store _ rfl rfl RP (by rfl) (by exact Nat.le_of_ble_eq_true rfl) (by rfl) size40 ?_
     refine RL.nil ?_
     refine hK9 _ _ _ ?_
     refine CW.kp [1, 2, 3, 4, 5] rfl ?_
     have hu8t := Rd.takeN SlotT.enc_len hu8 4 OM
     rw [show (p.defs[k]).slots.take 4 = (fewD p.defs[k]).slots from rfl] at hu8t
     have e4 : (fewD p.defs[k]).slots.length = 4 := by simp only [fewD, List.length_take]; omega
     have hnew := DefT.close (fewD p.defs[k]) hu8t hu13 hu26 hu27 hu28 hu30
     rw [e4] at hnew
     refine CW.region ?_
     refine RL.q (Y.field rfl field26_1) rfl ?_
     refine RL.q (Y.loadOwn rfl MM (by rfl) flat24) rfl ?_
     refine RL.q (Y.loadAll rfl MM (by rfl) agg46) rfl ?_
     refine RL.buildSlice _ elem24 rfl (by decide) (fill1 rfl (by rfl)) rfl fun b33 => ?_
     refine RL.append elem24 rfl rfl PK (SrcOk.own (sz := 31) (m := 1) MM (by rfl) hnew.one) OM (by unfold lim; omega) rfl fun a34 c34 hc34 => ?_
     refine RL.q (Y.field rfl field26_1) rfl ?_
     refine RL.store _ rfl rfl RP (by rfl) (by simp) (by rfl) size24 ?_
     refine RL.nil ?_
     refine hK7 _ _ _ ?_
     refine CW.kp [1, 2, 3, 4] rfl ?_
     refine CW.region ?_
     refine RL.q (Y.move rfl) rfl ?_
     refine RL.q (Y.add rfl rfl OM) rfl ?_
     refine RL.q (Y.assign rfl) rfl ?_
     refine RL.nil ?_
     refine ⟨6 - (k + 1), [(4, _)], ?_, (KP [4, 1, 2, 3]), ?_⟩
     · omega
     · refine Turn.kn (Kn.rds (ds := ((p.defs.take k).map fewD).flatMap DefT.enc) (us := us) MM) fun hrd => ?_
       refine Turn.front (x := .own b3 26 _) PK ?_
       refine Turn.front (x := .acc (.slice a34 (k + 1) c34) 46 31 (k + 1) _) PK ?_
       refine Turn.addRds (hrd.append hnew) ?_
       exact Turn.drop ⟨[_, _, _], rfl, hs, k + 1, a34, c34, _, rfl, by omega, by omega, rfl, by rw [fewD_enc_at hka]⟩ SB
    have e4 : fewD p.defs[k] = p.defs[k] := by unfold fewD; rw [List.take_of_length_le OM]
    have hnew : RdL M1 (fewD p.defs[k]).enc ((p.defs[k]).vs (.slice a8 (p.defs[k]).slots.length c8) u13 u26 u27 u28 u30) := by rw [e4]; exact DefT.close p.defs[k] hu8 hu13 hu26 hu27 hu28 hu30
    refine CW.skip ?_
    refine hK9 _ _ _ ?_
    refine CW.region ?_
    refine RL.q (Y.field rfl field26_1) rfl ?_
    refine RL.q (Y.loadOwn rfl MM (by rfl) flat24) rfl ?_
    refine RL.q (Y.loadAllR rfl MM MM EL agg46) rfl ?_
    refine RL.buildSlice _ elem24 rfl (by decide) (fill1 rfl (by rfl)) rfl fun b33 => ?_
    refine RL.append elem24 rfl rfl PK (SrcOk.own (sz := 31) (m := 1) MM (by rfl) hnew.one) OM (by unfold lim; omega) rfl fun a34 c34 hc34 => ?_
    refine RL.q (Y.field rfl field26_1) rfl ?_
    refine RL.store _ rfl rfl RP (by rfl) (by simp) (by rfl) size24 ?_
    refine RL.nil ?_
    refine hK7 _ _ _ ?_
    refine CW.kp [1, 2, 3, 4] rfl ?_
    refine CW.region ?_
    refine RL.q (Y.move rfl) rfl ?_
    refine RL.q (Y.add rfl rfl OM) rfl ?_
    refine RL.q (Y.assign rfl) rfl ?_
    refine RL.nil ?_
    refine ⟨6 - (k + 1), [(4, _)], ?_, (KP [4, 1, 2, 3]), ?_⟩
    · omega
    · refine Turn.kn (Kn.rds (ds := ((p.defs.take k).map fewD).flatMap DefT.enc) (us := us) MM) fun hrd => ?_
      refine Turn.front (x := .own b3 26 _) PK ?_
      refine Turn.front (x := .acc (.slice a34 (k + 1) c34) 46 31 (k + 1) _) PK ?_
      refine Turn.addRds (hrd.append hnew) ?_
      exact Turn.drop ⟨[_, _, _], rfl, hs, k + 1, a34, c34, _, rfl, by omega, by omega, rfl, by rw [fewD_enc_at hka]⟩ SB
   refine CW.exit ?_
   refine hK3 _ _ _ ?_
   refine CW.seq fun K11 hK11 => ?_
   refine CW.region ?_
   refine RL.q (Y.loadAll rfl MM (by rfl) agg26) rfl ?_
   refine RL.storeAgg _ rfl rfl RP (by rfl) (by first | (simp; done) | simp [IdT.vals]) (by first | (simp [Value.oneCell']; done) | simp [Value.oneCell', IdT.vals]) size26 ?_
   refine RL.nil ?_
   refine hK11 _ _ _ ?_
   refine CW.kp [2] rfl ?_
   refine CW.ret ?_
   refine CellAt.mk rfl MM (by rfl) agg26 (Turn.kn (Kn.rds (ds := ((p.defs.take k).map fewD).flatMap DefT.enc) (us := us) MM) fun hrd => ?_)
   have ek : fewP p = ⟨[], (p.defs.take k).map fewD⟩ := by unfold fewP; congr 2; first | (rw [show k = 6 by omega]; done) | (rw [List.take_of_length_le OM, List.take_of_length_le OM]; done)
   have el : ((p.defs.take k).map fewD).length = k := by rw [List.length_map, List.length_take]; omega
   exact Turn.sealAcc (Γ := Γ) (u := .slice ua k ca) PK hrd (by unfold lim; omega) SB fun M2 hs2 hr2 => ⟨hs.trans hs2, rfl, _, rfl, by rw [ek, ProgT.enc_eq]; exact RdL.cons Rd.nilS (RdL.cons (by rw [el]; exact hr2) (RdL.nil _))⟩
  refine RL.q (Y.move rfl) rfl ?_
  refine RL.no WG rfl ?_
  refine RL.no WG rfl ?_
  refine RL.q (Y.pickF rfl rfl) rfl ?_
  refine RL.nil ?_
  refine hK6 _ _ _ ?_
  refine CW.kp [1, 2, 3, 4, 14] rfl ?_
  refine CW.no rfl ?_
  refine CW.exit ?_
  refine hK3 _ _ _ ?_
  refine CW.seq fun K12 hK12 => ?_
  refine CW.region ?_
  refine RL.q (Y.loadAll rfl MM (by rfl) agg26) rfl ?_
  refine RL.storeAgg _ rfl rfl RP (by rfl) (by first | (simp; done) | simp [IdT.vals]) (by first | (simp [Value.oneCell']; done) | simp [Value.oneCell', IdT.vals]) size26 ?_
  refine RL.nil ?_
  refine hK12 _ _ _ ?_
  refine CW.kp [2] rfl ?_
  refine CW.ret ?_
  refine CellAt.mk rfl MM (by rfl) agg26 (Turn.kn (Kn.rds (ds := ((p.defs.take k).map fewD).flatMap DefT.enc) (us := us) MM) fun hrd => ?_)
  have ek : fewP p = ⟨[], (p.defs.take k).map fewD⟩ := by unfold fewP; congr 2; first | (rw [show k = 6 by omega]; done) | (rw [List.take_of_length_le OM, List.take_of_length_le OM]; done)
  have el : ((p.defs.take k).map fewD).length = k := by rw [List.length_map, List.length_take]; omega
  exact Turn.sealAcc (Γ := Γ) (u := .slice ua k ca) PK hrd (by unfold lim; omega) SB fun M2 hs2 hr2 => ⟨hs.trans hs2, rfl, _, rfl, by rw [ek, ProgT.enc_eq]; exact RdL.cons Rd.nilS (RdL.cons (by rw [el]; exact hr2) (RdL.nil _))⟩
end Go.Proofs.Ytfgkhhfkodlbpaa
