/- THE WALKS, 2: types. Printed by m04b.py. -/
import Derived.Test.YtfgkhhfkodlbpaaVa
namespace Go.Proofs.Ytfgkhhfkodlbpaa
open Xe

theorem validType_ok (w0 : World) (M : Mem) (Γ : List As) (p : ProgT) (usp : List Value) (t : Ty) (ust : List Value)  (hp : Kn w0 M Γ (RdL M p.enc usp)) (ht : Kn w0 M Γ (RdL M t.enc ust))  :
    CallOk Try.prog w0 M Γ 15 #[.agg usp.toArray, .agg ust.toArray] (Is M Γ (.bool (decide (validT p t)))) := by
  refine CallOk.kn hp fun hp => ?_
  rw [ProgT.enc_eq] at hp
  refine CallOk.kn ht fun ht => ?_
  rw [Ty.enc_eq] at ht
  refine enter (f := 15) Try.func15 rfl Try.ntmps15 rfl rfl fun w1 hw1 => ?_
  refine CW.addRds hp ?_
  refine CW.addRds ht ?_
  refine CW.seq fun K1 hK1 => ?_
  refine CW.region ?_
  refine RL.box _ rfl rfl rfl fun b2 => ?_
  refine RL.box _ rfl rfl rfl fun b3 => ?_
  refine RL.q (Y.assign rfl) rfl ?_
  refine RL.nil ?_
  refine hK1 _ _ _ ?_
  refine CW.kp [2, 3] rfl ?_
  refine CW.seq fun K2 hK2 => ?_
  refine CW.seq fun K3 hK3 => ?_
  refine CW.region ?_
  refine RL.q (Y.assign rfl) rfl ?_
  refine RL.nil ?_
  refine hK3 _ _ _ ?_
  refine CW.kp [2, 3, 5] rfl ?_
  refine CW.block ?_
  -- LOOP 1: live [2, 3, 5] changed [5]
  refine CW.kp [5, 2, 3] rfl ?_
  refine CW.front (x := .own b3 31 ust) PK ?_
  refine CW.addRds ht ?_
  refine CW.loopF (fun m Lc M1 Γc => ∃ (k : Nat) (t1 : Ty) (us1 : List Value), m = 24 - k ∧ k ≤ 24 ∧ Lc = [(5, vint ((k : Int) + 1))] ∧ Γc = [.rds [dint t1.kind, dint t1.df.shop, dint t1.df.seq, dint t1.df.index, .sl t1.kids.length 5 (t1.kids.flatMap Ty.enc)] us1, .own b3 31 us1] ∧ M1 = M ∧ (validT p t ↔ validTF p (24 - k) t1 = true)) 24 [(5, _)] [_, _] rfl rfl ⟨0, t, ust, rfl, by omega, rfl, rfl, rfl, Iff.rfl⟩ ?_
  rintro m Lc M Γc hs ⟨k, t1, us1, rfl, hk, rfl, rfl, rfl, hF⟩
  refine CW.seq fun K4 hK4 => ?_
  refine CW.seq fun K5 hK5 => ?_
  refine CW.region ?_
  refine RL.q (Y.move rfl) rfl ?_
  refine RL.q (Y.leq rfl rfl) rfl ?_
  refine RL.nil ?_
  refine hK5 _ _ _ ?_
  refine CW.kp [2, 3, 5, 9] rfl ?_
  refine CW.ite rfl (fun h1 => ?_) (fun h1 => ?_)
  ·obtain ⟨n, hn⟩ : ∃ n, 24 - k = n + 1 := ⟨23 - k, by omega⟩
   have hn2 : 24 - (k + 1) = n := by omega
   rw [hn] at hF
   refine CW.skip ?_
   refine hK4 _ _ _ ?_
   refine CW.seq fun K6 hK6 => ?_
   refine CW.block ?_
   refine CW.seq fun K7 hK7 => ?_
   refine CW.region ?_
   refine RL.q (Y.field rfl field31_0) rfl ?_
   refine RL.q (Y.loadOwnV rfl MM MM (by rfl) flat3) rfl ?_
   refine RL.nil ?_
   refine hK7 _ _ _ ?_
   refine CW.kp [2, 3, 5, 13] rfl ?_
   refine CW.block ?_
   refine CW.seq fun K8 hK8 => ?_
   refine CW.seq fun K9 hK9 => ?_
   refine CW.region ?_
   refine RL.q (Y.eql rfl rfl) rfl ?_
   refine RL.q (Y.assign rfl) rfl ?_
   refine RL.nil ?_
   refine hK9 _ _ _ ?_
   refine CW.kp [2, 3, 5, 13, 14] rfl ?_
   refine CW.ite rfl (fun h2 => ?_) (fun h2 => ?_)
   ·refine CW.skip ?_
    refine hK8 _ _ _ ?_
    refine CW.ite rfl (fun h3 => ?_) (fun h3 => absurd h2 h3)
    refine CW.seq fun K10 hK10 => ?_
    refine CW.region ?_
    refine RL.q (Y.field rfl field31_1) rfl ?_
    refine RL.q (Y.loadAggV [_, _, _] rfl MM MM (by rfl) agg28) rfl ?_
    refine RL.q (Y.build [_, _, _] rfl zero28 places28 (by rfl)) rfl ?_
    refine RL.qs (id28_eql rfl rfl) rfl (fun g20 => ?_) (fun g20 => ?_)
    ·refine RL.q (Y.move rfl) rfl ?_
     refine RL.qg WG (Y.field rfl field31_2) rfl ?_
     refine RL.loadOwnSl WG rfl MM MM (by rfl) flat29 rfl fun a23 c23 hu23 hc23 hl23 => ?_
     refine RL.qg WG (Y.len rfl Try.underlying29) rfl ?_
     refine RL.qg WG (Y.eql rfl rfl) rfl ?_
     refine RL.q (Y.pickT rfl rfl) rfl ?_
     refine RL.q (Y.assign rfl) rfl ?_
     refine RL.nil ?_
     refine hK10 _ _ _ ?_
     refine CW.kp [4] rfl ?_
     refine CW.ret ?_
     exact ⟨_, rfl, Turn.drop ⟨(vb (Iff.trans ⟨fun h => ⟨by omega, g20, by omega⟩, fun h => by have := h.1; omega⟩ (hF.trans (validTF_one OM OM)).symm)), rfl, rfl⟩ SB⟩
    refine RL.q (Y.move rfl) rfl ?_
    refine RL.no WG rfl ?_
    refine RL.no WG rfl ?_
    refine RL.no WG rfl ?_
    refine RL.no WG rfl ?_
    refine RL.q (Y.pickF rfl rfl) rfl ?_
    refine RL.q (Y.assign rfl) rfl ?_
    refine RL.nil ?_
    refine hK10 _ _ _ ?_
    refine CW.kp [4] rfl ?_
    refine CW.ret ?_
    exact ⟨_, rfl, Turn.drop ⟨(vbF (fun h => g20 ((validTF_one OM OM).1 (hF.1 h)).2.1)), rfl, rfl⟩ SB⟩
   refine CW.region ?_
   refine RL.q (Y.eql rfl rfl) rfl ?_
   refine RL.q (Y.assign rfl) rfl ?_
   refine RL.nil ?_
   refine hK8 _ _ _ ?_
   refine CW.kp [2, 3, 5, 13, 14] rfl ?_
   refine CW.ite rfl (fun h3 => ?_) (fun h3 => ?_)
   ·refine CW.seq fun K11 hK11 => ?_
    refine CW.region ?_
    refine RL.q (Y.field rfl field31_1) rfl ?_
    refine RL.q (Y.loadAggV [_, _, _] rfl MM MM (by rfl) agg28) rfl ?_
    refine RL.q (Y.build [_, _, _] rfl zero28 places28 (by rfl)) rfl ?_
    refine RL.qs (id28_eql rfl rfl) rfl (fun g20 => ?_) (fun g20 => ?_)
    ·refine RL.q (Y.move rfl) rfl ?_
     refine RL.qg WG (Y.field rfl field31_2) rfl ?_
     refine RL.loadOwnSl WG rfl MM MM (by rfl) flat29 rfl fun a23 c23 hu23 hc23 hl23 => ?_
     refine RL.qg WG (Y.len rfl Try.underlying29) rfl ?_
     refine RL.qg WG (Y.eql rfl rfl) rfl ?_
     refine RL.q (Y.pickT rfl rfl) rfl ?_
     refine RL.q (Y.assign rfl) rfl ?_
     refine RL.nil ?_
     refine hK11 _ _ _ ?_
     refine CW.kp [4] rfl ?_
     refine CW.ret ?_
     exact ⟨_, rfl, Turn.drop ⟨(vb (Iff.trans ⟨fun h => ⟨by omega, g20, by omega⟩, fun h => by have := h.1; omega⟩ (hF.trans (validTF_one OM OM)).symm)), rfl, rfl⟩ SB⟩
    refine RL.q (Y.move rfl) rfl ?_
    refine RL.no WG rfl ?_
    refine RL.no WG rfl ?_
    refine RL.no WG rfl ?_
    refine RL.no WG rfl ?_
    refine RL.q (Y.pickF rfl rfl) rfl ?_
    refine RL.q (Y.assign rfl) rfl ?_
    refine RL.nil ?_
    refine hK11 _ _ _ ?_
    refine CW.kp [4] rfl ?_
    refine CW.ret ?_
    exact ⟨_, rfl, Turn.drop ⟨(vbF (fun h => g20 ((validTF_one OM OM).1 (hF.1 h)).2.1)), rfl, rfl⟩ SB⟩
   refine CW.seq fun K12 hK12 => ?_
   refine CW.region ?_
   refine RL.q (Y.eql rfl rfl) rfl ?_
   refine RL.q (Y.assign rfl) rfl ?_
   refine RL.nil ?_
   refine hK12 _ _ _ ?_
   refine CW.kp [2, 3, 5, 13, 27] rfl ?_
   refine CW.ite rfl (fun h4 => ?_) (fun h4 => ?_)
   ·refine CW.seq fun K13 hK13 => ?_
    refine CW.region ?_
    refine RL.q (Y.loadAllR rfl MM MM EL agg26) rfl ?_
    refine RL.q (Y.field rfl field31_1) rfl ?_
    refine RL.q (Y.loadAggV [_, _, _] rfl MM MM (by rfl) agg28) rfl ?_
    refine RL.call rfl func19 rfl rfl (by exact def_ok _ _ _ _ _ _ KK) ?_
    rintro v33 M _ ⟨rfl, rfl, us33, rfl, hr33⟩
    refine RL.addRds hr33 ?_
    refine RL.q (Y.move rfl) rfl ?_
    refine RL.q (Y.extract rfl rfl) rfl ?_
    refine RL.q (Y.extract rfl rfl) rfl ?_
    refine RL.alloc _ zero46 rfl rfl fun b6 => ?_
    refine RL.storeRds 31 rfl rfl RP MM EL (by first | exact Kn.lenRds MM EL | exact Kn.lenLit rfl) size46 ?_
    refine RL.q (Y.assign rfl) rfl ?_
    refine RL.nil ?_
    refine hK13 _ _ _ ?_
    refine CW.kp [3, 6, 7] rfl ?_
    refine CW.seq fun K14 hK14 => ?_
    refine CW.region ?_
    refine RL.qs (Y.move rfl) rfl (fun g36 => ?_) (fun g36 => ?_)
    ·refine RL.q (Y.move rfl) rfl ?_
     refine RL.qg WG (Y.field rfl field46_1) rfl ?_
     refine RL.qg WG (Y.loadOwnV rfl MM MM (by rfl) flat3) rfl ?_
     refine RL.qgs WG (Y.eql rfl rfl) rfl (fun g40 => ?_) (fun g40 => ?_)
     ·refine RL.qg WG (Y.move rfl) rfl ?_
      refine RL.no WG rfl ?_
      refine RL.no WG rfl ?_
      refine RL.no WG rfl ?_
      refine RL.qg WG (Y.pickT rfl rfl) rfl ?_
      refine RL.q (Y.pickT rfl rfl) rfl ?_
      refine RL.q (Y.move rfl) rfl ?_
      refine RL.qg WG (Y.field rfl field31_2) rfl ?_
      refine RL.loadOwnSl WG rfl MM MM (by rfl) flat29 rfl fun a49 c49 hu49 hc49 hl49 => ?_
      refine RL.qg WG (Y.len rfl Try.underlying29) rfl ?_
      refine RL.qg WG (Y.eql rfl rfl) rfl ?_
      refine RL.q (Y.pickT rfl rfl) rfl ?_
      refine RL.q (Y.assign rfl) rfl ?_
      refine RL.nil ?_
      refine hK14 _ _ _ ?_
      refine CW.kp [4] rfl ?_
      refine CW.ret ?_
      exact ⟨_, rfl, Turn.drop ⟨(vb (Iff.trans ⟨fun h => ⟨⟨g36, by omega⟩, by omega⟩, fun h => by have := h.2; omega⟩ (hF.trans (validTF_def h4)).symm)), rfl, rfl⟩ SB⟩
     refine RL.qg WG (Y.move rfl) rfl ?_
     refine RL.qg WG (Y.field rfl field46_1) rfl ?_
     refine RL.qg WG (Y.loadOwnV rfl MM MM (by rfl) flat3) rfl ?_
     refine RL.qgs WG (Y.eql rfl rfl) rfl (fun g44 => ?_) (fun g44 => ?_)
     ·refine RL.qg WG (Y.pickF rfl rfl) rfl ?_
      refine RL.q (Y.pickT rfl rfl) rfl ?_
      refine RL.q (Y.move rfl) rfl ?_
      refine RL.qg WG (Y.field rfl field31_2) rfl ?_
      refine RL.loadOwnSl WG rfl MM MM (by rfl) flat29 rfl fun a49 c49 hu49 hc49 hl49 => ?_
      refine RL.qg WG (Y.len rfl Try.underlying29) rfl ?_
      refine RL.qg WG (Y.eql rfl rfl) rfl ?_
      refine RL.q (Y.pickT rfl rfl) rfl ?_
      refine RL.q (Y.assign rfl) rfl ?_
      refine RL.nil ?_
      refine hK14 _ _ _ ?_
      refine CW.kp [4] rfl ?_
      refine CW.ret ?_
      exact ⟨_, rfl, Turn.drop ⟨(vb (Iff.trans ⟨fun h => ⟨⟨g36, by omega⟩, by omega⟩, fun h => by have := h.2; omega⟩ (hF.trans (validTF_def h4)).symm)), rfl, rfl⟩ SB⟩
     refine RL.qg WG (Y.pickF rfl rfl) rfl ?_
     refine RL.q (Y.pickT rfl rfl) rfl ?_
     refine RL.q (Y.move rfl) rfl ?_
     refine RL.no WG rfl ?_
     refine RL.no WG rfl ?_
     refine RL.no WG rfl ?_
     refine RL.no WG rfl ?_
     refine RL.q (Y.pickF rfl rfl) rfl ?_
     refine RL.q (Y.assign rfl) rfl ?_
     refine RL.nil ?_
     refine hK14 _ _ _ ?_
     refine CW.kp [4] rfl ?_
     refine CW.ret ?_
     exact ⟨_, rfl, Turn.drop ⟨(vbF (fun h => by have := ((validTF_def h4).1 (hF.1 h)).1.2; omega)), rfl, rfl⟩ SB⟩
    refine RL.q (Y.move rfl) rfl ?_
    refine RL.no WG rfl ?_
    refine RL.no WG rfl ?_
    refine RL.no WG rfl ?_
    refine RL.no WG rfl ?_
    refine RL_noU rfl rfl rfl ?_
    refine RL_noU rfl rfl rfl ?_
    refine RL_noU rfl rfl rfl ?_
    refine RL.no WG rfl ?_
    refine RL.q (Y.pickF rfl rfl) rfl ?_
    refine RL.q (Y.move rfl) rfl ?_
    refine RL.no WG rfl ?_
    refine RL.no WG rfl ?_
    refine RL.no WG rfl ?_
    refine RL.no WG rfl ?_
    refine RL.q (Y.pickF rfl rfl) rfl ?_
    refine RL.q (Y.assign rfl) rfl ?_
    refine RL.nil ?_
    refine hK14 _ _ _ ?_
    refine CW.kp [4] rfl ?_
    refine CW.ret ?_
    exact ⟨_, rfl, Turn.drop ⟨(vbF (fun h => g36 ((validTF_def h4).1 (hF.1 h)).1.1)), rfl, rfl⟩ SB⟩
   refine CW.seq fun K15 hK15 => ?_
   refine CW.region ?_
   refine RL.q (Y.eql rfl rfl) rfl ?_
   refine RL.q (Y.assign rfl) rfl ?_
   refine RL.nil ?_
   refine hK15 _ _ _ ?_
   refine CW.kp [2, 3, 5, 53] rfl ?_
   refine CW.ite rfl (fun h5 => ?_) (fun h5 => ?_)
   ·refine CW.seq fun K16 hK16 => ?_
    refine CW.seq fun K17 hK17 => ?_
    refine CW.region ?_
    refine RL.q (Y.field rfl field31_1) rfl ?_
    refine RL.q (Y.loadAggV [_, _, _] rfl MM MM (by rfl) agg28) rfl ?_
    refine RL.q (Y.build [_, _, _] rfl zero28 places28 (by rfl)) rfl ?_
    refine RL.qs (id28_neq rfl rfl) rfl (fun g58 => ?_) (fun g58 => ?_)
    ·refine RL.q (Y.move rfl) rfl ?_
     refine RL.no WG rfl ?_
     refine RL.no WG rfl ?_
     refine RL.no WG rfl ?_
     refine RL.no WG rfl ?_
     refine RL.q (Y.pickT rfl rfl) rfl ?_
     refine RL.nil ?_
     refine hK17 _ _ _ ?_
     refine CW.kp [2, 3, 5, 64] rfl ?_
     refine CW.yes rfl ?_
     refine CW.seq fun K18 hK18 => ?_
     refine CW.region ?_
     refine RL.q (Y.assign rfl) rfl ?_
     refine RL.nil ?_
     refine hK18 _ _ _ ?_
     refine CW.kp [4] rfl ?_
     refine CW.ret ?_
     exact ⟨_, rfl, Turn.drop ⟨(vbF (fun h => g58 (validTF_kids h5 (hF.1 h)).1)), rfl, rfl⟩ SB⟩
    refine RL.q (Y.move rfl) rfl ?_
    refine RL.qg WG (Y.field rfl field31_2) rfl ?_
    refine RL.loadOwnSl WG rfl MM MM (by rfl) flat29 rfl fun a61 c61 hu61 hc61 hl61 => ?_
    refine RL.qg WG (Y.len rfl Try.underlying29) rfl ?_
    refine RL.qg WG (Y.neq rfl rfl) rfl ?_
    refine RL.q (Y.pickF rfl rfl) rfl ?_
    refine RL.nil ?_
    refine hK17 _ _ _ ?_
    refine CW.kp [2, 3, 5, 64] rfl ?_
    refine CW.ite rfl (fun h6 => ?_) (fun h6 => ?_)
    ·refine CW.seq fun K19 hK19 => ?_
     refine CW.region ?_
     refine RL.q (Y.assign rfl) rfl ?_
     refine RL.nil ?_
     refine hK19 _ _ _ ?_
     refine CW.kp [4] rfl ?_
     refine CW.ret ?_
     exact ⟨_, rfl, Turn.drop ⟨(vbF (fun h => by have := (validTF_kids h5 (hF.1 h)).2; omega)), rfl, rfl⟩ SB⟩
    refine CW.skip ?_
    refine hK16 _ _ _ ?_
    have hd1 : t1.df = id0 := Decidable.not_not.1 g58
    have hd2 : t1.kids.length = 1 := by omega
    refine CW.region ?_
    refine RL.q (Y.field rfl field31_2) rfl ?_
    refine RL.loadOwnSl rfl rfl MM MM (by rfl) flat29 rfl fun a66 c66 hu66 hc66 hl66 => ?_
    refine RL.q (Y.index 0 rfl rfl rfl AO slice29 SM) rfl ?_
    refine RL.loadAgg rfl rfl MM (Eq.trans (flat_take Ty.enc_len _ _ _ (List.getElem?_eq_getElem AO)) (Ty.enc_eq _)) (by rfl) agg31 rfl fun us68 hul68 hur68 => ?_
    refine RL.storeRds 5 rfl rfl RP MM EL (by first | exact Kn.lenRds MM EL | exact Kn.lenLit rfl) size31 ?_
    refine RL.nil ?_
    refine hK6 _ _ _ ?_
    refine CW.kp [2, 3, 5] rfl ?_
    refine CW.region ?_
    refine RL.q (Y.move rfl) rfl ?_
    refine RL.q (Y.add rfl rfl OM) rfl ?_
    refine RL.q (Y.assign rfl) rfl ?_
    refine RL.nil ?_
    refine ⟨24 - (k + 1), [(5, _)], ?_, (KP [5, 2, 3]), ?_⟩
    · omega
    · exact Turn.drop ⟨[_, _], rfl, hs, k + 1, t1.kids[0], us68, rfl, by omega, rfl, rfl, rfl, hF.trans (by rw [hn2]; exact validTF_kid h5 hd1 hd2)⟩ SB
   refine CW.seq fun K20 hK20 => ?_
   refine CW.region ?_
   refine RL.q (Y.assign rfl) rfl ?_
   refine RL.nil ?_
   refine hK20 _ _ _ ?_
   refine CW.kp [4] rfl ?_
   refine CW.ret ?_
   first | exact ⟨_, rfl, Turn.drop ⟨(vbF (fun h => by have := ((validTF_one OM OM).1 (hF.1 h)).2.2; omega)), rfl, rfl⟩ SB⟩
  refine CW.exit ?_
  refine hK2 _ _ _ ?_
  refine CW.seq fun K21 hK21 => ?_
  refine CW.region ?_
  refine RL.q (Y.assign rfl) rfl ?_
  refine RL.nil ?_
  refine hK21 _ _ _ ?_
  refine CW.kp [4] rfl ?_
  refine CW.ret ?_
  first | exact ⟨_, rfl, Turn.drop ⟨(vbF (fun h => by have := hF.1 h; rw [show 24 - k = 0 by omega] at this; cases this)), rfl, rfl⟩ SB⟩
end Go.Proofs.Ytfgkhhfkodlbpaa
