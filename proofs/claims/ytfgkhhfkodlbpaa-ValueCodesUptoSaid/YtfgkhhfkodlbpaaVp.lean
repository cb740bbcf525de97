/- THE WALKS, 16: reading values, by the program. Printed by m04p.py. -/
import Derived.Test.YtfgkhhfkodlbpaaVo
namespace Go.Proofs.Ytfgkhhfkodlbpaa
open Xe

theorem decode_ok (w0 : World) (M : Mem) (Γ : List As) (b : List Nat) (ub : Value)  (hb : Kn w0 M Γ (Rd M (dbytes b) ub)) (h256 : ∀ x ∈ b, x < 256) :
    CallOk Try.prog w0 M Γ 39 #[ub] (Gives M Γ fun M' v => ∃ us, v = .tuple #[.agg us.toArray, vint (decV b).2.1, vint (decV b).2.2] ∧ RdL M' (decV b).1.enc us) := by
  refine CallOk.kn hb fun hb => ?_
  obtain ⟨ab, cb, rfl, hcb, hlimb, hlenb⟩ := hb.slice
  refine enterCell3 (f := 39) Try.func39 rfl Try.ntmps39 rfl rfl fun w1 hw1 => ?_
  refine CW.addRd hb ?_
  refine CW.seq fun K1 hK1 => ?_
  refine CW.region ?_
  refine RL.box _ rfl rfl rfl fun b1 => ?_
  refine RL.alloc _ zero53 rfl rfl fun b2 => ?_
  refine RL.q (Y.assign rfl) rfl ?_
  refine RL.q (Y.assign rfl) rfl ?_
  refine RL.nil ?_
  refine hK1 _ _ _ ?_
  refine CW.kp [1, 2] rfl ?_
  refine CW.seq fun K2 hK2 => ?_
  refine CW.region ?_
  refine RL.alloc _ zero3 rfl rfl fun b5 => ?_
  refine RL.alloc _ zero3 rfl rfl fun b6 => ?_
  refine RL.store _ rfl rfl RP (by rfl) (by simp) (by rfl) size3 ?_
  refine RL.store _ rfl rfl RP (by rfl) (by simp) (by rfl) size3 ?_
  refine RL.nil ?_
  refine hK2 _ _ _ ?_
  refine CW.kp [1, 2, 5, 6] rfl ?_
  refine CW.seq fun K3 hK3 => ?_
  refine CW.region ?_
  refine RL.alloc _ zero96 rfl rfl fun b7 => ?_
  refine RL.nil ?_
  refine hK3 _ _ _ ?_
  refine CW.kp [1, 2, 5, 6, 7] rfl ?_
  refine CW.seq fun K4 hK4 => ?_
  refine CW.region ?_
  refine RL.q (Y.makeFunc rfl rfl) rfl ?_
  refine RL.store _ rfl rfl RP (by rfl) (by simp) (by rfl) size96 ?_
  refine RL.nil ?_
  refine hK4 _ _ _ ?_
  refine CW.kp [2, 6, 7] rfl ?_
  refine CW.seq fun K5 hK5 => ?_
  refine CW.region ?_
  refine RL.q (Y.loadOwn rfl MM (by rfl) flat96) rfl ?_
  refine RL.callf rfl func62 rfl rfl rfl (CallOk.pick (x := .own b1 69 [.slice ab b.length cb]) PK (CallOk.pick (x := .own b7 96 [(.func (.func 62) #[] #[.pointer (some (adr (some ⟨b5, 0, none⟩) 0)), .pointer (some (adr (some ⟨b1, 0, none⟩) 0)), .pointer (some (adr (some ⟨b6, 0, none⟩) 0)), .pointer (some (adr (some ⟨b7, 0, none⟩) 0))])]) PK (CallOk.pick (x := .own b6 3 [vint 0]) PK (CallOk.pick (x := .own b5 3 [vint 256]) PK (dec1_ok 24 _ _ _ b ab cb 1 256 0 b5 b6 b7 b1 rfl OM OM OM OM h256 hb))))) ?_
  rintro v13 M13 _ ⟨hs13, rfl, us13, rfl, hr13⟩
  refine RL.addRds hr13 ?_
  have hul13 : us13.length = 3 := hr13.1.trans (Val.enc_len _)
  refine RL.q (Y.move rfl) rfl ?_
  refine RL.q (Y.extract rfl rfl) rfl ?_
  refine RL.q (Y.extract rfl rfl) rfl ?_
  refine RL.alloc _ zero53 rfl rfl fun b8 => ?_
  refine RL.storeRds 3 rfl rfl RP MM EL (by first | exact Kn.lenRds MM EL | exact Kn.lenLit rfl) size53 ?_
  refine RL.q (Y.assign rfl) rfl ?_
  refine RL.nil ?_
  refine hK5 _ _ _ ?_
  refine CW.kp [2, 6, 8, 9] rfl ?_
  refine CW.seq fun K6 hK6 => ?_
  refine CW.seq fun K7 hK7 => ?_
  refine CW.region ?_
  refine RL.q (Y.move rfl) rfl ?_
  refine RL.q (Y.neq rfl rfl) rfl ?_
  refine RL.nil ?_
  refine hK7 _ _ _ ?_
  refine CW.kp [2, 6, 8, 9, 17] rfl ?_
  refine CW.ite rfl (fun h1 => ?_) (fun h1 => ?_)
  ·refine CW.seq fun K8 hK8 => ?_
   refine CW.region ?_
   refine RL.q (Y.build [_, _, _] rfl zero53 places53 (by rfl)) rfl ?_
   refine RL.q (Y.move rfl) rfl ?_
   refine RL.storeAgg _ rfl rfl RP (by rfl) (by first | (simp; done) | simp [IdT.vals]) (by first | (simp [Value.oneCell']; done) | simp [Value.oneCell', IdT.vals]) size53 ?_
   refine RL.q (Y.assign rfl) rfl ?_
   refine RL.q (Y.assign rfl) rfl ?_
   refine RL.nil ?_
   refine hK8 _ _ _ ?_
   refine CW.kp [2, 3, 4] rfl ?_
   refine CW.ret ?_
   have e : decV b = (v0, 0, (decF b 24 256 0).2.1) := by rw [decV, if_pos h1]
   refine ⟨_, _, rfl, rfl, ?_⟩
   exact CellAt.mk rfl MM (by first | rfl | assumption) agg53 (Turn.drop ⟨hs13, rfl, _, by rw [e], by rw [e]; exact (by rw [Val.enc_eq]; exact (by repeat (first | exact RdL.nil _ | refine RdL.cons (by first | exact Rd.i _ | exact Rd.nilS | exact Rd.str _ | assumption) ?_)))⟩ SB)
  refine CW.skip ?_
  refine hK6 _ _ _ ?_
  refine CW.seq fun K9 hK9 => ?_
  refine CW.regionHP mix (x := .own b2 53 _) PK ?_
  refine HL.take 0 rfl KR KR KR rfl (Y.loadAllR rfl MM MM EL agg53) rfl ?_
  refine HL.take 1 rfl KR KR KR rfl (Y.loadOwn rfl MM (by rfl) flat3) rfl ?_
  refine HL.step 2 rfl KR ?_
  refine RL.storeRds 3 rfl rfl RP MM EL (by first | exact Kn.lenRds MM EL | exact Kn.lenLit rfl) size53 ?_
  refine RL.nil ⟨keep_same SB, ?_⟩
  refine HL.take 3 rfl KR KR KR rfl (Y.assign rfl) rfl ?_
  refine HL.take 4 rfl KR KR KR rfl (Y.assign rfl) rfl ?_
  refine HL.done KR ?_
  refine hK9 _ _ _ ?_
  refine CW.kp [2, 3, 4] rfl ?_
  refine CW.ret ?_
  have e : decV b = ((decF b 24 256 0).1, ((decF b 24 256 0).2.2.2 : Int), 0) := by rw [decV, if_neg h1]
  refine ⟨_, _, rfl, rfl, ?_⟩
  exact CellAt.mk rfl MM (by first | rfl | assumption) agg53 (Turn.drop ⟨hs13, rfl, _, by rw [e], by rw [e]; exact hr13⟩ SB)
end Go.Proofs.Ytfgkhhfkodlbpaa
