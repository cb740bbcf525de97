/- THE WALKS, 18: a type made of a number. Printed by m04r.py. -/
import Derived.Test.YtfgkhhfkodlbpaaVq
namespace Go.Proofs.Ytfgkhhfkodlbpaa
open Xe

theorem pick_ok (w0 : World) (M : Mem) (Γ : List As) (n : Int) (q : Int)   (hn : InI n) (hq0 : 0 ≤ q) (hq1 : q ≤ 1000000) :
    CallOk Try.prog w0 M Γ 42 #[vint n, vint q] (Gives M Γ fun M' v => ∃ us, v = .agg us.toArray ∧ RdL M' (pickTy n q).enc us) := by
  obtain ⟨a, ha⟩ : ∃ a, a = around n (4 + 2 * q) := ⟨_, rfl⟩
  have hab := around_lt n (4 + 2 * q) OM
  have hnd := tdiv_InI hn 64 OM
  have hnd1 := hnd
  unfold InI at hnd1
  refine enterCell (f := 42) Try.func42 rfl Try.ntmps42 rfl rfl fun w1 hw1 => ?_
  refine CW.seq fun K1 hK1 => ?_
  refine CW.region ?_
  refine RL.alloc _ zero31 rfl rfl fun b4 => ?_
  refine RL.nil ?_
  refine hK1 _ _ _ ?_
  refine CW.kp [0, 1, 4] rfl ?_
  refine CW.seq fun K2 hK2 => ?_
  refine CW.region ?_
  refine RL.q (Y.move rfl) rfl ?_
  refine RL.q (Y.move rfl) rfl ?_
  refine RL.q (Y.mul rfl rfl OM) rfl ?_
  refine RL.q (Y.add rfl rfl OM) rfl ?_
  refine RL.callv rfl func11 rfl rfl (by exact around_ok _ _ _ _ _ AO AO) ?_
  refine RL.q (Y.assign rfl) rfl ?_
  refine RL.nil ?_
  refine hK2 _ _ _ ?_
  refine CW.kp [0, 4, 5] rfl ?_
  rw [← ha]
  refine CW.seq fun K3 hK3 => ?_
  refine CW.seq fun K4 hK4 => ?_
  refine CW.region ?_
  refine RL.q (Y.move rfl) rfl ?_
  refine RL.q (Y.eql rfl rfl) rfl ?_
  refine RL.nil ?_
  refine hK4 _ _ _ ?_
  refine CW.kp [0, 4, 5, 13] rfl ?_
  refine CW.ite rfl (fun h1 => ?_) (fun h1 => ?_)
  ·refine CW.seq fun K5 hK5 => ?_
   refine CW.region ?_
   refine RL.q (Y.build [_, _, _, _, _] rfl zero31 places31 (by rfl)) rfl ?_
   refine RL.storeAgg _ rfl rfl RP (by rfl) (by first | (simp; done) | simp [IdT.vals]) (by first | (simp [Value.oneCell']; done) | simp [Value.oneCell', IdT.vals]) size31 ?_
   refine RL.nil ?_
   refine hK5 _ _ _ ?_
   refine CW.kp [4] rfl ?_
   refine CW.ret ?_
   have e : pickTy n q = .mk 1 id0 [] := by rw [pickTy, ← ha, if_pos h1]
   exact CellAt.mk rfl MM (by first | rfl | assumption) agg31 (Turn.drop ⟨Sub.refl _, rfl, _, rfl, by rw [e]; exact (by rw [Ty.enc_eq]; exact (by repeat (first | exact RdL.nil _ | refine RdL.cons (by first | exact Rd.i _ | exact Rd.nilS | exact Rd.str _ | assumption) ?_)))⟩ SB)
  refine CW.skip ?_
  refine hK3 _ _ _ ?_
  refine CW.seq fun K6 hK6 => ?_
  refine CW.seq fun K7 hK7 => ?_
  refine CW.region ?_
  refine RL.q (Y.move rfl) rfl ?_
  refine RL.q (Y.eql rfl rfl) rfl ?_
  refine RL.nil ?_
  refine hK7 _ _ _ ?_
  refine CW.kp [0, 4, 5, 16] rfl ?_
  refine CW.ite rfl (fun h2 => ?_) (fun h2 => ?_)
  ·refine CW.seq fun K8 hK8 => ?_
   refine CW.region ?_
   refine RL.q (Y.build [_, _, _, _, _] rfl zero31 places31 (by rfl)) rfl ?_
   refine RL.call rfl func12 rfl rfl (by exact list_ok _ _ _ ty0 _ (by exact Kn.of (by rw [Ty.enc_eq]; exact (by repeat (first | exact RdL.nil _ | refine RdL.cons (by first | exact Rd.i _ | exact Rd.nilS | exact Rd.str _ | assumption) ?_))))) ?_
   rintro v18 M18 _ ⟨hs18, rfl, us18, rfl, hr18⟩
   refine RL.addRds hr18 ?_
   have hul18 : us18.length = 5 := hr18.1.trans (Ty.enc_len _)
   refine RL.storeRds 5 rfl rfl RP MM EL (by first | exact Kn.lenRds MM EL | exact Kn.lenLit rfl) size31 ?_
   refine RL.nil ?_
   refine hK8 _ _ _ ?_
   refine CW.kp [4] rfl ?_
   refine CW.ret ?_
   have e : pickTy n q = listT ty0 := by rw [pickTy, ← ha, if_neg h1, if_pos h2]
   exact CellAt.mk rfl MM (by first | rfl | assumption) agg31 (Turn.drop ⟨hs18, rfl, _, rfl, by rw [e]; exact hr18⟩ SB)
  refine CW.skip ?_
  refine hK6 _ _ _ ?_
  refine CW.seq fun K9 hK9 => ?_
  refine CW.seq fun K10 hK10 => ?_
  refine CW.region ?_
  refine RL.q (Y.move rfl) rfl ?_
  refine RL.q (Y.geq rfl rfl) rfl ?_
  refine RL.nil ?_
  refine hK10 _ _ _ ?_
  refine CW.kp [0, 4, 5, 20] rfl ?_
  refine CW.ite rfl (fun h3 => ?_) (fun h3 => ?_)
  ·have htd : (a - 4).tdiv 2 = (a - 4) / 2 := Int.tdiv_eq_ediv_of_nonneg OM
   refine CW.seq fun K11 hK11 => ?_
   refine CW.region ?_
   refine RL.q (Y.move rfl) rfl ?_
   refine RL.q (Y.sub rfl rfl OM) rfl ?_
   refine RL.q (Y.quo rfl rfl OM OM) rfl ?_
   refine RL.q (Y.add rfl rfl OM) rfl ?_
   refine RL.callv rfl func14 rfl rfl (by exact id_ok _ _ _ _ AO AO) ?_
   refine RL.callv rfl func13 rfl rfl (by exact of_ok _ _ _ _) ?_
   refine RL.alloc _ zero31 rfl rfl fun b6 => ?_
   refine RL.storeAgg _ rfl rfl RP (by rfl) (by first | (simp; done) | simp [IdT.vals]) (by first | (simp [Value.oneCell']; done) | simp [Value.oneCell', IdT.vals]) size31 ?_
   refine RL.nil ?_
   refine hK11 _ _ _ ?_
   refine CW.kp [0, 4, 6] rfl ?_
   refine CW.seq fun K12 hK12 => ?_
   refine CW.seq fun K13 hK13 => ?_
   refine CW.region ?_
   refine RL.q (Y.move rfl) rfl ?_
   refine RL.q (Y.quo rfl rfl OM OM) rfl ?_
   refine RL.callv rfl func11 rfl rfl (by exact around_ok _ _ _ _ _ AO AO) ?_
   refine RL.q (Y.eql rfl rfl) rfl ?_
   refine RL.nil ?_
   refine hK13 _ _ _ ?_
   refine CW.kp [4, 6, 30] rfl ?_
   refine CW.ite rfl (fun h4 => ?_) (fun h4 => ?_)
   ·refine CW.seq fun K14 hK14 => ?_
    refine CW.region ?_
    refine RL.q (Y.loadAll rfl MM (by rfl) agg31) rfl ?_
    refine RL.call rfl func12 rfl rfl (by exact list_ok _ _ _ (ofT (idK (1 + (a - 4).tdiv 2))) _ (by exact Kn.of (by rw [Ty.enc_eq]; exact (by repeat (first | exact RdL.nil _ | refine RdL.cons (by first | exact Rd.i _ | exact Rd.nilS | exact Rd.str _ | assumption) ?_))))) ?_
    rintro v32 M32 _ ⟨hs32, rfl, us32, rfl, hr32⟩
    refine RL.addRds hr32 ?_
    have hul32 : us32.length = 5 := hr32.1.trans (Ty.enc_len _)
    refine RL.storeRds 5 rfl rfl RP MM EL (by first | exact Kn.lenRds MM EL | exact Kn.lenLit rfl) size31 ?_
    refine RL.nil ?_
    refine hK14 _ _ _ ?_
    refine CW.kp [4] rfl ?_
    refine CW.ret ?_
    have e : pickTy n q = listT (ofT (idK (1 + (a - 4).tdiv 2))) := by rw [pickTy, ← ha, if_neg h1, if_neg h2, if_pos h3, if_pos h4]
    exact CellAt.mk rfl MM (by first | rfl | assumption) agg31 (Turn.drop ⟨hs32, rfl, _, rfl, by rw [e]; exact hr32⟩ SB)
   refine CW.skip ?_
   refine hK12 _ _ _ ?_
   refine CW.seq fun K15 hK15 => ?_
   refine CW.region ?_
   refine RL.q (Y.loadAll rfl MM (by rfl) agg31) rfl ?_
   refine RL.storeAgg _ rfl rfl RP (by rfl) (by first | (simp; done) | simp [IdT.vals]) (by first | (simp [Value.oneCell']; done) | simp [Value.oneCell', IdT.vals]) size31 ?_
   refine RL.nil ?_
   refine hK15 _ _ _ ?_
   refine CW.kp [4] rfl ?_
   refine CW.ret ?_
   have e : pickTy n q = ofT (idK (1 + (a - 4).tdiv 2)) := by rw [pickTy, ← ha, if_neg h1, if_neg h2, if_pos h3, if_neg h4]
   exact CellAt.mk rfl MM (by first | rfl | assumption) agg31 (Turn.drop ⟨Sub.refl _, rfl, _, rfl, by rw [e]; exact (by rw [Ty.enc_eq]; exact (by repeat (first | exact RdL.nil _ | refine RdL.cons (by first | exact Rd.i _ | exact Rd.nilS | exact Rd.str _ | assumption) ?_)))⟩ SB)
  refine CW.skip ?_
  refine hK9 _ _ _ ?_
  refine CW.seq fun K16 hK16 => ?_
  refine CW.region ?_
  refine RL.q (Y.build [_, _, _, _, _] rfl zero31 places31 (by rfl)) rfl ?_
  refine RL.storeAgg _ rfl rfl RP (by rfl) (by first | (simp; done) | simp [IdT.vals]) (by first | (simp [Value.oneCell']; done) | simp [Value.oneCell', IdT.vals]) size31 ?_
  refine RL.nil ?_
  refine hK16 _ _ _ ?_
  refine CW.kp [4] rfl ?_
  refine CW.ret ?_
  have e : pickTy n q = ty0 := by rw [pickTy, ← ha, if_neg h1, if_neg h2, if_neg h3]
  exact CellAt.mk rfl MM (by first | rfl | assumption) agg31 (Turn.drop ⟨Sub.refl _, rfl, _, rfl, by rw [e]; exact (by rw [Ty.enc_eq]; exact (by repeat (first | exact RdL.nil _ | refine RdL.cons (by first | exact Rd.i _ | exact Rd.nilS | exact Rd.str _ | assumption) ?_)))⟩ SB)
end Go.Proofs.Ytfgkhhfkodlbpaa
