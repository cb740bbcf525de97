/- THE WALKS, 19: the small example. Printed by m04s.py. -/
import Derived.Test.YtfgkhhfkodlbpaaVr
import Derived.Test.YtfgkhhfkodlbpaaPureA
namespace Go.Proofs.Ytfgkhhfkodlbpaa
open Xe

theorem example_ok (w0 : World) (M : Mem) (Γ : List As)     :
    CallOk Try.prog w0 M Γ 47 #[] (Gives M Γ fun M' v => ∃ us, v = .agg us.toArray ∧ RdL M' exP.enc us) := by
  refine enterCell (f := 47) Try.func47 rfl Try.ntmps47 rfl rfl fun w1 hw1 => ?_
  refine CW.seq fun K1 hK1 => ?_
  refine CW.region ?_
  refine RL.alloc _ zero26 rfl rfl fun b0 => ?_
  refine RL.nil ?_
  refine hK1 _ _ _ ?_
  refine CW.kp [0] rfl ?_
  refine CW.seq fun K2 hK2 => ?_
  refine CW.region ?_
  refine RL.callv rfl func14 rfl rfl (by exact id_ok _ _ _ _ AO AO) ?_
  refine RL.callv rfl func14 rfl rfl (by exact id_ok _ _ _ _ AO AO) ?_
  refine RL.q (Y.build [_, _, _, _, _, _, _, _, _, _, _] rfl zero66 places66 (by rfl)) rfl ?_
  refine RL.callv rfl func14 rfl rfl (by exact id_ok _ _ _ _ AO AO) ?_
  refine RL.q (Y.build [_, _, _, _, _, _, _, _, _, _, _] rfl zero66 places66 (by rfl)) rfl ?_
  refine RL.buildSlice (slX.vs ++ slY.vs) elem40 rfl (by decide) (fill2 (out := slX.vs) (out' := slY.vs) rfl rfl rfl rfl) rfl fun b8 => ?_
  refine RL.q (Y.build [_, _, _, _, _, _, _, _, _, _, _, _, _, _, _, _, _, _, _, _, _, _, _, _, _, _, _, _, _, _, _] rfl zero46 places46 (by rfl)) rfl ?_
  refine RL.alloc _ zero46 rfl rfl fun b1 => ?_
  refine RL.storeAgg _ rfl rfl RP (by rfl) (by first | (simp; done) | simp [IdT.vals]) (by first | (simp [Value.oneCell']; done) | simp [Value.oneCell', IdT.vals]) size46 ?_
  refine RL.nil ?_
  refine hK2 _ _ _ ?_
  refine CW.kp [0, 1] rfl ?_
  refine CW.sealOwn (b := b8) (k := 2) (sz := 11) (ds := [slX, slY].flatMap SlotT.enc) PK (by simpa using (SlotT.vs_rd slX rfl).append (SlotT.vs_rd slY rfl)) rfl (by unfold lim; omega) fun Mb8 hsb8 hrb8 => ?_
  refine CW.addRd hrb8 ?_
  refine CW.seq fun K3 hK3 => ?_
  refine CW.region ?_
  refine RL.callv rfl func14 rfl rfl (by exact id_ok _ _ _ _ AO AO) ?_
  refine RL.callv rfl func14 rfl rfl (by exact id_ok _ _ _ _ AO AO) ?_
  refine RL.q (Y.build [_, _, _, _, _, _, _, _, _, _, _] rfl zero66 places66 (by rfl)) rfl ?_
  refine RL.callv rfl func14 rfl rfl (by exact id_ok _ _ _ _ AO AO) ?_
  refine RL.callv rfl func14 rfl rfl (by exact id_ok _ _ _ _ AO AO) ?_
  refine RL.callv rfl func13 rfl rfl (by exact of_ok _ _ _ _) ?_
  refine RL.q (Y.build [_, _, _, _, _, _, _, _, _, _, _] rfl zero66 places66 (by rfl)) rfl ?_
  refine RL.buildSlice (slDot.vs ++ slBox.vs) elem40 rfl (by decide) (fill2 (out := slDot.vs) (out' := slBox.vs) rfl rfl rfl rfl) rfl fun b17 => ?_
  refine RL.q (Y.build [_, _, _, _, _, _, _, _, _, _, _, _, _, _, _, _, _, _, _, _, _, _, _, _, _, _, _, _, _, _, _] rfl zero46 places46 (by rfl)) rfl ?_
  refine RL.alloc _ zero46 rfl rfl fun b2 => ?_
  refine RL.storeAgg _ rfl rfl RP (by rfl) (by first | (simp; done) | simp [IdT.vals]) (by first | (simp [Value.oneCell']; done) | simp [Value.oneCell', IdT.vals]) size46 ?_
  refine RL.nil ?_
  refine hK3 _ _ _ ?_
  refine CW.kp [0, 1, 2] rfl ?_
  refine CW.sealOwn (b := b17) (k := 2) (sz := 11) (ds := [slDot, slBox].flatMap SlotT.enc) PK (by simpa using (SlotT.vs_rd slDot rfl).append (SlotT.vs_rd slBox rfl)) rfl (by unfold lim; omega) fun Mb17 hsb17 hrb17 => ?_
  refine CW.addRd hrb17 ?_
  refine CW.seq fun K4 hK4 => ?_
  refine CW.region ?_
  refine RL.q (Y.loadAll rfl MM (by rfl) agg46) rfl ?_
  refine RL.q (Y.loadAll rfl MM (by rfl) agg46) rfl ?_
  refine RL.buildSlice (dvs dPoint.id 0 id0 sPoint (.slice (some ⟨b8, 0, none⟩) 2 2) ++ dvs dShape.id 1 id0 sShape (.slice (some ⟨b17, 0, none⟩) 2 2)) elem24 rfl (by decide) (fill2 (out := dvs dPoint.id 0 id0 sPoint (.slice (some ⟨b8, 0, none⟩) 2 2)) (out' := dvs dShape.id 1 id0 sShape (.slice (some ⟨b17, 0, none⟩) 2 2)) rfl rfl rfl rfl) rfl fun b21 => ?_
  refine RL.q (Y.build [_, _] rfl zero26 places26 (by rfl)) rfl ?_
  refine RL.storeAgg _ rfl rfl RP (by rfl) (by first | (simp; done) | simp [IdT.vals]) (by first | (simp [Value.oneCell']; done) | simp [Value.oneCell', IdT.vals]) size26 ?_
  refine RL.nil ?_
  refine hK4 _ _ _ ?_
  refine CW.kp [0] rfl ?_
  refine CW.ret ?_
  refine CellAt.mk rfl MM (by rfl) agg26 (Turn.sealOwn (b := b21) (n := 2) (sz := 31) (ds := exP.defs.flatMap DefT.enc) PK ?_ (by rfl) (by unfold lim; omega) SB fun M1 hs1 hr1 => ⟨hsb8.trans (hsb17.trans hs1), rfl, _, rfl, ?_⟩)
  · show RdL _ ([dPoint, dShape].flatMap DefT.enc) _
    rw [List.flatMap_cons, List.flatMap_cons, List.flatMap_nil, List.append_nil]
    exact (dvs_rd dPoint.id 0 id0 sPoint [slX, slY] _ (hrb8.mono hsb17)).append (dvs_rd dShape.id 1 id0 sShape [slDot, slBox] _ hrb17)
  · exact RdL.cons Rd.nilS (RdL.cons hr1 (RdL.nil _))
end Go.Proofs.Ytfgkhhfkodlbpaa
