/- THE WALKS, 24: the value of a type made of numbers. Printed by m04y.py. -/
import Derived.Test.YtfgkhhfkodlbpaaVx
namespace Go.Proofs.Ytfgkhhfkodlbpaa
open Xe

theorem value_ok (w0 : World) (M : Mem) (Γ : List As) (p : ProgT) (usp : List Value) (t : Ty) (ust : List Value) (l : List Int) (ul : Value) (n : Nat) (hp : Kn w0 M Γ (RdL M p.enc usp)) (ht : Kn w0 M Γ (RdL M t.enc ust)) (hl : Kn w0 M Γ (Rd M (dints l) ul)) (hwf : wfT p n t) (hn : (4 : Int) ^ n ≤ 1099511627776) (hnn : n ≤ 1000) (hli : ∀ x ∈ l, InI x) :
    CallOk Try.prog w0 M Γ 22 #[.agg usp.toArray, .agg ust.toArray, ul] (Gives M Γ fun M' v => ∃ us, v = .agg us.toArray ∧ RdL M' (valV p n t l).enc us) := by
  refine CallOk.kn hp fun hp => ?_
  rw [ProgT.enc_eq] at hp
  refine CallOk.kn ht fun ht => ?_
  rw [Ty.enc_eq] at ht
  refine CallOk.kn hl fun hl => ?_
  obtain ⟨al, cl, rfl, hcl, hliml, hlenl⟩ := hl.slice
  obtain ⟨v, hv⟩ : ∃ v, v = (mkF p l n t 0 1).1 := ⟨_, rfl⟩
  have hsz := mkF_size (l := l) n t 0 1 hwf
  have hps := mkF_pos (l := l) n t 0 1 hwf
  rw [← hv] at hsz
  have hw : w64 (v.size : Int) = (v.size : Int) := w64_in OM
  have hdl := Val.depth_le v
  refine enterCell (f := 22) Try.func22 rfl Try.ntmps22 rfl rfl fun w1 hw1 => ?_
  refine CW.addRds hp ?_
  refine CW.addRds ht ?_
  refine CW.addRd hl ?_
  refine CW.seq fun K1 hK1 => ?_
  refine CW.region ?_
  refine RL.box _ rfl rfl rfl fun b3 => ?_
  refine RL.box _ rfl rfl rfl fun b4 => ?_
  refine RL.alloc _ zero53 rfl rfl fun b6 => ?_
  refine RL.nil ?_
  refine hK1 _ _ _ ?_
  refine CW.kp [2, 3, 4, 6] rfl ?_
  refine CW.seq fun K2 hK2 => ?_
  refine CW.region ?_
  refine RL.q (Y.loadAllR rfl MM MM EL agg26) rfl ?_
  refine RL.q (Y.loadAllR rfl MM MM EL agg31) rfl ?_
  refine RL.q (Y.move rfl) rfl ?_
  refine RL.call rfl func48 rfl rfl (by exact make_ok n _ _ _ p _ t _ l _ 0 1 hwf OM OM OM OM hli KK KK KK) ?_
  rintro v13 M13 _ ⟨hs13, rfl, us13, rfl, hr13⟩
  rw [← hv] at hr13
  refine RL.addRds hr13 ?_
  have hul13 : us13.length = 3 := hr13.1.trans (Val.enc_len _)
  refine RL.q (Y.move rfl) rfl ?_
  refine RL.q (Y.extract rfl rfl) rfl ?_
  refine RL.q (Y.extract rfl rfl) rfl ?_
  refine RL.alloc _ zero53 rfl rfl fun b7 => ?_
  refine RL.storeRds 3 rfl rfl RP MM EL (by first | exact Kn.lenRds MM EL | exact Kn.lenLit rfl) size53 ?_
  refine RL.q (Y.assign rfl) rfl ?_
  refine RL.nil ?_
  refine hK2 _ _ _ ?_
  refine CW.kp [3, 4, 6, 7] rfl ?_
  refine CW.seq fun K3 hK3 => ?_
  refine CW.seq fun K4 hK4 => ?_
  refine CW.region ?_
  refine RL.q (Y.loadAllR rfl MM MM EL agg53) rfl ?_
  refine RL.callv rfl func28 rfl rfl (by exact (hw ▸ rsize_ok _ _ _ _ v _ rfl (by exact Kn.rds MM))) ?_
  refine RL.qs (Y.gtr rfl rfl) rfl (fun g18 => ?_) (fun g18 => ?_)
  ·refine RL.q (Y.move rfl) rfl ?_
   refine RL.no WG rfl ?_
   refine RL.no WG rfl ?_
   refine RL.no WG rfl ?_
   refine RL.q (Y.pickT rfl rfl) rfl ?_
   refine RL.nil ?_
   refine hK4 _ _ _ ?_
   refine CW.kp [3, 4, 6, 7, 23] rfl ?_
   refine CW.yes rfl ?_
   have e : valV p n t l = rzV p t := by rw [valV, ← hv, if_pos OM]
   refine CW.region ?_
   refine RL.q (Y.loadAllR rfl MM MM EL agg26) rfl ?_
   refine RL.q (Y.loadAllR rfl MM MM EL agg31) rfl ?_
   refine RL.call rfl func34 rfl rfl (by exact rzero_ok _ _ _ p _ t _ KK KK) ?_
   rintro v27 M27 _ ⟨hs27, rfl, us27, rfl, hr27⟩
   refine RL.addRds hr27 ?_
   have hul27 : us27.length = 3 := hr27.1.trans (Val.enc_len _)
   refine RL.q (Y.move rfl) rfl ?_
   refine RL.q (Y.extract rfl rfl) rfl ?_
   refine RL.q (Y.extract rfl rfl) rfl ?_
   refine RL.storeRds 3 rfl rfl RP MM EL (by first | exact Kn.lenRds MM EL | exact Kn.lenLit rfl) size53 ?_
   refine RL.nil ?_
   refine hK3 _ _ _ ?_
   refine CW.kp [6, 7] rfl ?_
   refine CW.seq fun K5 hK5 => ?_
   refine CW.region ?_
   refine RL.q (Y.loadAllR rfl MM MM EL agg53) rfl ?_
   refine RL.storeRds 3 rfl rfl RP MM EL (by first | exact Kn.lenRds MM EL | exact Kn.lenLit rfl) size53 ?_
   refine RL.nil ?_
   refine hK5 _ _ _ ?_
   refine CW.kp [6] rfl ?_
   refine CW.ret ?_
   exact CellAt.mk rfl MM (by first | rfl | assumption) agg53 (Turn.drop ⟨hs13.trans hs27, rfl, _, rfl, by rw [e]; exact hr27⟩ SB)
  refine RL.q (Y.move rfl) rfl ?_
  refine RL.qg WG (Y.loadAllR rfl MM MM EL agg53) rfl ?_
  refine RL.callv WG func49 rfl rfl (by exact rdepth_ok _ _ _ _ v _ rfl (by exact Kn.rds MM) OM) ?_
  refine RL.qg WG (Y.gtr rfl rfl) rfl ?_
  refine RL.q (Y.pickF rfl rfl) rfl ?_
  refine RL.nil ?_
  refine hK4 _ _ _ ?_
  refine CW.kp [3, 4, 6, 7, 23] rfl ?_
  refine CW.ite rfl (fun h1 => ?_) (fun h1 => ?_)
  ·have e : valV p n t l = rzV p t := by rw [valV, ← hv, if_pos OM]
   refine CW.region ?_
   refine RL.q (Y.loadAllR rfl MM MM EL agg26) rfl ?_
   refine RL.q (Y.loadAllR rfl MM MM EL agg31) rfl ?_
   refine RL.call rfl func34 rfl rfl (by exact rzero_ok _ _ _ p _ t _ KK KK) ?_
   rintro v27 M27 _ ⟨hs27, rfl, us27, rfl, hr27⟩
   refine RL.addRds hr27 ?_
   have hul27 : us27.length = 3 := hr27.1.trans (Val.enc_len _)
   refine RL.q (Y.move rfl) rfl ?_
   refine RL.q (Y.extract rfl rfl) rfl ?_
   refine RL.q (Y.extract rfl rfl) rfl ?_
   refine RL.storeRds 3 rfl rfl RP MM EL (by first | exact Kn.lenRds MM EL | exact Kn.lenLit rfl) size53 ?_
   refine RL.nil ?_
   refine hK3 _ _ _ ?_
   refine CW.kp [6, 7] rfl ?_
   refine CW.seq fun K6 hK6 => ?_
   refine CW.region ?_
   refine RL.q (Y.loadAllR rfl MM MM EL agg53) rfl ?_
   refine RL.storeRds 3 rfl rfl RP MM EL (by first | exact Kn.lenRds MM EL | exact Kn.lenLit rfl) size53 ?_
   refine RL.nil ?_
   refine hK6 _ _ _ ?_
   refine CW.kp [6] rfl ?_
   refine CW.ret ?_
   exact CellAt.mk rfl MM (by first | rfl | assumption) agg53 (Turn.drop ⟨hs13.trans hs27, rfl, _, rfl, by rw [e]; exact hr27⟩ SB)
  have e : valV p n t l = v := by rw [valV, ← hv, if_neg OM]
  refine CW.skip ?_
  refine hK3 _ _ _ ?_
  refine CW.seq fun K7 hK7 => ?_
  refine CW.region ?_
  refine RL.q (Y.loadAllR rfl MM MM EL agg53) rfl ?_
  refine RL.storeRds 3 rfl rfl RP MM EL (by first | exact Kn.lenRds MM EL | exact Kn.lenLit rfl) size53 ?_
  refine RL.nil ?_
  refine hK7 _ _ _ ?_
  refine CW.kp [6] rfl ?_
  refine CW.ret ?_
  exact CellAt.mk rfl MM (by first | rfl | assumption) agg53 (Turn.drop ⟨hs13, rfl, _, rfl, by rw [e]; exact hr13⟩ SB)
end Go.Proofs.Ytfgkhhfkodlbpaa
