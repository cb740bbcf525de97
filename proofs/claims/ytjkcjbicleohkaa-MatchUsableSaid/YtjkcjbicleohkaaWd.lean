/- THE WALKS, 4: likeness, numbers of nodes, lists of pairs. Printed by m16d.py. -/
import Derived.Test.YtjkcjbicleohkaaWc
namespace Go.Proofs.Ytjkcjbicleohkaa
open Xe

theorem alike_ok (w0 : World) (M : Mem) (Γ : List As) (a b : Ex) (us vs : List Value) (hus : RdL M a.enc us) (hvs : RdL M b.enc vs) :
    CallOk Try.prog w0 M Γ 40 #[.agg us.toArray, .agg vs.toArray] (Is M Γ (.bool (decide (a.like b)))) := by
  rw [Ex.enc_eq] at hus hvs
  refine enter (f := 40) Try.func40 rfl Try.ntmps40 rfl rfl fun w1 hw1 => ?_
  refine CW.addRds hus ?_
  refine CW.addRds hvs ?_
  refine CW.seq fun K1 hK1 => ?_
  refine CW.region ?_
  refine RL.box _ rfl rfl rfl fun b2 => ?_
  refine RL.box _ rfl rfl rfl fun b3 => ?_
  refine RL.q (Y.assign rfl) rfl ?_
  refine RL.nil ?_
  refine hK1 _ _ _ ?_
  refine CW.keep (Keep.cons 2 rfl (Keep.cons 3 rfl (Keep.nil _))) ?_
  refine CW.seq fun K2 hK2 => ?_
  refine CW.region ?_
  refine RL.q (Y.field rfl field31_1) rfl ?_
  first | refine RL.q (Y.loadOwnV rfl (by repeat (first | exact List.Mem.head _ | apply List.Mem.tail)) (by repeat (first | exact List.Mem.head _ | apply List.Mem.tail)) (by rfl) flat3) rfl ?_ | refine RL.q (Y.loadOwn rfl (by repeat (first | exact List.Mem.head _ | apply List.Mem.tail)) (by rfl) flat3) rfl ?_ | refine RL.loadOwnSl rfl rfl (by repeat (first | exact List.Mem.head _ | apply List.Mem.tail)) (by repeat (first | exact List.Mem.head _ | apply List.Mem.tail)) (by rfl) flat3 rfl fun a6 c6 hu6 hc6 hl6 => ?_
  refine RL.q (Y.field rfl field31_1) rfl ?_
  first | refine RL.q (Y.loadOwnV rfl (by repeat (first | exact List.Mem.head _ | apply List.Mem.tail)) (by repeat (first | exact List.Mem.head _ | apply List.Mem.tail)) (by rfl) flat3) rfl ?_ | refine RL.q (Y.loadOwn rfl (by repeat (first | exact List.Mem.head _ | apply List.Mem.tail)) (by rfl) flat3) rfl ?_ | refine RL.loadOwnSl rfl rfl (by repeat (first | exact List.Mem.head _ | apply List.Mem.tail)) (by repeat (first | exact List.Mem.head _ | apply List.Mem.tail)) (by rfl) flat3 rfl fun a8 c8 hu8 hc8 hl8 => ?_
  refine RL.qs (Y.eql rfl rfl) rfl (fun g9 => ?_) (fun g9 => ?_)
  · refine RL.q (Y.move rfl) rfl ?_
    refine RL.qg ⟨_, _, rfl, rfl, rfl⟩ (Y.field rfl field31_2) rfl ?_
    first | refine RL.qg ⟨_, _, rfl, rfl, rfl⟩ (Y.loadOwnV rfl (by repeat (first | exact List.Mem.head _ | apply List.Mem.tail)) (by repeat (first | exact List.Mem.head _ | apply List.Mem.tail)) (by rfl) flat3) rfl ?_ | refine RL.qg ⟨_, _, rfl, rfl, rfl⟩ (Y.loadOwn rfl (by repeat (first | exact List.Mem.head _ | apply List.Mem.tail)) (by rfl) flat3) rfl ?_ | refine RL.loadOwnSl ⟨_, _, rfl, rfl, rfl⟩ rfl (by repeat (first | exact List.Mem.head _ | apply List.Mem.tail)) (by repeat (first | exact List.Mem.head _ | apply List.Mem.tail)) (by rfl) flat3 rfl fun a12 c12 hu12 hc12 hl12 => ?_
    refine RL.qg ⟨_, _, rfl, rfl, rfl⟩ (Y.field rfl field31_2) rfl ?_
    first | refine RL.qg ⟨_, _, rfl, rfl, rfl⟩ (Y.loadOwnV rfl (by repeat (first | exact List.Mem.head _ | apply List.Mem.tail)) (by repeat (first | exact List.Mem.head _ | apply List.Mem.tail)) (by rfl) flat3) rfl ?_ | refine RL.qg ⟨_, _, rfl, rfl, rfl⟩ (Y.loadOwn rfl (by repeat (first | exact List.Mem.head _ | apply List.Mem.tail)) (by rfl) flat3) rfl ?_ | refine RL.loadOwnSl ⟨_, _, rfl, rfl, rfl⟩ rfl (by repeat (first | exact List.Mem.head _ | apply List.Mem.tail)) (by repeat (first | exact List.Mem.head _ | apply List.Mem.tail)) (by rfl) flat3 rfl fun a14 c14 hu14 hc14 hl14 => ?_
    refine RL.qgs ⟨_, _, rfl, rfl, rfl⟩ (Y.eql rfl rfl) rfl (fun g15 => ?_) (fun g15 => ?_)
    · refine RL.q (Y.pickT rfl rfl) rfl ?_
      refine RL.q (Y.move rfl) rfl ?_
      refine RL.qg ⟨_, _, rfl, rfl, rfl⟩ (Y.field rfl field31_3) rfl ?_
      first | refine RL.qg ⟨_, _, rfl, rfl, rfl⟩ (Y.loadAggV [_, _, _] rfl (by repeat (first | exact List.Mem.head _ | apply List.Mem.tail)) (by repeat (first | exact List.Mem.head _ | apply List.Mem.tail)) (by rfl) agg24) rfl ?_ | refine RL.qg ⟨_, _, rfl, rfl, rfl⟩ (Y.loadAll rfl (by repeat (first | exact List.Mem.head _ | apply List.Mem.tail)) (by rfl) agg24) rfl ?_
      refine RL.qg ⟨_, _, rfl, rfl, rfl⟩ (Y.field rfl field31_3) rfl ?_
      first | refine RL.qg ⟨_, _, rfl, rfl, rfl⟩ (Y.loadAggV [_, _, _] rfl (by repeat (first | exact List.Mem.head _ | apply List.Mem.tail)) (by repeat (first | exact List.Mem.head _ | apply List.Mem.tail)) (by rfl) agg24) rfl ?_ | refine RL.qg ⟨_, _, rfl, rfl, rfl⟩ (Y.loadAll rfl (by repeat (first | exact List.Mem.head _ | apply List.Mem.tail)) (by rfl) agg24) rfl ?_
      refine RL.qgs ⟨_, _, rfl, rfl, rfl⟩ (id24_eql rfl rfl) rfl (fun g22 => ?_) (fun g22 => ?_)
      · refine RL.q (Y.pickT rfl rfl) rfl ?_
        refine RL.q (Y.move rfl) rfl ?_
        refine RL.qg ⟨_, _, rfl, rfl, rfl⟩ (Y.field rfl field31_4) rfl ?_
        refine RL.loadPart ⟨_, _, rfl, rfl, rfl⟩ rfl (by repeat (first | exact List.Mem.head _ | apply List.Mem.tail)) (by repeat (first | exact List.Mem.head _ | apply List.Mem.tail)) (by exact Eq.trans rfl (Ty.enc_eq a.ty).symm) (by first | rfl | exact Ex.enc_len _ | exact Ty.enc_len _ | exact MNode.enc_len _ | exact RNode.enc_len _) agg27 rfl fun us26 hul26 hur26 => ?_
        refine RL.qg ⟨_, _, rfl, rfl, rfl⟩ (Y.field rfl field31_4) rfl ?_
        refine RL.loadPart ⟨_, _, rfl, rfl, rfl⟩ rfl (by repeat (first | exact List.Mem.head _ | apply List.Mem.tail)) (by repeat (first | exact List.Mem.head _ | apply List.Mem.tail)) (by exact Eq.trans rfl (Ty.enc_eq b.ty).symm) (by first | rfl | exact Ex.enc_len _ | exact Ty.enc_len _ | exact MNode.enc_len _ | exact RNode.enc_len _) agg27 rfl fun us28 hul28 hur28 => ?_
        refine RL.callv ⟨_, _, rfl, rfl, rfl⟩ func53 rfl rfl (rsame_ok _ _ _ _ a.ty b.ty _ _ rfl hur26 hur28) ?_
        refine RL.q (Y.pickT rfl rfl) rfl ?_
        refine RL.q (Y.assign rfl) rfl ?_
        refine RL.nil ?_
        refine hK2 _ _ _ ?_
        refine CW.keep (Keep.cons 4 rfl (Keep.nil _)) ?_
        refine CW.ret ?_
        exact ⟨_, rfl, Turn.drop ⟨vb ⟨fun e => ⟨g9, g15, g22, e⟩, fun e => e.2.2.2⟩, rfl, rfl⟩ (by repeat (first | exact List.Sublist.refl _ | apply List.Sublist.cons_cons | apply List.Sublist.cons))⟩
      · refine RL.q (Y.pickT rfl rfl) rfl ?_
        refine RL.q (Y.move rfl) rfl ?_
        refine RL.no ⟨_, _, rfl, rfl, rfl⟩ rfl ?_
        refine RL.no ⟨_, _, rfl, rfl, rfl⟩ rfl ?_
        refine RL.no ⟨_, _, rfl, rfl, rfl⟩ rfl ?_
        refine RL.no ⟨_, _, rfl, rfl, rfl⟩ rfl ?_
        refine RL.no ⟨_, _, rfl, rfl, rfl⟩ rfl ?_
        refine RL.q (Y.pickF rfl rfl) rfl ?_
        refine RL.q (Y.assign rfl) rfl ?_
        refine RL.nil ?_
        refine hK2 _ _ _ ?_
        refine CW.keep (Keep.cons 4 rfl (Keep.nil _)) ?_
        refine CW.ret ?_
        exact ⟨_, rfl, Turn.drop ⟨vbF (fun e => g22 e.2.2.1), rfl, rfl⟩ (by repeat (first | exact List.Sublist.refl _ | apply List.Sublist.cons_cons | apply List.Sublist.cons))⟩
    · refine RL.q (Y.pickT rfl rfl) rfl ?_
      refine RL.q (Y.move rfl) rfl ?_
      refine RL.no ⟨_, _, rfl, rfl, rfl⟩ rfl ?_
      refine RL.no ⟨_, _, rfl, rfl, rfl⟩ rfl ?_
      refine RL.no ⟨_, _, rfl, rfl, rfl⟩ rfl ?_
      refine RL.no ⟨_, _, rfl, rfl, rfl⟩ rfl ?_
      refine RL.no ⟨_, _, rfl, rfl, rfl⟩ rfl ?_
      refine RL.q (Y.pickF rfl rfl) rfl ?_
      refine RL.q (Y.move rfl) rfl ?_
      refine RL.no ⟨_, _, rfl, rfl, rfl⟩ rfl ?_
      refine RL.no ⟨_, _, rfl, rfl, rfl⟩ rfl ?_
      refine RL.no ⟨_, _, rfl, rfl, rfl⟩ rfl ?_
      refine RL.no ⟨_, _, rfl, rfl, rfl⟩ rfl ?_
      refine RL.no ⟨_, _, rfl, rfl, rfl⟩ rfl ?_
      refine RL.q (Y.pickF rfl rfl) rfl ?_
      refine RL.q (Y.assign rfl) rfl ?_
      refine RL.nil ?_
      refine hK2 _ _ _ ?_
      refine CW.keep (Keep.cons 4 rfl (Keep.nil _)) ?_
      refine CW.ret ?_
      exact ⟨_, rfl, Turn.drop ⟨vbF (fun e => g15 e.2.1), rfl, rfl⟩ (by repeat (first | exact List.Sublist.refl _ | apply List.Sublist.cons_cons | apply List.Sublist.cons))⟩
  · refine RL.q (Y.move rfl) rfl ?_
    refine RL.no ⟨_, _, rfl, rfl, rfl⟩ rfl ?_
    refine RL.no ⟨_, _, rfl, rfl, rfl⟩ rfl ?_
    refine RL.no ⟨_, _, rfl, rfl, rfl⟩ rfl ?_
    refine RL.no ⟨_, _, rfl, rfl, rfl⟩ rfl ?_
    refine RL.no ⟨_, _, rfl, rfl, rfl⟩ rfl ?_
    refine RL.q (Y.pickF rfl rfl) rfl ?_
    refine RL.q (Y.move rfl) rfl ?_
    refine RL.no ⟨_, _, rfl, rfl, rfl⟩ rfl ?_
    refine RL.no ⟨_, _, rfl, rfl, rfl⟩ rfl ?_
    refine RL.no ⟨_, _, rfl, rfl, rfl⟩ rfl ?_
    refine RL.no ⟨_, _, rfl, rfl, rfl⟩ rfl ?_
    refine RL.no ⟨_, _, rfl, rfl, rfl⟩ rfl ?_
    refine RL.q (Y.pickF rfl rfl) rfl ?_
    refine RL.q (Y.move rfl) rfl ?_
    refine RL.no ⟨_, _, rfl, rfl, rfl⟩ rfl ?_
    refine RL.no ⟨_, _, rfl, rfl, rfl⟩ rfl ?_
    refine RL.no ⟨_, _, rfl, rfl, rfl⟩ rfl ?_
    refine RL.no ⟨_, _, rfl, rfl, rfl⟩ rfl ?_
    refine RL.no ⟨_, _, rfl, rfl, rfl⟩ rfl ?_
    refine RL.q (Y.pickF rfl rfl) rfl ?_
    refine RL.q (Y.assign rfl) rfl ?_
    refine RL.nil ?_
    refine hK2 _ _ _ ?_
    refine CW.keep (Keep.cons 4 rfl (Keep.nil _)) ?_
    refine CW.ret ?_
    exact ⟨_, rfl, Turn.drop ⟨vbF (fun e => g9 e.1), rfl, rfl⟩ (by repeat (first | exact List.Sublist.refl _ | apply List.Sublist.cons_cons | apply List.Sublist.cons))⟩

theorem change_ok (w0 : World) (M : Mem) (Γ : List As) (a b : MNode) (us vs : List Value) (hus : RdL M a.enc us) (hvs : RdL M b.enc vs) :
    CallOk Try.prog w0 M Γ 52 #[.agg us.toArray, .agg vs.toArray] (Is M Γ (vint (if a.e.like b.e then 0 else 1))) := by
  rw [MNode.enc_eq] at hus hvs
  refine enter (f := 52) Try.func52 rfl Try.ntmps52 rfl rfl fun w1 hw1 => ?_
  refine CW.addRds hus ?_
  refine CW.addRds hvs ?_
  refine CW.seq fun K1 hK1 => ?_
  refine CW.region ?_
  refine RL.box _ rfl rfl rfl fun b2 => ?_
  refine RL.box _ rfl rfl rfl fun b3 => ?_
  refine RL.q (Y.assign rfl) rfl ?_
  refine RL.nil ?_
  refine hK1 _ _ _ ?_
  refine CW.keep (Keep.cons 2 rfl (Keep.cons 3 rfl (Keep.nil _))) ?_
  refine CW.seq fun K2 hK2 => ?_
  refine CW.seq fun K3 hK3 => ?_
  refine CW.region ?_
  refine RL.q (Y.field rfl field80_0) rfl ?_
  refine RL.q (Y.field rfl field31_1) rfl ?_
  first | refine RL.q (Y.loadOwnV rfl (by repeat (first | exact List.Mem.head _ | apply List.Mem.tail)) (by repeat (first | exact List.Mem.head _ | apply List.Mem.tail)) (by rfl) flat3) rfl ?_ | refine RL.q (Y.loadOwn rfl (by repeat (first | exact List.Mem.head _ | apply List.Mem.tail)) (by rfl) flat3) rfl ?_ | refine RL.loadOwnSl rfl rfl (by repeat (first | exact List.Mem.head _ | apply List.Mem.tail)) (by repeat (first | exact List.Mem.head _ | apply List.Mem.tail)) (by rfl) flat3 rfl fun a7 c7 hu7 hc7 hl7 => ?_
  refine RL.q (Y.field rfl field80_0) rfl ?_
  refine RL.q (Y.field rfl field31_1) rfl ?_
  first | refine RL.q (Y.loadOwnV rfl (by repeat (first | exact List.Mem.head _ | apply List.Mem.tail)) (by repeat (first | exact List.Mem.head _ | apply List.Mem.tail)) (by rfl) flat3) rfl ?_ | refine RL.q (Y.loadOwn rfl (by repeat (first | exact List.Mem.head _ | apply List.Mem.tail)) (by rfl) flat3) rfl ?_ | refine RL.loadOwnSl rfl rfl (by repeat (first | exact List.Mem.head _ | apply List.Mem.tail)) (by repeat (first | exact List.Mem.head _ | apply List.Mem.tail)) (by rfl) flat3 rfl fun a10 c10 hu10 hc10 hl10 => ?_
  refine RL.qs (Y.eql rfl rfl) rfl (fun g11 => ?_) (fun g11 => ?_)
  · refine RL.q (Y.move rfl) rfl ?_
    refine RL.qg ⟨_, _, rfl, rfl, rfl⟩ (Y.field rfl field80_0) rfl ?_
    refine RL.qg ⟨_, _, rfl, rfl, rfl⟩ (Y.field rfl field31_2) rfl ?_
    first | refine RL.qg ⟨_, _, rfl, rfl, rfl⟩ (Y.loadOwnV rfl (by repeat (first | exact List.Mem.head _ | apply List.Mem.tail)) (by repeat (first | exact List.Mem.head _ | apply List.Mem.tail)) (by rfl) flat3) rfl ?_ | refine RL.qg ⟨_, _, rfl, rfl, rfl⟩ (Y.loadOwn rfl (by repeat (first | exact List.Mem.head _ | apply List.Mem.tail)) (by rfl) flat3) rfl ?_ | refine RL.loadOwnSl ⟨_, _, rfl, rfl, rfl⟩ rfl (by repeat (first | exact List.Mem.head _ | apply List.Mem.tail)) (by repeat (first | exact List.Mem.head _ | apply List.Mem.tail)) (by rfl) flat3 rfl fun a15 c15 hu15 hc15 hl15 => ?_
    refine RL.qg ⟨_, _, rfl, rfl, rfl⟩ (Y.field rfl field80_0) rfl ?_
    refine RL.qg ⟨_, _, rfl, rfl, rfl⟩ (Y.field rfl field31_2) rfl ?_
    first | refine RL.qg ⟨_, _, rfl, rfl, rfl⟩ (Y.loadOwnV rfl (by repeat (first | exact List.Mem.head _ | apply List.Mem.tail)) (by repeat (first | exact List.Mem.head _ | apply List.Mem.tail)) (by rfl) flat3) rfl ?_ | refine RL.qg ⟨_, _, rfl, rfl, rfl⟩ (Y.loadOwn rfl (by repeat (first | exact List.Mem.head _ | apply List.Mem.tail)) (by rfl) flat3) rfl ?_ | refine RL.loadOwnSl ⟨_, _, rfl, rfl, rfl⟩ rfl (by repeat (first | exact List.Mem.head _ | apply List.Mem.tail)) (by repeat (first | exact List.Mem.head _ | apply List.Mem.tail)) (by rfl) flat3 rfl fun a18 c18 hu18 hc18 hl18 => ?_
    refine RL.qgs ⟨_, _, rfl, rfl, rfl⟩ (Y.eql rfl rfl) rfl (fun g19 => ?_) (fun g19 => ?_)
    · refine RL.q (Y.pickT rfl rfl) rfl ?_
      refine RL.q (Y.move rfl) rfl ?_
      refine RL.qg ⟨_, _, rfl, rfl, rfl⟩ (Y.field rfl field80_0) rfl ?_
      refine RL.qg ⟨_, _, rfl, rfl, rfl⟩ (Y.field rfl field31_3) rfl ?_
      first | refine RL.qg ⟨_, _, rfl, rfl, rfl⟩ (Y.loadAggV [_, _, _] rfl (by repeat (first | exact List.Mem.head _ | apply List.Mem.tail)) (by repeat (first | exact List.Mem.head _ | apply List.Mem.tail)) (by rfl) agg24) rfl ?_ | refine RL.qg ⟨_, _, rfl, rfl, rfl⟩ (Y.loadAll rfl (by repeat (first | exact List.Mem.head _ | apply List.Mem.tail)) (by rfl) agg24) rfl ?_
      refine RL.qg ⟨_, _, rfl, rfl, rfl⟩ (Y.field rfl field80_0) rfl ?_
      refine RL.qg ⟨_, _, rfl, rfl, rfl⟩ (Y.field rfl field31_3) rfl ?_
      first | refine RL.qg ⟨_, _, rfl, rfl, rfl⟩ (Y.loadAggV [_, _, _] rfl (by repeat (first | exact List.Mem.head _ | apply List.Mem.tail)) (by repeat (first | exact List.Mem.head _ | apply List.Mem.tail)) (by rfl) agg24) rfl ?_ | refine RL.qg ⟨_, _, rfl, rfl, rfl⟩ (Y.loadAll rfl (by repeat (first | exact List.Mem.head _ | apply List.Mem.tail)) (by rfl) agg24) rfl ?_
      refine RL.qgs ⟨_, _, rfl, rfl, rfl⟩ (id24_eql rfl rfl) rfl (fun g28 => ?_) (fun g28 => ?_)
      · refine RL.q (Y.pickT rfl rfl) rfl ?_
        refine RL.q (Y.move rfl) rfl ?_
        refine RL.qg ⟨_, _, rfl, rfl, rfl⟩ (Y.field rfl field80_0) rfl ?_
        refine RL.qg ⟨_, _, rfl, rfl, rfl⟩ (Y.field rfl field31_4) rfl ?_
        refine RL.loadPart ⟨_, _, rfl, rfl, rfl⟩ rfl (by repeat (first | exact List.Mem.head _ | apply List.Mem.tail)) (by repeat (first | exact List.Mem.head _ | apply List.Mem.tail)) (by exact Eq.trans rfl (Ty.enc_eq a.e.ty).symm) (by first | rfl | exact Ex.enc_len _ | exact Ty.enc_len _ | exact MNode.enc_len _ | exact RNode.enc_len _) agg27 rfl fun us33 hul33 hur33 => ?_
        refine RL.qg ⟨_, _, rfl, rfl, rfl⟩ (Y.field rfl field80_0) rfl ?_
        refine RL.qg ⟨_, _, rfl, rfl, rfl⟩ (Y.field rfl field31_4) rfl ?_
        refine RL.loadPart ⟨_, _, rfl, rfl, rfl⟩ rfl (by repeat (first | exact List.Mem.head _ | apply List.Mem.tail)) (by repeat (first | exact List.Mem.head _ | apply List.Mem.tail)) (by exact Eq.trans rfl (Ty.enc_eq b.e.ty).symm) (by first | rfl | exact Ex.enc_len _ | exact Ty.enc_len _ | exact MNode.enc_len _ | exact RNode.enc_len _) agg27 rfl fun us36 hul36 hur36 => ?_
        refine RL.callv ⟨_, _, rfl, rfl, rfl⟩ func31 rfl rfl (same_ok _ _ _ _ a.e.ty b.e.ty _ _ rfl hur33 hur36) ?_
        refine RL.q (Y.pickT rfl rfl) rfl ?_
        refine RL.nil ?_
        refine hK3 _ _ _ ?_
        refine CW.keep (Keep.cons 38 rfl (Keep.nil _)) ?_
        refine CW.ite rfl (fun h1 => ?_) (fun h1 => ?_)
        · refine CW.seq fun K4 hK4 => ?_
          refine CW.region ?_
          refine RL.q (Y.assign rfl) rfl ?_
          refine RL.nil ?_
          refine hK4 _ _ _ ?_
          refine CW.keep (Keep.cons 4 rfl (Keep.nil _)) ?_
          refine CW.ret ?_
          exact ⟨_, rfl, Turn.drop ⟨by rw [if_pos ⟨g11, g19, g28, h1⟩], rfl, rfl⟩ (by repeat (first | exact List.Sublist.refl _ | apply List.Sublist.cons_cons | apply List.Sublist.cons))⟩
        · refine CW.skip ?_
          refine hK2 _ _ _ ?_
          refine CW.seq fun K5 hK5 => ?_
          refine CW.region ?_
          refine RL.q (Y.assign rfl) rfl ?_
          refine RL.nil ?_
          refine hK5 _ _ _ ?_
          refine CW.keep (Keep.cons 4 rfl (Keep.nil _)) ?_
          refine CW.ret ?_
          exact ⟨_, rfl, Turn.drop ⟨by rw [if_neg (fun e => h1 e.2.2.2)], rfl, rfl⟩ (by repeat (first | exact List.Sublist.refl _ | apply List.Sublist.cons_cons | apply List.Sublist.cons))⟩
      · refine RL.q (Y.pickT rfl rfl) rfl ?_
        refine RL.q (Y.move rfl) rfl ?_
        refine RL.no ⟨_, _, rfl, rfl, rfl⟩ rfl ?_
        refine RL.no ⟨_, _, rfl, rfl, rfl⟩ rfl ?_
        refine RL.no ⟨_, _, rfl, rfl, rfl⟩ rfl ?_
        refine RL.no ⟨_, _, rfl, rfl, rfl⟩ rfl ?_
        refine RL.no ⟨_, _, rfl, rfl, rfl⟩ rfl ?_
        refine RL.no ⟨_, _, rfl, rfl, rfl⟩ rfl ?_
        refine RL.no ⟨_, _, rfl, rfl, rfl⟩ rfl ?_
        refine RL.q (Y.pickF rfl rfl) rfl ?_
        refine RL.nil ?_
        refine hK3 _ _ _ ?_
        refine CW.keep (Keep.cons 38 rfl (Keep.nil _)) ?_
        refine CW.no rfl ?_
        refine CW.skip ?_
        refine hK2 _ _ _ ?_
        refine CW.seq fun K6 hK6 => ?_
        refine CW.region ?_
        refine RL.q (Y.assign rfl) rfl ?_
        refine RL.nil ?_
        refine hK6 _ _ _ ?_
        refine CW.keep (Keep.cons 4 rfl (Keep.nil _)) ?_
        refine CW.ret ?_
        exact ⟨_, rfl, Turn.drop ⟨by rw [if_neg (fun e => g28 e.2.2.1)], rfl, rfl⟩ (by repeat (first | exact List.Sublist.refl _ | apply List.Sublist.cons_cons | apply List.Sublist.cons))⟩
    · refine RL.q (Y.pickT rfl rfl) rfl ?_
      refine RL.q (Y.move rfl) rfl ?_
      refine RL.no ⟨_, _, rfl, rfl, rfl⟩ rfl ?_
      refine RL.no ⟨_, _, rfl, rfl, rfl⟩ rfl ?_
      refine RL.no ⟨_, _, rfl, rfl, rfl⟩ rfl ?_
      refine RL.no ⟨_, _, rfl, rfl, rfl⟩ rfl ?_
      refine RL.no ⟨_, _, rfl, rfl, rfl⟩ rfl ?_
      refine RL.no ⟨_, _, rfl, rfl, rfl⟩ rfl ?_
      refine RL.no ⟨_, _, rfl, rfl, rfl⟩ rfl ?_
      refine RL.q (Y.pickF rfl rfl) rfl ?_
      refine RL.q (Y.move rfl) rfl ?_
      refine RL.no ⟨_, _, rfl, rfl, rfl⟩ rfl ?_
      refine RL.no ⟨_, _, rfl, rfl, rfl⟩ rfl ?_
      refine RL.no ⟨_, _, rfl, rfl, rfl⟩ rfl ?_
      refine RL.no ⟨_, _, rfl, rfl, rfl⟩ rfl ?_
      refine RL.no ⟨_, _, rfl, rfl, rfl⟩ rfl ?_
      refine RL.no ⟨_, _, rfl, rfl, rfl⟩ rfl ?_
      refine RL.no ⟨_, _, rfl, rfl, rfl⟩ rfl ?_
      refine RL.q (Y.pickF rfl rfl) rfl ?_
      refine RL.nil ?_
      refine hK3 _ _ _ ?_
      refine CW.keep (Keep.cons 38 rfl (Keep.nil _)) ?_
      refine CW.no rfl ?_
      refine CW.skip ?_
      refine hK2 _ _ _ ?_
      refine CW.seq fun K7 hK7 => ?_
      refine CW.region ?_
      refine RL.q (Y.assign rfl) rfl ?_
      refine RL.nil ?_
      refine hK7 _ _ _ ?_
      refine CW.keep (Keep.cons 4 rfl (Keep.nil _)) ?_
      refine CW.ret ?_
      exact ⟨_, rfl, Turn.drop ⟨by rw [if_neg (fun e => g19 e.2.1)], rfl, rfl⟩ (by repeat (first | exact List.Sublist.refl _ | apply List.Sublist.cons_cons | apply List.Sublist.cons))⟩
  · refine RL.q (Y.move rfl) rfl ?_
    refine RL.no ⟨_, _, rfl, rfl, rfl⟩ rfl ?_
    refine RL.no ⟨_, _, rfl, rfl, rfl⟩ rfl ?_
    refine RL.no ⟨_, _, rfl, rfl, rfl⟩ rfl ?_
    refine RL.no ⟨_, _, rfl, rfl, rfl⟩ rfl ?_
    refine RL.no ⟨_, _, rfl, rfl, rfl⟩ rfl ?_
    refine RL.no ⟨_, _, rfl, rfl, rfl⟩ rfl ?_
    refine RL.no ⟨_, _, rfl, rfl, rfl⟩ rfl ?_
    refine RL.q (Y.pickF rfl rfl) rfl ?_
    refine RL.q (Y.move rfl) rfl ?_
    refine RL.no ⟨_, _, rfl, rfl, rfl⟩ rfl ?_
    refine RL.no ⟨_, _, rfl, rfl, rfl⟩ rfl ?_
    refine RL.no ⟨_, _, rfl, rfl, rfl⟩ rfl ?_
    refine RL.no ⟨_, _, rfl, rfl, rfl⟩ rfl ?_
    refine RL.no ⟨_, _, rfl, rfl, rfl⟩ rfl ?_
    refine RL.no ⟨_, _, rfl, rfl, rfl⟩ rfl ?_
    refine RL.no ⟨_, _, rfl, rfl, rfl⟩ rfl ?_
    refine RL.q (Y.pickF rfl rfl) rfl ?_
    refine RL.q (Y.move rfl) rfl ?_
    refine RL.no ⟨_, _, rfl, rfl, rfl⟩ rfl ?_
    refine RL.no ⟨_, _, rfl, rfl, rfl⟩ rfl ?_
    refine RL.no ⟨_, _, rfl, rfl, rfl⟩ rfl ?_
    refine RL.no ⟨_, _, rfl, rfl, rfl⟩ rfl ?_
    refine RL.no ⟨_, _, rfl, rfl, rfl⟩ rfl ?_
    refine RL.no ⟨_, _, rfl, rfl, rfl⟩ rfl ?_
    refine RL.no ⟨_, _, rfl, rfl, rfl⟩ rfl ?_
    refine RL.q (Y.pickF rfl rfl) rfl ?_
    refine RL.nil ?_
    refine hK3 _ _ _ ?_
    refine CW.keep (Keep.cons 38 rfl (Keep.nil _)) ?_
    refine CW.no rfl ?_
    refine CW.skip ?_
    refine hK2 _ _ _ ?_
    refine CW.seq fun K8 hK8 => ?_
    refine CW.region ?_
    refine RL.q (Y.assign rfl) rfl ?_
    refine RL.nil ?_
    refine hK8 _ _ _ ?_
    refine CW.keep (Keep.cons 4 rfl (Keep.nil _)) ?_
    refine CW.ret ?_
    exact ⟨_, rfl, Turn.drop ⟨by rw [if_neg (fun e => g11 e.1)], rfl, rfl⟩ (by repeat (first | exact List.Sublist.refl _ | apply List.Sublist.cons_cons | apply List.Sublist.cons))⟩

theorem below_ok (w0 : World) (M : Mem) (Γ : List As) (l : List RNode) (u : Value) (i k : Nat) (hu : Rd M (RNode.encs l) u) (hk : k < l.length) :
    CallOk Try.prog w0 M Γ 39 #[u, vint i, vint k] (Is M Γ (.bool (decide (l[k].first ≤ i ∧ i < k)))) := by
  obtain ⟨a1, c1, rfl, hc1, hlim1, hlen1⟩ := hu.slice
  have hn := List.getElem?_eq_getElem hk
  refine enter (f := 39) Try.func39 rfl Try.ntmps39 rfl rfl fun w1 hw1 => ?_
  refine CW.addRd hu ?_
  refine CW.seq fun K1 hK1 => ?_
  refine CW.region ?_
  refine RL.q (Y.assign rfl) rfl ?_
  refine RL.nil ?_
  refine hK1 _ _ _ ?_
  refine CW.keep (Keep.cons 0 rfl (Keep.cons 1 rfl (Keep.cons 2 rfl (Keep.nil _)))) ?_
  refine CW.seq fun K2 hK2 => ?_
  refine CW.region ?_
  refine RL.q (Y.move rfl) rfl ?_
  refine RL.q (Y.move rfl) rfl ?_
  refine RL.q (Y.move rfl) rfl ?_
  refine RL.q (Y.index k rfl rfl rfl hk slice44 (fun _ hw => hw.rd_some (by repeat (first | exact List.Mem.head _ | apply List.Mem.tail)) (by omega))) rfl ?_
  refine RL.q (Y.field rfl field49_1) rfl ?_
  refine RL.q (Y.loadRd rfl (by repeat (first | exact List.Mem.head _ | apply List.Mem.tail)) (flat_get RNode.enc_len _ k _ hn 15 _ (by rw [RNode.enc_eq]; rfl)) flat3) rfl ?_
  refine RL.qs (Y.geq rfl rfl) rfl (fun g13 => ?_) (fun g13 => ?_)
  · refine RL.q (Y.move rfl) rfl ?_
    refine RL.qg ⟨_, _, rfl, rfl, rfl⟩ (Y.move rfl) rfl ?_
    refine RL.qg ⟨_, _, rfl, rfl, rfl⟩ (Y.move rfl) rfl ?_
    refine RL.qg ⟨_, _, rfl, rfl, rfl⟩ (Y.lss rfl rfl) rfl ?_
    refine RL.q (Y.pickT rfl rfl) rfl ?_
    refine RL.q (Y.assign rfl) rfl ?_
    refine RL.nil ?_
    refine hK2 _ _ _ ?_
    refine CW.keep (Keep.cons 6 rfl (Keep.nil _)) ?_
    refine CW.ret ?_
    exact ⟨_, rfl, Turn.drop ⟨vb ⟨fun e => ⟨by omega, by omega⟩, fun e => by omega⟩, rfl, rfl⟩ (by repeat (first | exact List.Sublist.refl _ | apply List.Sublist.cons_cons | apply List.Sublist.cons))⟩
  · refine RL.q (Y.move rfl) rfl ?_
    refine RL.no ⟨_, _, rfl, rfl, rfl⟩ rfl ?_
    refine RL.no ⟨_, _, rfl, rfl, rfl⟩ rfl ?_
    refine RL.no ⟨_, _, rfl, rfl, rfl⟩ rfl ?_
    refine RL.q (Y.pickF rfl rfl) rfl ?_
    refine RL.q (Y.assign rfl) rfl ?_
    refine RL.nil ?_
    refine hK2 _ _ _ ?_
    refine CW.keep (Keep.cons 6 rfl (Keep.nil _)) ?_
    refine CW.ret ?_
    exact ⟨_, rfl, Turn.drop ⟨vbF (fun e => g13 (by omega)), rfl, rfl⟩ (by repeat (first | exact List.Sublist.refl _ | apply List.Sublist.cons_cons | apply List.Sublist.cons))⟩

theorem number_ok (w0 : World) (M : Mem) (Γ : List As) (l : List RNode) (u : Value) (id : IdT) (hu : Rd M (RNode.encs l) u) :
    CallOk Try.prog w0 M Γ 38 #[u, .agg id.vals.toArray] (Is M Γ (vint (numOf l id))) := by
  obtain ⟨a1, c1, rfl, hc1, hlim1, hlen1⟩ := hu.slice
  refine enter (f := 38) Try.func38 rfl Try.ntmps38 rfl rfl fun w1 hw1 => ?_
  refine CW.addRd hu ?_
  refine CW.seq fun K1 hK1 => ?_
  refine CW.region ?_
  refine RL.box id.vals rfl rfl rfl fun b3 => ?_
  refine RL.q (Y.assign rfl) rfl ?_
  refine RL.nil ?_
  refine hK1 _ _ _ ?_
  refine CW.keep (Keep.cons 0 rfl (Keep.cons 3 rfl (Keep.nil _))) ?_
  refine CW.seq fun K2 hK2 => ?_
  refine CW.seq fun K3 hK3 => ?_
  refine CW.region ?_
  refine RL.q (Y.assign rfl) rfl ?_
  refine RL.nil ?_
  refine hK3 _ _ _ ?_
  refine CW.keep (Keep.cons 0 rfl (Keep.cons 3 rfl (Keep.cons 5 rfl (Keep.nil _)))) ?_
  refine CW.block ?_
  -- LOOP 1: live [0, 3, 5] changed [5]
  refine CW.keep (Keep.cons 5 rfl (Keep.cons 0 rfl (Keep.cons 3 rfl (Keep.nil _)))) ?_
  refine CW.loopF (fun m Lc M1 Γc => ∃ k : Nat, m = l.length - k ∧ k ≤ l.length ∧ Lc = [(5, vint k)] ∧ Γc = [] ∧ M1 = M ∧ ∀ j (hj : j < l.length), j < k → l[j].e.id ≠ id) l.length [(5, _)] [] rfl rfl ⟨0, rfl, Nat.zero_le _, rfl, rfl, rfl, fun _ _ h => absurd h (Nat.not_lt_zero _)⟩ ?_
  rintro m Lc M1 Γc hsub ⟨k, rfl, hk, rfl, rfl, rfl, hT⟩
  refine CW.seq fun K4 hK4 => ?_
  refine CW.seq fun K5 hK5 => ?_
  refine CW.region ?_
  refine RL.q (Y.move rfl) rfl ?_
  refine RL.q (Y.move rfl) rfl ?_
  refine RL.q (Y.len rfl Try.underlying44) rfl ?_
  refine RL.q (Y.lss rfl rfl) rfl ?_
  refine RL.nil ?_
  refine hK5 _ _ _ ?_
  refine CW.keep (Keep.cons 0 rfl (Keep.cons 3 rfl (Keep.cons 5 rfl (Keep.cons 9 rfl (Keep.nil _))))) ?_
  refine CW.ite rfl (fun h1 => ?_) (fun h1 => ?_)
  · have hka : k < l.length := by omega
    have hn := List.getElem?_eq_getElem hka
    refine CW.skip ?_
    refine hK4 _ _ _ ?_
    refine CW.seq fun K6 hK6 => ?_
    refine CW.block ?_
    refine CW.seq fun K7 hK7 => ?_
    refine CW.regionQ mix (by kernel_rfl) ?_
    refine QL.q (Y.move rfl) rfl ?_
    refine QL.q (Y.move rfl) rfl ?_
    refine QL.q (Y.index k rfl rfl rfl hka slice44 (fun _ hw => hw.rd_some (by repeat (first | exact List.Mem.head _ | apply List.Mem.tail)) (by omega))) rfl ?_
    refine QL.q (Y.field rfl field49_0) rfl ?_
    refine QL.q (Y.field rfl field31_0) rfl ?_
    refine QL.q (Y.loadAggRd (l[k].e.id.vals) rfl (by repeat (first | exact List.Mem.head _ | apply List.Mem.tail)) (by rw [show (l[k].e.id.vals).length = 3 from rfl, flat_sub RNode.enc_len _ k _ hn 0 3 (by decide), RNode.enc_eq]; rfl) agg24) rfl ?_
    refine QL.q (Y.loadAll rfl (by repeat (first | exact List.Mem.head _ | apply List.Mem.tail)) (by rfl) agg24) rfl ?_
    refine QL.q (id24_eql rfl rfl) rfl ?_
    refine QL.nil ?_
    refine hK7 _ _ _ ?_
    refine CW.keep (Keep.cons 0 rfl (Keep.cons 3 rfl (Keep.cons 5 rfl (Keep.cons 19 rfl (Keep.nil _))))) ?_
    refine CW.ite rfl (fun h2 => ?_) (fun h2 => ?_)
    · refine CW.seq fun K8 hK8 => ?_
      refine CW.region ?_
      refine RL.q (Y.move rfl) rfl ?_
      refine RL.q (Y.assign rfl) rfl ?_
      refine RL.nil ?_
      refine hK8 _ _ _ ?_
      refine CW.keep (Keep.cons 4 rfl (Keep.nil _)) ?_
      refine CW.ret ?_
      exact ⟨_, rfl, Turn.drop ⟨by rw [numOf_hit hka (fun j hj => hT j (by omega) hj) h2], rfl, rfl⟩ (by repeat (first | exact List.Sublist.refl _ | apply List.Sublist.cons_cons | apply List.Sublist.cons))⟩
    · refine CW.skip ?_
      refine hK6 _ _ _ ?_
      refine CW.region ?_
      refine RL.q (Y.move rfl) rfl ?_
      refine RL.q (Y.add rfl rfl (by omega)) rfl ?_
      refine RL.q (Y.assign rfl) rfl ?_
      refine RL.nil ?_
      refine ⟨l.length - (k + 1), [(5, _)], ?_, (Keep.cons 5 rfl (Keep.cons 0 rfl (Keep.cons 3 rfl (Keep.nil _)))), ?_⟩
      · omega
      · exact Turn.drop ⟨[], rfl, hsub, k + 1, rfl, by omega, rfl, rfl, rfl, all_step (p := fun x => x.e.id ≠ id) hT hka h2⟩ (by repeat (first | exact List.Sublist.refl _ | apply List.Sublist.cons_cons | apply List.Sublist.cons))
  · refine CW.exit ?_
    refine hK2 _ _ _ ?_
    refine CW.seq fun K9 hK9 => ?_
    refine CW.region ?_
    refine RL.q (Y.assign rfl) rfl ?_
    refine RL.nil ?_
    refine hK9 _ _ _ ?_
    refine CW.keep (Keep.cons 4 rfl (Keep.nil _)) ?_
    refine CW.ret ?_
    exact ⟨_, rfl, Turn.drop ⟨by rw [numOf_miss (fun j hj => hT j hj (by omega))], rfl, rfl⟩ (by repeat (first | exact List.Sublist.refl _ | apply List.Sublist.cons_cons | apply List.Sublist.cons))⟩
end Go.Proofs.Ytjkcjbicleohkaa
