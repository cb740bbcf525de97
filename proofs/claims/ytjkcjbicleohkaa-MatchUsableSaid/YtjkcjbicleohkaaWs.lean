/- THE WALKS, 19: Cost and Check. Printed by m16s.py. -/
import Derived.Test.YtjkcjbicleohkaaWr
namespace Go.Proofs.Ytjkcjbicleohkaa
open Xe

theorem mCost_ok (w0 : World) (M : Mem) (Γ : List As) (e1 e2 : Ex) (vs1 vs2 : List Value) (l : List PairD) (ul : Value) (hv1 : RdL M e1.enc vs1) (hv2 : RdL M e2.enc vs2) (hl : Rd M (PairD.encs l) ul) (hll : l.length ≤ 1000) :
    CallOk Try.prog w0 M Γ 23 #[.agg vs1.toArray, .agg vs2.toArray, ul] (Is M Γ (.tuple #[vint (CostR e1 e2 l).1, vint (CostR e1 e2 l).2])) := by
  have hl1 : vs1.length = 15 := hv1.1.trans (Ex.enc_len e1)
  have hl2 : vs2.length = 15 := hv2.1.trans (Ex.enc_len e2)
  refine enter2 (f := 23) Try.func23 rfl Try.ntmps23 rfl rfl fun w1 hw1 => ?_
  refine CW.seq fun K1 hK1 => ?_
  refine CW.region ?_
  refine RL.box _ rfl rfl rfl fun b3 => ?_
  refine RL.box _ rfl rfl rfl fun b4 => ?_
  refine RL.q (Y.assign rfl) rfl ?_
  refine RL.q (Y.assign rfl) rfl ?_
  refine RL.nil ?_
  refine hK1 _ _ _ ?_
  refine CW.keep (Keep.cons 2 rfl (Keep.cons 3 rfl (Keep.cons 4 rfl (Keep.nil _)))) ?_
  refine CW.seq fun K2 hK2 => ?_
  refine CW.region ?_
  refine RL.q (Y.loadAll rfl (by repeat (first | exact List.Mem.head _ | apply List.Mem.tail)) hl1 agg31) rfl ?_
  refine RL.call rfl func34 rfl rfl (mn_ok _ _ _ e1 vs1 hv1) ?_
  rintro _ M1 _ ⟨hs1, rfl, u1, rfl, hu1⟩
  refine RL.q (Y.move rfl) rfl ?_
  refine RL.q (Y.extract rfl rfl) rfl ?_
  refine RL.q (Y.extract rfl rfl) rfl ?_
  refine RL.q (Y.assign rfl) rfl ?_
  refine RL.q (Y.assign rfl) rfl ?_
  refine RL.nil ?_
  refine hK2 _ _ _ ?_
  refine CW.keep (Keep.cons 2 rfl (Keep.cons 4 rfl (Keep.cons 8 rfl (Keep.cons 9 rfl (Keep.nil _))))) ?_
  refine CW.seq fun K3 hK3 => ?_
  refine CW.region ?_
  refine RL.q (Y.loadAll rfl (by repeat (first | exact List.Mem.head _ | apply List.Mem.tail)) hl2 agg31) rfl ?_
  refine RL.call rfl func34 rfl rfl (mn_ok _ _ _ e2 vs2 (hv2.mono hs1)) ?_
  rintro _ M2 _ ⟨hs2, rfl, u2, rfl, hu2⟩
  refine RL.q (Y.move rfl) rfl ?_
  refine RL.q (Y.extract rfl rfl) rfl ?_
  refine RL.q (Y.extract rfl rfl) rfl ?_
  refine RL.q (Y.assign rfl) rfl ?_
  refine RL.q (Y.assign rfl) rfl ?_
  refine RL.nil ?_
  refine hK3 _ _ _ ?_
  refine CW.keep (Keep.cons 2 rfl (Keep.cons 8 rfl (Keep.cons 9 rfl (Keep.cons 10 rfl (Keep.cons 11 rfl (Keep.nil _)))))) ?_
  refine CW.seq fun K4 hK4 => ?_
  refine CW.seq fun K5 hK5 => ?_
  refine CW.region ?_
  refine RL.qs (Y.move rfl) rfl (fun g23 => ?_) (fun g23 => ?_)
  · refine RL.q (Y.not rfl) rfl ?_
    refine RL.q (Y.move rfl) rfl ?_
    refine RL.qg ⟨_, _, rfl, rfl, rfl⟩ (Y.move rfl) rfl ?_
    refine RL.qg ⟨_, _, rfl, rfl, rfl⟩ (Y.notD rfl) rfl ?_
    refine RL.q (Y.pickF rfl rfl) rfl ?_
    refine RL.nil ?_
    refine hK5 _ _ _ ?_
    refine CW.keep (Keep.cons 2 rfl (Keep.cons 8 rfl (Keep.cons 10 rfl (Keep.cons 28 rfl (Keep.nil _))))) ?_
    refine CW.ite rfl (fun h1 => ?_) (fun h1 => ?_)
    · refine CW.seq fun K6 hK6 => ?_
      refine CW.region ?_
      refine RL.q (Y.assign rfl) rfl ?_
      refine RL.q (Y.assign rfl) rfl ?_
      refine RL.nil ?_
      refine hK6 _ _ _ ?_
      refine CW.keep (Keep.cons 6 rfl (Keep.cons 7 rfl (Keep.nil _))) ?_
      refine CW.ret ?_
      refine ⟨_, _, rfl, rfl, ?_⟩
      rw [CostR_bad (fun h => h1 h.2)]
      exact Turn.back hw1 (hs1.trans hs2) ⟨rfl, rfl, rfl⟩ (by repeat (first | exact List.Sublist.refl _ | apply List.Sublist.cons_cons | apply List.Sublist.cons))
    · refine CW.skip ?_
      refine hK4 _ _ _ ?_
      refine CW.seq fun K7 hK7 => ?_
      have hg : good e1 ∧ good e2 := ⟨g23, Decidable.not_not.1 h1⟩
      have hu1 := Rd.mono hs2 _ _ (hu1 hg.1)
      have hu2 := hu2 hg.2
      have hla := pon_le hg.1
      have hlb := pon_le hg.2
      have hA0 := (pon_whole e1).pos
      have hB0 := (pon_whole e2).pos
      obtain ⟨a1, c1, rfl, hc1, hlim1, hlen1⟩ := hu1.slice
      obtain ⟨a2, c2, rfl, hcc2, hlim2, hlen2⟩ := hu2.slice
      refine CW.region ?_
      refine RL.q (Y.move rfl) rfl ?_
      refine RL.q (Y.move rfl) rfl ?_
      refine RL.q (Y.move rfl) rfl ?_
      refine RL.callv rfl func46 rfl rfl (mcost_ok _ _ _ (pon e1 0) (pon e2 0) l _ _ _ hu1 hu2 (Rd.mono (hs1.trans hs2) _ _ hl) (pon_ids_ok hg.1) (pon_ids_ok hg.2) (by omega) (by omega) hll) ?_
      refine RL.q (Y.assign rfl) rfl ?_
      refine RL.nil ?_
      refine hK7 _ _ _ ?_
      refine CW.keep (Keep.cons 12 rfl (Keep.nil _)) ?_
      refine CW.seq fun K8 hK8 => ?_
      refine CW.seq fun K9 hK9 => ?_
      refine CW.region ?_
      refine RL.q (Y.move rfl) rfl ?_
      refine RL.q (Y.lss rfl rfl) rfl ?_
      refine RL.nil ?_
      refine hK9 _ _ _ ?_
      refine CW.keep (Keep.cons 12 rfl (Keep.cons 34 rfl (Keep.nil _))) ?_
      refine CW.ite rfl (fun h2 => ?_) (fun h2 => ?_)
      · refine CW.seq fun K10 hK10 => ?_
        refine CW.region ?_
        refine RL.q (Y.assign rfl) rfl ?_
        refine RL.q (Y.assign rfl) rfl ?_
        refine RL.nil ?_
        refine hK10 _ _ _ ?_
        refine CW.keep (Keep.cons 6 rfl (Keep.cons 7 rfl (Keep.nil _))) ?_
        refine CW.ret ?_
        refine ⟨_, _, rfl, rfl, ?_⟩
        rw [CostR_none hg (mcost_neg.2 h2)]
        exact Turn.back hw1 (hs1.trans hs2) ⟨rfl, rfl, rfl⟩ (by repeat (first | exact List.Sublist.refl _ | apply List.Sublist.cons_cons | apply List.Sublist.cons))
      · refine CW.skip ?_
        refine hK8 _ _ _ ?_
        refine CW.seq fun K11 hK11 => ?_
        refine CW.region ?_
        refine RL.q (Y.move rfl) rfl ?_
        refine RL.q (Y.assign rfl) rfl ?_
        refine RL.q (Y.assign rfl) rfl ?_
        refine RL.nil ?_
        refine hK11 _ _ _ ?_
        refine CW.keep (Keep.cons 6 rfl (Keep.cons 7 rfl (Keep.nil _))) ?_
        refine CW.ret ?_
        refine ⟨_, _, rfl, rfl, ?_⟩
        rw [CostR_some hg ((mcost_go _).2 ⟨rfl, by omega⟩)]
        exact Turn.back hw1 (hs1.trans hs2) ⟨rfl, rfl, rfl⟩ (by repeat (first | exact List.Sublist.refl _ | apply List.Sublist.cons_cons | apply List.Sublist.cons))
  · refine RL.q (Y.not rfl) rfl ?_
    refine RL.q (Y.move rfl) rfl ?_
    refine RL.no ⟨_, _, rfl, rfl, rfl⟩ rfl ?_
    refine RL.no ⟨_, _, rfl, rfl, rfl⟩ rfl ?_
    refine RL.q (Y.pickT rfl rfl) rfl ?_
    refine RL.nil ?_
    refine hK5 _ _ _ ?_
    refine CW.keep (Keep.cons 2 rfl (Keep.cons 8 rfl (Keep.cons 10 rfl (Keep.cons 28 rfl (Keep.nil _))))) ?_
    refine CW.yes rfl ?_
    refine CW.seq fun K12 hK12 => ?_
    refine CW.region ?_
    refine RL.q (Y.assign rfl) rfl ?_
    refine RL.q (Y.assign rfl) rfl ?_
    refine RL.nil ?_
    refine hK12 _ _ _ ?_
    refine CW.keep (Keep.cons 6 rfl (Keep.cons 7 rfl (Keep.nil _))) ?_
    refine CW.ret ?_
    refine ⟨_, _, rfl, rfl, ?_⟩
    rw [CostR_bad (fun h => g23 h.1)]
    exact Turn.back hw1 (hs1.trans hs2) ⟨rfl, rfl, rfl⟩ (by repeat (first | exact List.Sublist.refl _ | apply List.Sublist.cons_cons | apply List.Sublist.cons))

set_option maxHeartbeats 1000000 in
theorem mCheck_ok (w0 : World) (M : Mem) (Γ : List As) (e1 e2 : Ex) (vs1 vs2 : List Value) (l : List PairD) (ul : Value) (want : Int) (d : List (List Int)) (ud : Value) (hv1 : RdL M e1.enc vs1) (hv2 : RdL M e2.enc vs2) (hl : Rd M (PairD.encs l) ul) (hll : l.length ≤ 1000) (hd : Rd M (dtab d) ud) :
    CallOk Try.prog w0 M Γ 25 #[.agg vs1.toArray, .agg vs2.toArray, ul, vint want, ud] (Is M Γ (vint (CheckR e1 e2 l want d))) := by
  have hl1 : vs1.length = 15 := hv1.1.trans (Ex.enc_len e1)
  have hl2 : vs2.length = 15 := hv2.1.trans (Ex.enc_len e2)
  obtain ⟨a3, c3, rfl, hc3, hlim3, hlen3⟩ := hd.slice
  refine enter (f := 25) Try.func25 rfl Try.ntmps25 rfl rfl fun w1 hw1 => ?_
  refine CW.seq fun K1 hK1 => ?_
  refine CW.region ?_
  refine RL.box _ rfl rfl rfl fun b5 => ?_
  refine RL.box _ rfl rfl rfl fun b6 => ?_
  refine RL.q (Y.assign rfl) rfl ?_
  refine RL.nil ?_
  refine hK1 _ _ _ ?_
  refine CW.keep (Keep.cons 2 rfl (Keep.cons 3 rfl (Keep.cons 4 rfl (Keep.cons 5 rfl (Keep.cons 6 rfl (Keep.nil _)))))) ?_
  refine CW.seq fun K2 hK2 => ?_
  refine CW.region ?_
  refine RL.q (Y.loadAll rfl (by repeat (first | exact List.Mem.head _ | apply List.Mem.tail)) hl1 agg31) rfl ?_
  refine RL.call rfl func34 rfl rfl (mn_ok _ _ _ e1 vs1 hv1) ?_
  rintro _ M1 _ ⟨hs1, rfl, u1, rfl, hu1⟩
  refine RL.q (Y.move rfl) rfl ?_
  refine RL.q (Y.extract rfl rfl) rfl ?_
  refine RL.q (Y.extract rfl rfl) rfl ?_
  refine RL.q (Y.assign rfl) rfl ?_
  refine RL.q (Y.assign rfl) rfl ?_
  refine RL.nil ?_
  refine hK2 _ _ _ ?_
  refine CW.keep (Keep.cons 2 rfl (Keep.cons 3 rfl (Keep.cons 4 rfl (Keep.cons 6 rfl (Keep.cons 11 rfl (Keep.cons 12 rfl (Keep.nil _))))))) ?_
  refine CW.seq fun K3 hK3 => ?_
  refine CW.region ?_
  refine RL.q (Y.loadAll rfl (by repeat (first | exact List.Mem.head _ | apply List.Mem.tail)) hl2 agg31) rfl ?_
  refine RL.call rfl func34 rfl rfl (mn_ok _ _ _ e2 vs2 (hv2.mono hs1)) ?_
  rintro _ M2 _ ⟨hs2, rfl, u2, rfl, hu2⟩
  refine RL.q (Y.move rfl) rfl ?_
  refine RL.q (Y.extract rfl rfl) rfl ?_
  refine RL.q (Y.extract rfl rfl) rfl ?_
  refine RL.q (Y.assign rfl) rfl ?_
  refine RL.q (Y.assign rfl) rfl ?_
  refine RL.nil ?_
  refine hK3 _ _ _ ?_
  refine CW.keep (Keep.cons 2 rfl (Keep.cons 3 rfl (Keep.cons 4 rfl (Keep.cons 11 rfl (Keep.cons 12 rfl (Keep.cons 13 rfl (Keep.cons 14 rfl (Keep.nil _)))))))) ?_
  refine CW.seq fun K4 hK4 => ?_
  refine CW.seq fun K5 hK5 => ?_
  refine CW.region ?_
  refine RL.qs (Y.move rfl) rfl (fun g25 => ?_) (fun g25 => ?_)
  · refine RL.q (Y.not rfl) rfl ?_
    refine RL.q (Y.move rfl) rfl ?_
    refine RL.qg ⟨_, _, rfl, rfl, rfl⟩ (Y.move rfl) rfl ?_
    refine RL.qg ⟨_, _, rfl, rfl, rfl⟩ (Y.notD rfl) rfl ?_
    refine RL.q (Y.pickF rfl rfl) rfl ?_
    refine RL.nil ?_
    refine hK5 _ _ _ ?_
    refine CW.keep (Keep.cons 2 rfl (Keep.cons 3 rfl (Keep.cons 4 rfl (Keep.cons 11 rfl (Keep.cons 13 rfl (Keep.cons 30 rfl (Keep.nil _))))))) ?_
    refine CW.ite rfl (fun h1 => ?_) (fun h1 => ?_)
    · refine CW.seq fun K6 hK6 => ?_
      refine CW.region ?_
      refine RL.q (Y.assign rfl) rfl ?_
      refine RL.nil ?_
      refine hK6 _ _ _ ?_
      refine CW.keep (Keep.cons 10 rfl (Keep.nil _)) ?_
      refine CW.ret ?_
      refine ⟨_, rfl, ?_⟩
      rw [CheckR_bad (fun h => h1 h.2)]
      exact Turn.back hw1 (hs1.trans hs2) ⟨rfl, rfl, rfl⟩ (by repeat (first | exact List.Sublist.refl _ | apply List.Sublist.cons_cons | apply List.Sublist.cons))
    · refine CW.skip ?_
      refine hK4 _ _ _ ?_
      refine CW.seq fun K7 hK7 => ?_
      refine CW.seq fun K8 hK8 => ?_
      have hg : good e1 ∧ good e2 := ⟨g25, Decidable.not_not.1 h1⟩
      have hu1 := Rd.mono hs2 _ _ (hu1 hg.1)
      have hu2 := hu2 hg.2
      have hla := pon_le hg.1
      have hlb := pon_le hg.2
      have hA0 := (pon_whole e1).pos
      have hB0 := (pon_whole e2).pos
      obtain ⟨a1, c1, rfl, hc1, hlim1, hlen1⟩ := hu1.slice
      obtain ⟨a2, c2, rfl, hcc2, hlim2, hlen2⟩ := hu2.slice
      have hd2 := Rd.mono (hs1.trans hs2) _ _ hd
      refine CW.region ?_
      refine RL.q (Y.move rfl) rfl ?_
      refine RL.q (Y.move rfl) rfl ?_
      refine RL.q (Y.move rfl) rfl ?_
      refine RL.callv rfl func46 rfl rfl (mcost_ok _ _ _ (pon e1 0) (pon e2 0) l _ _ _ hu1 hu2 (Rd.mono (hs1.trans hs2) _ _ hl) (pon_ids_ok hg.1) (pon_ids_ok hg.2) (by omega) (by omega) hll) ?_
      refine RL.q (Y.move rfl) rfl ?_
      refine RL.qs (Y.neq rfl rfl) rfl (fun g36 => ?_) (fun g36 => ?_)
      · refine RL.q (Y.move rfl) rfl ?_
        refine RL.no ⟨_, _, rfl, rfl, rfl⟩ rfl ?_
        refine RL.no ⟨_, _, rfl, rfl, rfl⟩ rfl ?_
        refine RL.q (Y.pickT rfl rfl) rfl ?_
        refine RL.q (Y.move rfl) rfl ?_
        refine RL.no ⟨_, _, rfl, rfl, rfl⟩ rfl ?_
        refine RL.no ⟨_, _, rfl, rfl, rfl⟩ rfl ?_
        refine RL.no ⟨_, _, rfl, rfl, rfl⟩ rfl ?_
        refine RL.no ⟨_, _, rfl, rfl, rfl⟩ rfl ?_
        refine RL.no ⟨_, _, rfl, rfl, rfl⟩ rfl ?_
        refine RL.q (Y.pickT rfl rfl) rfl ?_
        refine RL.q (Y.move rfl) rfl ?_
        refine RL.no ⟨_, _, rfl, rfl, rfl⟩ rfl ?_
        refine RL.no ⟨_, _, rfl, rfl, rfl⟩ rfl ?_
        refine RL.no ⟨_, _, rfl, rfl, rfl⟩ rfl ?_
        refine RL.no ⟨_, _, rfl, rfl, rfl⟩ rfl ?_
        refine RL.no ⟨_, _, rfl, rfl, rfl⟩ rfl ?_
        refine RL.no ⟨_, _, rfl, rfl, rfl⟩ rfl ?_
        refine RL.no ⟨_, _, rfl, rfl, rfl⟩ rfl ?_
        refine RL.no ⟨_, _, rfl, rfl, rfl⟩ rfl ?_
        refine RL.no ⟨_, _, rfl, rfl, rfl⟩ rfl ?_
        refine RL.no ⟨_, _, rfl, rfl, rfl⟩ rfl ?_
        refine RL.no ⟨_, _, rfl, rfl, rfl⟩ rfl ?_
        refine RL.no ⟨_, _, rfl, rfl, rfl⟩ rfl ?_
        refine RL.no ⟨_, _, rfl, rfl, rfl⟩ rfl ?_
        refine RL.q (Y.pickT rfl rfl) rfl ?_
        refine RL.nil ?_
        refine hK8 _ _ _ ?_
        refine CW.keep (Keep.cons 62 rfl (Keep.nil _)) ?_
        refine CW.yes rfl ?_
        refine CW.seq fun K9 hK9 => ?_
        refine CW.region ?_
        refine RL.q (Y.assign rfl) rfl ?_
        refine RL.nil ?_
        refine hK9 _ _ _ ?_
        refine CW.keep (Keep.cons 10 rfl (Keep.nil _)) ?_
        refine CW.ret ?_
        refine ⟨_, rfl, ?_⟩
        rw [CheckR_no hg (fun h => g36 ((mcost_go _).1 h.1).1)]
        exact Turn.back hw1 (hs1.trans hs2) ⟨rfl, rfl, rfl⟩ (by repeat (first | exact List.Sublist.refl _ | apply List.Sublist.cons_cons | apply List.Sublist.cons))
      · refine RL.q (Y.move rfl) rfl ?_
        refine RL.qg ⟨_, _, rfl, rfl, rfl⟩ (Y.move rfl) rfl ?_
        refine RL.qgs ⟨_, _, rfl, rfl, rfl⟩ (Y.lss rfl rfl) rfl (fun g39 => ?_) (fun g39 => ?_)
        · refine RL.q (Y.pickF rfl rfl) rfl ?_
          refine RL.q (Y.move rfl) rfl ?_
          refine RL.no ⟨_, _, rfl, rfl, rfl⟩ rfl ?_
          refine RL.no ⟨_, _, rfl, rfl, rfl⟩ rfl ?_
          refine RL.no ⟨_, _, rfl, rfl, rfl⟩ rfl ?_
          refine RL.no ⟨_, _, rfl, rfl, rfl⟩ rfl ?_
          refine RL.no ⟨_, _, rfl, rfl, rfl⟩ rfl ?_
          refine RL.q (Y.pickT rfl rfl) rfl ?_
          refine RL.q (Y.move rfl) rfl ?_
          refine RL.no ⟨_, _, rfl, rfl, rfl⟩ rfl ?_
          refine RL.no ⟨_, _, rfl, rfl, rfl⟩ rfl ?_
          refine RL.no ⟨_, _, rfl, rfl, rfl⟩ rfl ?_
          refine RL.no ⟨_, _, rfl, rfl, rfl⟩ rfl ?_
          refine RL.no ⟨_, _, rfl, rfl, rfl⟩ rfl ?_
          refine RL.no ⟨_, _, rfl, rfl, rfl⟩ rfl ?_
          refine RL.no ⟨_, _, rfl, rfl, rfl⟩ rfl ?_
          refine RL.no ⟨_, _, rfl, rfl, rfl⟩ rfl ?_
          refine RL.no ⟨_, _, rfl, rfl, rfl⟩ rfl ?_
          refine RL.no ⟨_, _, rfl, rfl, rfl⟩ rfl ?_
          refine RL.no ⟨_, _, rfl, rfl, rfl⟩ rfl ?_
          refine RL.no ⟨_, _, rfl, rfl, rfl⟩ rfl ?_
          refine RL.no ⟨_, _, rfl, rfl, rfl⟩ rfl ?_
          refine RL.q (Y.pickT rfl rfl) rfl ?_
          refine RL.nil ?_
          refine hK8 _ _ _ ?_
          refine CW.keep (Keep.cons 62 rfl (Keep.nil _)) ?_
          refine CW.yes rfl ?_
          refine CW.seq fun K10 hK10 => ?_
          refine CW.region ?_
          refine RL.q (Y.assign rfl) rfl ?_
          refine RL.nil ?_
          refine hK10 _ _ _ ?_
          refine CW.keep (Keep.cons 10 rfl (Keep.nil _)) ?_
          refine CW.ret ?_
          refine ⟨_, rfl, ?_⟩
          rw [CheckR_no hg (fun h => by have := ((mcost_go _).1 h.1).2; omega)]
          exact Turn.back hw1 (hs1.trans hs2) ⟨rfl, rfl, rfl⟩ (by repeat (first | exact List.Sublist.refl _ | apply List.Sublist.cons_cons | apply List.Sublist.cons))
        · refine RL.q (Y.pickF rfl rfl) rfl ?_
          refine RL.q (Y.move rfl) rfl ?_
          refine RL.qg ⟨_, _, rfl, rfl, rfl⟩ (Y.move rfl) rfl ?_
          refine RL.qg ⟨_, _, rfl, rfl, rfl⟩ (Y.move rfl) rfl ?_
          refine RL.qg ⟨_, _, rfl, rfl, rfl⟩ (Y.move rfl) rfl ?_
          refine RL.callvs ⟨_, _, rfl, rfl, rfl⟩ func47 rfl rfl (mright_ok _ _ _ (pon e1 0) (pon e2 0) _ _ _ d hu1 hu2 hd2 (pon_whole e1).post (pon_whole e2).post (by omega) (by omega)) (fun g45 => ?_) (fun g45 => ?_)
          · refine RL.qg ⟨_, _, rfl, rfl, rfl⟩ (Y.not rfl) rfl ?_
            refine RL.q (Y.pickF rfl rfl) rfl ?_
            refine RL.q (Y.move rfl) rfl ?_
            obtain ⟨rR, hR0, hR1, hR2, hR3⟩ := g45.ok.get (v := (pon e1 0).length - 1) (w := (pon e2 0).length - 1) (by omega) (by omega)
            have hRl : rR.length = (pon e2 0).length := g45.ok.row rR (List.mem_of_getElem? hR0)
            have hdl := g45.1
            obtain ⟨uR, hcR, hrR⟩ := hd2.cell (q := ((pon e1 0).length - 1) * 1) (dtab_get hR0)
            obtain ⟨arR, crR, rfl, _, _, _⟩ := hrR.slice
            refine RL.qg ⟨_, _, rfl, rfl, rfl⟩ (Y.move rfl) rfl ?_
            refine RL.qg ⟨_, _, rfl, rfl, rfl⟩ (Y.move rfl) rfl ?_
            refine RL.qg ⟨_, _, rfl, rfl, rfl⟩ (Y.len rfl Try.underlying74) rfl ?_
            refine RL.qg ⟨_, _, rfl, rfl, rfl⟩ (Y.sub rfl rfl (by omega)) rfl ?_
            refine RL.qg ⟨_, _, rfl, rfl, rfl⟩ (Y.indexP ((pon e1 0).length - 1) rfl rfl (by omega) (by omega) slice35 hd2) rfl ?_
            refine RL.qg ⟨_, _, rfl, rfl, rfl⟩ (Y.loadC rfl hcR flat22) rfl ?_
            refine RL.qg ⟨_, _, rfl, rfl, rfl⟩ (Y.move rfl) rfl ?_
            refine RL.qg ⟨_, _, rfl, rfl, rfl⟩ (Y.len rfl Try.underlying74) rfl ?_
            refine RL.qg ⟨_, _, rfl, rfl, rfl⟩ (Y.sub rfl rfl (by omega)) rfl ?_
            refine RL.qg ⟨_, _, rfl, rfl, rfl⟩ (Y.indexP ((pon e2 0).length - 1) rfl rfl (by omega) (by omega) slice22 hrR) rfl ?_
            refine RL.qg ⟨_, _, rfl, rfl, rfl⟩ (Y.loadP rfl hrR (dints_get hR1) flat3) rfl ?_
            refine RL.qg ⟨_, _, rfl, rfl, rfl⟩ (Y.move rfl) rfl ?_
            refine RL.qg ⟨_, _, rfl, rfl, rfl⟩ (Y.neq rfl rfl) rfl ?_
            refine RL.q (Y.pickF rfl rfl) rfl ?_
            refine RL.nil ?_
            refine hK8 _ _ _ ?_
            refine CW.keep (Keep.cons 62 rfl (Keep.nil _)) ?_
            refine CW.ite rfl (fun h4 => ?_) (fun h4 => ?_)
            · refine CW.seq fun K11 hK11 => ?_
              refine CW.region ?_
              refine RL.q (Y.assign rfl) rfl ?_
              refine RL.nil ?_
              refine hK11 _ _ _ ?_
              refine CW.keep (Keep.cons 10 rfl (Keep.nil _)) ?_
              refine CW.ret ?_
              refine ⟨_, rfl, ?_⟩
              rw [CheckR_no hg (fun h => by have := h.2.2; omega)]
              exact Turn.back hw1 (hs1.trans hs2) ⟨rfl, rfl, rfl⟩ (by repeat (first | exact List.Sublist.refl _ | apply List.Sublist.cons_cons | apply List.Sublist.cons))
            · refine CW.skip ?_
              refine hK7 _ _ _ ?_
              refine CW.seq fun K12 hK12 => ?_
              refine CW.region ?_
              refine RL.q (Y.assign rfl) rfl ?_
              refine RL.nil ?_
              refine hK12 _ _ _ ?_
              refine CW.keep (Keep.cons 10 rfl (Keep.nil _)) ?_
              refine CW.ret ?_
              refine ⟨_, rfl, ?_⟩
              rw [CheckR_yes hg ⟨(mcost_go _).2 ⟨by omega, by omega⟩, g45, by omega⟩]
              exact Turn.back hw1 (hs1.trans hs2) ⟨rfl, rfl, rfl⟩ (by repeat (first | exact List.Sublist.refl _ | apply List.Sublist.cons_cons | apply List.Sublist.cons))
          · refine RL.qg ⟨_, _, rfl, rfl, rfl⟩ (Y.not rfl) rfl ?_
            refine RL.q (Y.pickF rfl rfl) rfl ?_
            refine RL.q (Y.move rfl) rfl ?_
            refine RL.no ⟨_, _, rfl, rfl, rfl⟩ rfl ?_
            refine RL.no ⟨_, _, rfl, rfl, rfl⟩ rfl ?_
            refine RL.no ⟨_, _, rfl, rfl, rfl⟩ rfl ?_
            refine RL.no ⟨_, _, rfl, rfl, rfl⟩ rfl ?_
            refine RL.no ⟨_, _, rfl, rfl, rfl⟩ rfl ?_
            refine RL.no ⟨_, _, rfl, rfl, rfl⟩ rfl ?_
            refine RL.no ⟨_, _, rfl, rfl, rfl⟩ rfl ?_
            refine RL.no ⟨_, _, rfl, rfl, rfl⟩ rfl ?_
            refine RL.no ⟨_, _, rfl, rfl, rfl⟩ rfl ?_
            refine RL.no ⟨_, _, rfl, rfl, rfl⟩ rfl ?_
            refine RL.no ⟨_, _, rfl, rfl, rfl⟩ rfl ?_
            refine RL.no ⟨_, _, rfl, rfl, rfl⟩ rfl ?_
            refine RL.no ⟨_, _, rfl, rfl, rfl⟩ rfl ?_
            refine RL.q (Y.pickT rfl rfl) rfl ?_
            refine RL.nil ?_
            refine hK8 _ _ _ ?_
            refine CW.keep (Keep.cons 62 rfl (Keep.nil _)) ?_
            refine CW.yes rfl ?_
            refine CW.seq fun K13 hK13 => ?_
            refine CW.region ?_
            refine RL.q (Y.assign rfl) rfl ?_
            refine RL.nil ?_
            refine hK13 _ _ _ ?_
            refine CW.keep (Keep.cons 10 rfl (Keep.nil _)) ?_
            refine CW.ret ?_
            refine ⟨_, rfl, ?_⟩
            rw [CheckR_no hg (fun h => g45 h.2.1)]
            exact Turn.back hw1 (hs1.trans hs2) ⟨rfl, rfl, rfl⟩ (by repeat (first | exact List.Sublist.refl _ | apply List.Sublist.cons_cons | apply List.Sublist.cons))
  · refine RL.q (Y.not rfl) rfl ?_
    refine RL.q (Y.move rfl) rfl ?_
    refine RL.no ⟨_, _, rfl, rfl, rfl⟩ rfl ?_
    refine RL.no ⟨_, _, rfl, rfl, rfl⟩ rfl ?_
    refine RL.q (Y.pickT rfl rfl) rfl ?_
    refine RL.nil ?_
    refine hK5 _ _ _ ?_
    refine CW.keep (Keep.cons 2 rfl (Keep.cons 3 rfl (Keep.cons 4 rfl (Keep.cons 11 rfl (Keep.cons 13 rfl (Keep.cons 30 rfl (Keep.nil _))))))) ?_
    refine CW.yes rfl ?_
    refine CW.seq fun K14 hK14 => ?_
    refine CW.region ?_
    refine RL.q (Y.assign rfl) rfl ?_
    refine RL.nil ?_
    refine hK14 _ _ _ ?_
    refine CW.keep (Keep.cons 10 rfl (Keep.nil _)) ?_
    refine CW.ret ?_
    refine ⟨_, rfl, ?_⟩
    rw [CheckR_bad (fun h => g25 h.1)]
    exact Turn.back hw1 (hs1.trans hs2) ⟨rfl, rfl, rfl⟩ (by repeat (first | exact List.Sublist.refl _ | apply List.Sublist.cons_cons | apply List.Sublist.cons))
end Go.Proofs.Ytjkcjbicleohkaa
