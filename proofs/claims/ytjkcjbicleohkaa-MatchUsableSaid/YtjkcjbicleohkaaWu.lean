/- THE WALKS, 21: the generator of pairs. Printed by m16u.py. -/
import Derived.Test.YtjkcjbicleohkaaWt
namespace Go.Proofs.Ytjkcjbicleohkaa
open Xe

set_option maxHeartbeats 2000000 in
theorem pairs_ok (w0 : World) (M : Mem) (Γ : List As) (e1 e2 : Ex) (vs1 vs2 : List Value) (k : List Int) (uk : Value) (hv1 : RdL M e1.enc vs1) (hv2 : RdL M e2.enc vs2) (hg1 : good e1) (hg2 : good e2) (hk0 : Rd M (dints k) uk) (hki : ∀ z ∈ k, InI z) :
    CallOk Try.prog w0 M Γ 22 #[.agg vs1.toArray, .agg vs2.toArray, uk] (Gives M Γ fun M' v => ∃ l, l.length ≤ 6 ∧ Rd M' (PairD.encs l) v) := by
  have hl1 : vs1.length = 15 := hv1.1.trans (Ex.enc_len e1)
  have hl2 : vs2.length = 15 := hv2.1.trans (Ex.enc_len e2)
  obtain ⟨a3, c3, rfl, hc3, hlim3, hlen3⟩ := hk0.slice
  obtain ⟨hr1, hA⟩ := rnodes_good hg1
  obtain ⟨hr2, hB⟩ := rnodes_good hg2
  have hla := pon_le hg1
  have hlb := pon_le hg2
  have hA0 := (pon_whole e1).pos
  have hB0 := (pon_whole e2).pos
  have hlA : (rnodes e1).1.length = (pon e1 0).length := by rw [← hA, List.length_map]
  have hlB : (rnodes e2).1.length = (pon e2 0).length := by rw [← hB, List.length_map]
  refine enter (f := 22) Try.func22 rfl Try.ntmps22 rfl rfl fun w1 hw1 => ?_
  refine CW.seq fun K1 hK1 => ?_
  refine CW.region ?_
  refine RL.box _ rfl rfl rfl fun b3 => ?_
  refine RL.box _ rfl rfl rfl fun b4 => ?_
  refine RL.q (Y.assign rfl) rfl ?_
  refine RL.nil ?_
  refine hK1 _ _ _ ?_
  refine CW.keep (Keep.cons 2 rfl (Keep.cons 3 rfl (Keep.cons 4 rfl (Keep.nil _)))) ?_
  refine CW.seq fun K2 hK2 => ?_
  refine CW.region ?_
  refine RL.q (Y.loadAll rfl (by repeat (first | exact List.Mem.head _ | apply List.Mem.tail)) hl1 agg31) rfl ?_
  refine RL.call rfl func17 rfl rfl (nodes_ok _ _ _ e1 vs1 hv1) ?_
  rintro _ M1 _ ⟨hs1, rfl, u1, rfl, hu1⟩
  obtain ⟨a1, c1, rfl, hc1, hlim1, hlen1⟩ := hu1.slice
  refine RL.q (Y.move rfl) rfl ?_
  refine RL.q (Y.extract rfl rfl) rfl ?_
  refine RL.q (Y.extract rfl rfl) rfl ?_
  refine RL.q (Y.assign rfl) rfl ?_
  refine RL.q (Y.assign rfl) rfl ?_
  refine RL.nil ?_
  refine hK2 _ _ _ ?_
  refine CW.keep (Keep.cons 2 rfl (Keep.cons 3 rfl (Keep.cons 4 rfl (Keep.cons 7 rfl (Keep.nil _))))) ?_
  refine CW.seq fun K3 hK3 => ?_
  refine CW.region ?_
  refine RL.q (Y.loadAll rfl (by repeat (first | exact List.Mem.head _ | apply List.Mem.tail)) hl2 agg31) rfl ?_
  refine RL.call rfl func17 rfl rfl (nodes_ok _ _ _ e2 vs2 (hv2.mono hs1)) ?_
  rintro _ M2 _ ⟨hs2, rfl, u2, rfl, hu2⟩
  obtain ⟨a2, c2, rfl, hcc2, hlim2, hlen2⟩ := hu2.slice
  refine RL.q (Y.move rfl) rfl ?_
  refine RL.q (Y.extract rfl rfl) rfl ?_
  refine RL.q (Y.extract rfl rfl) rfl ?_
  refine RL.q (Y.assign rfl) rfl ?_
  refine RL.q (Y.assign rfl) rfl ?_
  refine RL.nil ?_
  refine hK3 _ _ _ ?_
  refine CW.keep (Keep.cons 2 rfl (Keep.cons 3 rfl (Keep.cons 4 rfl (Keep.cons 7 rfl (Keep.cons 9 rfl (Keep.nil _)))))) ?_
  refine CW.seq fun K4 hK4 => ?_
  refine CW.region ?_
  refine RL.q (Y.assign rfl) rfl ?_
  refine RL.nil ?_
  refine hK4 _ _ _ ?_
  refine CW.keep (Keep.cons 2 rfl (Keep.cons 3 rfl (Keep.cons 4 rfl (Keep.cons 7 rfl (Keep.cons 9 rfl (Keep.cons 11 rfl (Keep.nil _))))))) ?_
  refine CW.seq fun K5 hK5 => ?_
  refine CW.seq fun K6 hK6 => ?_
  refine CW.region ?_
  refine RL.q (Y.assign rfl) rfl ?_
  refine RL.nil ?_
  refine hK6 _ _ _ ?_
  refine CW.keep (Keep.cons 2 rfl (Keep.cons 3 rfl (Keep.cons 4 rfl (Keep.cons 7 rfl (Keep.cons 9 rfl (Keep.cons 11 rfl (Keep.cons 12 rfl (Keep.nil _)))))))) ?_
  refine CW.block ?_
  -- LOOP 1: live [2, 3, 4, 7, 9, 11, 12] changed [11, 12]
  refine CW.keep (Keep.cons 11 rfl (Keep.cons 12 rfl (Keep.cons 2 rfl (Keep.cons 3 rfl (Keep.cons 4 rfl (Keep.cons 7 rfl (Keep.cons 9 rfl (Keep.nil _)))))))) ?_
  refine CW.loopF (fun mm Lc M3 Γc => ∃ (t : Nat) (l0 : List PairD) (a11 : Option Addr) (c11 : Nat), mm = 6 - t ∧ t ≤ 6 ∧ Lc = [(11, .slice a11 l0.length c11), (12, vint ((2 * t : Nat) : Int))] ∧ Γc = [] ∧ Rd M3 (PairD.encs l0) (.slice a11 l0.length c11) ∧ l0.length ≤ t) 6 [(11, _), (12, _)] [] rfl rfl ⟨0, [], none, 0, rfl, Nat.zero_le _, rfl, rfl, Rd.nilS, Nat.le_refl _⟩ ?_
  rintro mm Lc M3 Γc hsub ⟨t, l0, a11, c11, rfl, ht, rfl, rfl, hl0, hlt⟩
  refine CW.seq fun K7 hK7 => ?_
  refine CW.seq fun K8 hK8 => ?_
  refine CW.region ?_
  refine RL.q (Y.move rfl) rfl ?_
  refine RL.q (Y.add rfl rfl (by omega)) rfl ?_
  refine RL.q (Y.move rfl) rfl ?_
  refine RL.q (Y.len rfl Try.underlying22) rfl ?_
  refine RL.qs (Y.lss rfl rfl) rfl (fun g31 => ?_) (fun g31 => ?_)
  · refine RL.q (Y.move rfl) rfl ?_
    refine RL.qg ⟨_, _, rfl, rfl, rfl⟩ (Y.move rfl) rfl ?_
    refine RL.qg ⟨_, _, rfl, rfl, rfl⟩ (Y.lss rfl rfl) rfl ?_
    refine RL.q (Y.pickT rfl rfl) rfl ?_
    refine RL.nil ?_
    refine hK8 _ _ _ ?_
    refine CW.keep (Keep.cons 2 rfl (Keep.cons 3 rfl (Keep.cons 4 rfl (Keep.cons 7 rfl (Keep.cons 9 rfl (Keep.cons 11 rfl (Keep.cons 12 rfl (Keep.cons 35 rfl (Keep.nil _))))))))) ?_
    refine CW.ite rfl (fun h1 => ?_) (fun h1 => ?_)
    · refine CW.skip ?_
      refine hK7 _ _ _ ?_
      refine CW.seq fun K9 hK9 => ?_
      refine CW.block ?_
      have hsM := hs1.trans (hs2.trans hsub)
      have hk3 := Rd.mono hsM _ _ hk0
      have hu13 := Rd.mono (hs2.trans hsub) _ _ hu1
      have hu23 := Rd.mono hsub _ _ hu2
      have h2t : 2 * t < k.length := by omega
      have h2s : 2 * t + 1 < k.length := by omega
      obtain ⟨hx10, hx11⟩ := around_lt k[2 * t] (rnodes e1).1.length (by omega)
      obtain ⟨x1, hx1⟩ := Int.eq_ofNat_of_zero_le hx10
      have hx1b : x1 < (rnodes e1).1.length := by omega
      obtain ⟨hx20, hx21⟩ := around_lt k[2 * t + 1] (rnodes e2).1.length (by omega)
      obtain ⟨x2, hx2⟩ := Int.eq_ofNat_of_zero_le hx20
      have hx2b : x2 < (rnodes e2).1.length := by omega
      refine CW.cut (fun L' M' Γ' => ∃ (b13 : Nat) (p : PairD), Keep L' [(13, .pointer (some (adr (some ⟨b13, 0, none⟩) 0))), (2, .slice a3 k.length c3), (3, .pointer (some (adr (some ⟨b3, 0, none⟩) 0))), (4, .pointer (some (adr (some ⟨b4, 0, none⟩) 0))), (7, .slice a1 (rnodes e1).1.length c1), (9, .slice a2 (rnodes e2).1.length c2), (11, .slice a11 l0.length c11), (12, vint ((2 * t : Nat) : Int))] ∧ M' = M3 ∧ ∀ w, St w0 M' Γ' w → St w0 M3 (.own b13 51 (PairD.vals p) :: .own b4 31 vs2 :: .own b3 31 vs1 :: Γ) w) ?_ ?_
      · refine CW.regionH mix _ [] (fun _ hw => hw.sub (List.nil_sublist _)) ?_
        refine HL.take 0 rfl (by kernel_rfl) (by kernel_rfl) (by kernel_rfl) rfl (Y.move rfl) rfl ?_
        refine HL.take 1 rfl (by kernel_rfl) (by kernel_rfl) (by kernel_rfl) rfl (Y.move rfl) rfl ?_
        refine HL.take 2 rfl (by kernel_rfl) (by kernel_rfl) (by kernel_rfl) rfl (Y.move rfl) rfl ?_
        refine HL.take 3 rfl (by kernel_rfl) (by kernel_rfl) (by kernel_rfl) rfl (Y.indexP (2 * t) rfl rfl rfl (by omega) slice22 hk3) rfl ?_
        refine HL.take 4 rfl (by kernel_rfl) (by kernel_rfl) (by kernel_rfl) rfl (Y.loadP rfl hk3 (dints_get (List.getElem?_eq_getElem h2t)) flat3) rfl ?_
        refine HL.take 5 rfl (by kernel_rfl) (by kernel_rfl) (by kernel_rfl) rfl (Y.move rfl) rfl ?_
        refine HL.take 6 rfl (by kernel_rfl) (by kernel_rfl) (by kernel_rfl) rfl (Y.len rfl Try.underlying44) rfl ?_
        refine HL.take 12 rfl (by kernel_rfl) (by kernel_rfl) (by kernel_rfl) rfl (Y.move rfl) rfl ?_
        refine HL.take 13 rfl (by kernel_rfl) (by kernel_rfl) (by kernel_rfl) rfl (Y.move rfl) rfl ?_
        refine HL.take 14 rfl (by kernel_rfl) (by kernel_rfl) (by kernel_rfl) rfl (Y.move rfl) rfl ?_
        refine HL.take 15 rfl (by kernel_rfl) (by kernel_rfl) (by kernel_rfl) rfl (Y.add rfl rfl (by omega)) rfl ?_
        refine HL.take 16 rfl (by kernel_rfl) (by kernel_rfl) (by kernel_rfl) rfl (Y.indexP (2 * t + 1) rfl rfl (by omega) (by omega) slice22 hk3) rfl ?_
        refine HL.take 17 rfl (by kernel_rfl) (by kernel_rfl) (by kernel_rfl) rfl (Y.loadP rfl hk3 (dints_get (List.getElem?_eq_getElem h2s)) flat3) rfl ?_
        refine HL.take 18 rfl (by kernel_rfl) (by kernel_rfl) (by kernel_rfl) rfl (Y.move rfl) rfl ?_
        refine HL.take 19 rfl (by kernel_rfl) (by kernel_rfl) (by kernel_rfl) rfl (Y.len rfl Try.underlying44) rfl ?_
        refine HL.step2 7 26 rfl rfl (by kernel_rfl) ?_ ?_
        · refine RL.callv rfl func12 rfl rfl (around_ok _ _ _ _ _ (hki _ (List.getElem_mem h2t)) (by omega)) ?_
          refine RL.nil ⟨keep_same (List.nil_sublist _), ?_⟩
          refine HL.take 8 rfl (by kernel_rfl) (by kernel_rfl) (by kernel_rfl) rfl (Y.indexP x1 rfl rfl hx1 (by omega) slice44 hu13) rfl ?_
          refine HL.take 9 rfl (by kernel_rfl) (by kernel_rfl) (by kernel_rfl) rfl (Y.field rfl field49_0) rfl ?_
          refine HL.take 10 rfl (by kernel_rfl) (by kernel_rfl) (by kernel_rfl) rfl (Y.field rfl field31_0) rfl ?_
          refine HL.take 11 rfl (by kernel_rfl) (by kernel_rfl) (by kernel_rfl) rfl (Y.loadAggP ((rnodes e1).1[x1].e.id.vals) rfl hu13 (by exact (flat_sub RNode.enc_len _ x1 _ (List.getElem?_eq_getElem hx1b) 0 3 (by decide)).trans (by rw [RNode.enc_eq]; rfl)) agg24) rfl ?_
          refine HL.step2 20 26 rfl rfl (by kernel_rfl) ?_ ?_
          · refine RL.callv rfl func12 rfl rfl (around_ok _ _ _ _ _ (hki _ (List.getElem_mem h2s)) (by omega)) ?_
            refine RL.nil ⟨keep_same (List.nil_sublist _), ?_⟩
            refine HL.take 21 rfl (by kernel_rfl) (by kernel_rfl) (by kernel_rfl) rfl (Y.indexP x2 rfl rfl hx2 (by omega) slice44 hu23) rfl ?_
            refine HL.take 22 rfl (by kernel_rfl) (by kernel_rfl) (by kernel_rfl) rfl (Y.field rfl field49_0) rfl ?_
            refine HL.take 23 rfl (by kernel_rfl) (by kernel_rfl) (by kernel_rfl) rfl (Y.field rfl field31_0) rfl ?_
            refine HL.take 24 rfl (by kernel_rfl) (by kernel_rfl) (by kernel_rfl) rfl (Y.loadAggP ((rnodes e2).1[x2].e.id.vals) rfl hu23 (by exact (flat_sub RNode.enc_len _ x2 _ (List.getElem?_eq_getElem hx2b) 0 3 (by decide)).trans (by rw [RNode.enc_eq]; rfl)) agg24) rfl ?_
            refine HL.take 25 rfl (by kernel_rfl) (by kernel_rfl) (by kernel_rfl) rfl (Y.build (PairD.vals ⟨(rnodes e1).1[x1].e.id, (rnodes e2).1[x2].e.id⟩) rfl zero51 places51 (by rfl)) rfl ?_
            refine HL.step 26 rfl (by kernel_rfl) ?_
            refine RL.alloc _ zero51 rfl rfl fun b13 => ?_
            refine RL.nil ⟨keep_same (List.nil_sublist _), ?_⟩
            refine HL.step 27 rfl (by kernel_rfl) ?_
            refine RL.storeAgg (PairD.vals ⟨(rnodes e1).1[x1].e.id, (rnodes e2).1[x2].e.id⟩) rfl rfl (by repeat (first | exact Repl.here _ | apply Repl.there)) (by rfl) (by simp [PairD.vals]) (by simp [Value.oneCell', PairD.vals]) size51 ?_
            refine RL.nil ⟨keep_same (List.nil_sublist _), ?_⟩
            refine HL.done (by kernel_rfl) ?_
            dsimp only [thenX]
            exact ⟨b13, _, (by repeat (first | exact Keep.nil _ | refine Keep.cons _ rfl ?_)), rfl, fun _ hw => hw⟩
          · refine RL.alloc _ zero51 rfl rfl fun b13 => ?_
            refine RL.nil ⟨keep_same (List.nil_sublist _), ?_⟩
            refine HL.step 20 rfl (by kernel_rfl) ?_
            refine RL.callv rfl func12 rfl rfl (around_ok _ _ _ _ _ (hki _ (List.getElem_mem h2s)) (by omega)) ?_
            refine RL.nil ⟨keep_same (List.nil_sublist _), ?_⟩
            refine HL.take 21 rfl (by kernel_rfl) (by kernel_rfl) (by kernel_rfl) rfl (Y.indexP x2 rfl rfl hx2 (by omega) slice44 hu23) rfl ?_
            refine HL.take 22 rfl (by kernel_rfl) (by kernel_rfl) (by kernel_rfl) rfl (Y.field rfl field49_0) rfl ?_
            refine HL.take 23 rfl (by kernel_rfl) (by kernel_rfl) (by kernel_rfl) rfl (Y.field rfl field31_0) rfl ?_
            refine HL.take 24 rfl (by kernel_rfl) (by kernel_rfl) (by kernel_rfl) rfl (Y.loadAggP ((rnodes e2).1[x2].e.id.vals) rfl hu23 (by exact (flat_sub RNode.enc_len _ x2 _ (List.getElem?_eq_getElem hx2b) 0 3 (by decide)).trans (by rw [RNode.enc_eq]; rfl)) agg24) rfl ?_
            refine HL.take 25 rfl (by kernel_rfl) (by kernel_rfl) (by kernel_rfl) rfl (Y.build (PairD.vals ⟨(rnodes e1).1[x1].e.id, (rnodes e2).1[x2].e.id⟩) rfl zero51 places51 (by rfl)) rfl ?_
            refine HL.step 27 rfl (by kernel_rfl) ?_
            refine RL.storeAgg (PairD.vals ⟨(rnodes e1).1[x1].e.id, (rnodes e2).1[x2].e.id⟩) rfl rfl (by repeat (first | exact Repl.here _ | apply Repl.there)) (by rfl) (by simp [PairD.vals]) (by simp [Value.oneCell', PairD.vals]) size51 ?_
            refine RL.nil ⟨keep_same (List.nil_sublist _), ?_⟩
            refine HL.done (by kernel_rfl) ?_
            dsimp only [thenX]
            exact ⟨b13, _, (by repeat (first | exact Keep.nil _ | refine Keep.cons _ rfl ?_)), rfl, fun _ hw => hw⟩
        · refine RL.alloc _ zero51 rfl rfl fun b13 => ?_
          refine RL.nil ⟨keep_same (List.nil_sublist _), ?_⟩
          refine HL.step 7 rfl (by kernel_rfl) ?_
          refine RL.callv rfl func12 rfl rfl (around_ok _ _ _ _ _ (hki _ (List.getElem_mem h2t)) (by omega)) ?_
          refine RL.nil ⟨keep_same (List.nil_sublist _), ?_⟩
          refine HL.take 8 rfl (by kernel_rfl) (by kernel_rfl) (by kernel_rfl) rfl (Y.indexP x1 rfl rfl hx1 (by omega) slice44 hu13) rfl ?_
          refine HL.take 9 rfl (by kernel_rfl) (by kernel_rfl) (by kernel_rfl) rfl (Y.field rfl field49_0) rfl ?_
          refine HL.take 10 rfl (by kernel_rfl) (by kernel_rfl) (by kernel_rfl) rfl (Y.field rfl field31_0) rfl ?_
          refine HL.take 11 rfl (by kernel_rfl) (by kernel_rfl) (by kernel_rfl) rfl (Y.loadAggP ((rnodes e1).1[x1].e.id.vals) rfl hu13 (by exact (flat_sub RNode.enc_len _ x1 _ (List.getElem?_eq_getElem hx1b) 0 3 (by decide)).trans (by rw [RNode.enc_eq]; rfl)) agg24) rfl ?_
          refine HL.step 20 rfl (by kernel_rfl) ?_
          refine RL.callv rfl func12 rfl rfl (around_ok _ _ _ _ _ (hki _ (List.getElem_mem h2s)) (by omega)) ?_
          refine RL.nil ⟨keep_same (List.nil_sublist _), ?_⟩
          refine HL.take 21 rfl (by kernel_rfl) (by kernel_rfl) (by kernel_rfl) rfl (Y.indexP x2 rfl rfl hx2 (by omega) slice44 hu23) rfl ?_
          refine HL.take 22 rfl (by kernel_rfl) (by kernel_rfl) (by kernel_rfl) rfl (Y.field rfl field49_0) rfl ?_
          refine HL.take 23 rfl (by kernel_rfl) (by kernel_rfl) (by kernel_rfl) rfl (Y.field rfl field31_0) rfl ?_
          refine HL.take 24 rfl (by kernel_rfl) (by kernel_rfl) (by kernel_rfl) rfl (Y.loadAggP ((rnodes e2).1[x2].e.id.vals) rfl hu23 (by exact (flat_sub RNode.enc_len _ x2 _ (List.getElem?_eq_getElem hx2b) 0 3 (by decide)).trans (by rw [RNode.enc_eq]; rfl)) agg24) rfl ?_
          refine HL.take 25 rfl (by kernel_rfl) (by kernel_rfl) (by kernel_rfl) rfl (Y.build (PairD.vals ⟨(rnodes e1).1[x1].e.id, (rnodes e2).1[x2].e.id⟩) rfl zero51 places51 (by rfl)) rfl ?_
          refine HL.step 27 rfl (by kernel_rfl) ?_
          refine RL.storeAgg (PairD.vals ⟨(rnodes e1).1[x1].e.id, (rnodes e2).1[x2].e.id⟩) rfl rfl (by repeat (first | exact Repl.here _ | apply Repl.there)) (by rfl) (by simp [PairD.vals]) (by simp [Value.oneCell', PairD.vals]) size51 ?_
          refine RL.nil ⟨keep_same (List.nil_sublist _), ?_⟩
          refine HL.done (by kernel_rfl) ?_
          dsimp only [thenX]
          exact ⟨b13, _, (by repeat (first | exact Keep.nil _ | refine Keep.cons _ rfl ?_)), rfl, fun _ hw => hw⟩
      · rintro _ M3 Γ7 ⟨b13, p, hk7, rfl, hG7⟩
        refine CW.pre ?_ hk7 hG7
        have hpost : ∀ n66, RdL M3 (l0.flatMap PairD.enc) n66 → RdL M3 ((l0 ++ [p]).flatMap PairD.enc) ([] ++ n66 ++ PairD.vals p) := fun n66 h => by rw [List.flatMap_append]; exact (by simpa using h : RdL M3 (l0.flatMap PairD.enc) ([] ++ n66)).append (by simpa using PairD.rd p)
        refine CW.cut (fun L' M' Γ' => ∃ (a14 : Option Addr) (c14 : Nat) (us14 : List Value), Keep L' [(14, .slice a14 (0 + l0.length + 1) c14), (2, .slice a3 k.length c3), (3, .pointer (some (adr (some ⟨b3, 0, none⟩) 0))), (4, .pointer (some (adr (some ⟨b4, 0, none⟩) 0))), (7, .slice a1 (rnodes e1).1.length c1), (9, .slice a2 (rnodes e2).1.length c2), (11, .slice a11 l0.length c11), (12, vint ((2 * t : Nat) : Int))] ∧ M' = M3 ∧ RdL M3 ((l0 ++ [p]).flatMap PairD.enc) us14 ∧ ∀ w, St w0 M' Γ' w → St w0 M3 (.acc (.slice a14 (0 + l0.length + 1) c14) 51 6 (0 + l0.length + 1) us14 :: .own b4 31 vs2 :: .own b3 31 vs1 :: Γ) w) ?_ ?_
        · refine CW.regionH mix _ [.own b13 51 (PairD.vals p)] (fun _ hw => hw.sub sub_head) ?_
          refine HL.take 1 rfl (by kernel_rfl) (by kernel_rfl) (by kernel_rfl) rfl (Y.move rfl) rfl ?_
          refine HL.take 3 rfl (by kernel_rfl) (by kernel_rfl) (by kernel_rfl) rfl (Y.loadAll rfl (by repeat (first | exact List.Mem.head _ | apply List.Mem.tail)) (by rfl) agg51) rfl ?_
          refine HL.step2 0 4 rfl rfl (by kernel_rfl) ?_ ?_
          · refine RL.buildSlice [] elem34 rfl (by decide) fill0 rfl fun b64 => ?_
            refine RL.nil ⟨keep_same (by repeat (first | exact List.Sublist.refl _ | exact List.nil_sublist _ | apply List.Sublist.cons_cons | apply List.Sublist.cons)), ?_⟩
            refine HL.step2 2 4 rfl rfl (by kernel_rfl) ?_ ?_
            · refine RL.ownAcc (b := b64) (k := 0) (e := 51) (sz := 6) (us := []) (by repeat (first | exact Pick.here _ | apply Pick.there)) rfl (by unfold maxLen; omega) ?_
              refine RL.addRd hl0 ?_
              refine RL.appendRd elem34 rfl rfl (by repeat (first | exact Pick.here _ | apply Pick.there)) (by repeat (first | exact List.Mem.head _ | apply List.Mem.tail)) (by first | omega | (unfold lim; omega)) (by first | omega | (unfold lim; omega)) rfl fun a66 c66 n66 hc66 hn66 => ?_
              refine RL.nil ⟨keep_same (by repeat (first | exact List.Sublist.refl _ | exact List.nil_sublist _ | apply List.Sublist.cons_cons | apply List.Sublist.cons)), ?_⟩
              refine HL.step 4 rfl (by kernel_rfl) ?_
              refine RL.buildSlice (PairD.vals p) elem34 rfl (by decide) (fill1 rfl rfl) rfl fun b68 => ?_
              refine RL.nil ⟨keep_same (by repeat (first | exact List.Sublist.refl _ | exact List.nil_sublist _ | apply List.Sublist.cons_cons | apply List.Sublist.cons)), ?_⟩
              refine HL.step 5 rfl (by kernel_rfl) ?_
              refine RL.append elem34 rfl rfl (by repeat (first | exact Pick.here _ | apply Pick.there)) (SrcOk.own (by repeat (first | exact List.Mem.head _ | apply List.Mem.tail)) (by rfl) (RdL.one (M := fun _ => none) (PairD.rd p))) (by first | omega | (unfold lim; omega)) (by first | omega | (unfold lim; omega)) rfl fun a69 c69 hc69 => ?_
              refine RL.nil ⟨keep_same (by repeat (first | exact List.Sublist.refl _ | exact List.nil_sublist _ | apply List.Sublist.cons_cons | apply List.Sublist.cons)), ?_⟩
              refine HL.take 6 rfl (by kernel_rfl) (by kernel_rfl) (by kernel_rfl) rfl (Y.assign rfl) rfl ?_
              refine HL.done (by kernel_rfl) ?_
              dsimp only [thenX]
              exact ⟨a69, c69, _, (by repeat (first | exact Keep.nil _ | refine Keep.cons _ rfl ?_)), rfl, hpost n66 hn66, fun _ hw => (hw.perm (Pick.perm (by repeat (first | exact Pick.here _ | apply Pick.there)))).sub (List.Sublist.cons_cons _ (by repeat (first | exact List.Sublist.refl _ | apply List.Sublist.cons_cons | apply List.Sublist.cons)))⟩
            · refine RL.buildSlice (PairD.vals p) elem34 rfl (by decide) (fill1 rfl rfl) rfl fun b68 => ?_
              refine RL.nil ⟨keep_same (by repeat (first | exact List.Sublist.refl _ | exact List.nil_sublist _ | apply List.Sublist.cons_cons | apply List.Sublist.cons)), ?_⟩
              refine HL.step 2 rfl (by kernel_rfl) ?_
              refine RL.ownAcc (b := b64) (k := 0) (e := 51) (sz := 6) (us := []) (by repeat (first | exact Pick.here _ | apply Pick.there)) rfl (by unfold maxLen; omega) ?_
              refine RL.addRd hl0 ?_
              refine RL.appendRd elem34 rfl rfl (by repeat (first | exact Pick.here _ | apply Pick.there)) (by repeat (first | exact List.Mem.head _ | apply List.Mem.tail)) (by first | omega | (unfold lim; omega)) (by first | omega | (unfold lim; omega)) rfl fun a66 c66 n66 hc66 hn66 => ?_
              refine RL.nil ⟨keep_same (by repeat (first | exact List.Sublist.refl _ | exact List.nil_sublist _ | apply List.Sublist.cons_cons | apply List.Sublist.cons)), ?_⟩
              refine HL.step 5 rfl (by kernel_rfl) ?_
              refine RL.append elem34 rfl rfl (by repeat (first | exact Pick.here _ | apply Pick.there)) (SrcOk.own (by repeat (first | exact List.Mem.head _ | apply List.Mem.tail)) (by rfl) (RdL.one (M := fun _ => none) (PairD.rd p))) (by first | omega | (unfold lim; omega)) (by first | omega | (unfold lim; omega)) rfl fun a69 c69 hc69 => ?_
              refine RL.nil ⟨keep_same (by repeat (first | exact List.Sublist.refl _ | exact List.nil_sublist _ | apply List.Sublist.cons_cons | apply List.Sublist.cons)), ?_⟩
              refine HL.take 6 rfl (by kernel_rfl) (by kernel_rfl) (by kernel_rfl) rfl (Y.assign rfl) rfl ?_
              refine HL.done (by kernel_rfl) ?_
              dsimp only [thenX]
              exact ⟨a69, c69, _, (by repeat (first | exact Keep.nil _ | refine Keep.cons _ rfl ?_)), rfl, hpost n66 hn66, fun _ hw => (hw.perm (Pick.perm (by repeat (first | exact Pick.here _ | apply Pick.there)))).sub (List.Sublist.cons_cons _ (by repeat (first | exact List.Sublist.refl _ | apply List.Sublist.cons_cons | apply List.Sublist.cons)))⟩
          · refine RL.buildSlice (PairD.vals p) elem34 rfl (by decide) (fill1 rfl rfl) rfl fun b68 => ?_
            refine RL.nil ⟨keep_same (by repeat (first | exact List.Sublist.refl _ | exact List.nil_sublist _ | apply List.Sublist.cons_cons | apply List.Sublist.cons)), ?_⟩
            refine HL.step 0 rfl (by kernel_rfl) ?_
            refine RL.buildSlice [] elem34 rfl (by decide) fill0 rfl fun b64 => ?_
            refine RL.nil ⟨keep_same (by repeat (first | exact List.Sublist.refl _ | exact List.nil_sublist _ | apply List.Sublist.cons_cons | apply List.Sublist.cons)), ?_⟩
            refine HL.step 2 rfl (by kernel_rfl) ?_
            refine RL.ownAcc (b := b64) (k := 0) (e := 51) (sz := 6) (us := []) (by repeat (first | exact Pick.here _ | apply Pick.there)) rfl (by unfold maxLen; omega) ?_
            refine RL.addRd hl0 ?_
            refine RL.appendRd elem34 rfl rfl (by repeat (first | exact Pick.here _ | apply Pick.there)) (by repeat (first | exact List.Mem.head _ | apply List.Mem.tail)) (by first | omega | (unfold lim; omega)) (by first | omega | (unfold lim; omega)) rfl fun a66 c66 n66 hc66 hn66 => ?_
            refine RL.nil ⟨keep_same (by repeat (first | exact List.Sublist.refl _ | exact List.nil_sublist _ | apply List.Sublist.cons_cons | apply List.Sublist.cons)), ?_⟩
            refine HL.step 5 rfl (by kernel_rfl) ?_
            refine RL.append elem34 rfl rfl (by repeat (first | exact Pick.here _ | apply Pick.there)) (SrcOk.own (by repeat (first | exact List.Mem.head _ | apply List.Mem.tail)) (by rfl) (RdL.one (M := fun _ => none) (PairD.rd p))) (by first | omega | (unfold lim; omega)) (by first | omega | (unfold lim; omega)) rfl fun a69 c69 hc69 => ?_
            refine RL.nil ⟨keep_same (by repeat (first | exact List.Sublist.refl _ | exact List.nil_sublist _ | apply List.Sublist.cons_cons | apply List.Sublist.cons)), ?_⟩
            refine HL.take 6 rfl (by kernel_rfl) (by kernel_rfl) (by kernel_rfl) rfl (Y.assign rfl) rfl ?_
            refine HL.done (by kernel_rfl) ?_
            dsimp only [thenX]
            exact ⟨a69, c69, _, (by repeat (first | exact Keep.nil _ | refine Keep.cons _ rfl ?_)), rfl, hpost n66 hn66, fun _ hw => (hw.perm (Pick.perm (by repeat (first | exact Pick.here _ | apply Pick.there)))).sub (List.Sublist.cons_cons _ (by repeat (first | exact List.Sublist.refl _ | apply List.Sublist.cons_cons | apply List.Sublist.cons)))⟩
        · rintro _ M3 Γ8 ⟨a14, c14, us14, hk8, rfl, hus14, hG8⟩
          refine CW.pre ?_ hk8 hG8
          rw [show (0 + l0.length + 1) = (l0 ++ [p]).length from by rw [List.length_append, Nat.zero_add]; rfl]
          refine CW.sealAcc (by repeat (first | exact Pick.here _ | apply Pick.there)) hus14 (by rw [List.length_append]; unfold lim; simp; omega) ?_
          intro M4 a9 c9 hs14 h9 hc9 hr9
          cases h9
          have hmore : Rd M4 (PairD.encs (l0 ++ [p])) (.slice a14 (l0 ++ [p]).length c14) := hr9
          refine CW.drop (List.Sublist.cons _ (List.Sublist.refl _)) ?_
          refine CW.seq fun K10 hK10 => ?_
          refine CW.regionH mix _ [.own b4 31 vs2, .own b3 31 vs1] (fun _ hw => hw.sub (by repeat (first | exact List.Sublist.refl _ | exact List.nil_sublist _ | apply List.Sublist.cons_cons | apply List.Sublist.cons))) ?_
          refine HL.take 0 rfl (by kernel_rfl) (by kernel_rfl) (by kernel_rfl) rfl (Y.loadAll rfl (by repeat (first | exact List.Mem.head _ | apply List.Mem.tail)) hl1 agg31) rfl ?_
          refine HL.take 1 rfl (by kernel_rfl) (by kernel_rfl) (by kernel_rfl) rfl (Y.loadAll rfl (by repeat (first | exact List.Mem.head _ | apply List.Mem.tail)) hl2 agg31) rfl ?_
          refine HL.take 2 rfl (by kernel_rfl) (by kernel_rfl) (by kernel_rfl) rfl (Y.move rfl) rfl ?_
          refine HL.step 3 rfl (by kernel_rfl) ?_
          refine RL.call rfl func16 rfl rfl (plain_ok _ _ _ (l0 ++ [p]) _ hmore (by rw [List.length_append]; simp; omega)) ?_
          rintro v74 M5 _ ⟨hs74, rfl, h74⟩
          refine RL.nil ⟨keep_more hs74 (by repeat (first | exact List.Sublist.refl _ | exact List.nil_sublist _ | apply List.Sublist.cons_cons | apply List.Sublist.cons)), ?_⟩
          refine HL.step 4 rfl (by kernel_rfl) ?_
          refine RL.call rfl func15 rfl rfl (rcost_ok _ _ _ e1 e2 vs1 vs2 (l0 ++ [p]) _ (hv1.mono (hsM.trans (hs14.trans hs74))) (hv2.mono (hsM.trans (hs14.trans hs74))) h74 (by rw [List.length_append]; simp; omega)) ?_
          rintro _ M5 _ ⟨rfl, rfl, rfl⟩
          refine RL.nil ⟨keep_more hs74 (by repeat (first | exact List.Sublist.refl _ | exact List.nil_sublist _ | apply List.Sublist.cons_cons | apply List.Sublist.cons)), ?_⟩
          refine HL.take 5 rfl (by kernel_rfl) (by kernel_rfl) (by kernel_rfl) rfl (Y.move rfl) rfl ?_
          refine HL.take 6 rfl (by kernel_rfl) (by kernel_rfl) (by kernel_rfl) rfl (Y.extract rfl rfl) rfl ?_
          refine HL.take 7 rfl (by kernel_rfl) (by kernel_rfl) (by kernel_rfl) rfl (Y.extract rfl rfl) rfl ?_
          refine HL.take 8 rfl (by kernel_rfl) (by kernel_rfl) (by kernel_rfl) rfl (Y.assign rfl) rfl ?_
          refine HL.take 9 rfl (by kernel_rfl) (by kernel_rfl) (by kernel_rfl) rfl (Y.assign rfl) rfl ?_
          refine HL.done (by kernel_rfl) ?_
          refine hK10 _ _ _ ?_
          refine CW.keep (Keep.cons 2 rfl (Keep.cons 3 rfl (Keep.cons 4 rfl (Keep.cons 7 rfl (Keep.cons 9 rfl (Keep.cons 11 rfl (Keep.cons 12 rfl (Keep.cons 14 rfl (Keep.cons 16 rfl (Keep.nil _)))))))))) ?_
          refine CW.seq fun K11 hK11 => ?_
          refine CW.region ?_
          refine RL.q (Y.move rfl) rfl ?_
          refine RL.qs (Y.eql rfl rfl) rfl (fun g79 => ?_) (fun g79 => ?_)
          · refine RL.q (Y.move rfl) rfl ?_
            refine RL.no ⟨_, _, rfl, rfl, rfl⟩ rfl ?_
            refine RL.no ⟨_, _, rfl, rfl, rfl⟩ rfl ?_
            refine RL.no ⟨_, _, rfl, rfl, rfl⟩ rfl ?_
            refine RL.no ⟨_, _, rfl, rfl, rfl⟩ rfl ?_
            refine RL.no ⟨_, _, rfl, rfl, rfl⟩ rfl ?_
            refine RL.no ⟨_, _, rfl, rfl, rfl⟩ rfl ?_
            refine RL.no ⟨_, _, rfl, rfl, rfl⟩ rfl ?_
            refine RL.q (Y.pickT rfl rfl) rfl ?_
            refine RL.nil ?_
            refine hK11 _ _ _ ?_
            refine CW.keep (Keep.cons 2 rfl (Keep.cons 3 rfl (Keep.cons 4 rfl (Keep.cons 7 rfl (Keep.cons 9 rfl (Keep.cons 11 rfl (Keep.cons 12 rfl (Keep.cons 14 rfl (Keep.cons 88 rfl (Keep.nil _)))))))))) ?_
            refine CW.yes rfl ?_
            refine CW.region ?_
            refine RL.q (Y.move rfl) rfl ?_
            refine RL.q (Y.assign rfl) rfl ?_
            refine RL.nil ?_
            refine hK9 _ _ _ ?_
            refine CW.keep (Keep.cons 2 rfl (Keep.cons 3 rfl (Keep.cons 4 rfl (Keep.cons 7 rfl (Keep.cons 9 rfl (Keep.cons 11 rfl (Keep.cons 12 rfl (Keep.nil _)))))))) ?_
            refine CW.region ?_
            refine RL.q (Y.move rfl) rfl ?_
            refine RL.q (Y.add rfl rfl (by omega)) rfl ?_
            refine RL.q (Y.assign rfl) rfl ?_
            refine RL.nil ?_
            refine ⟨6 - (t + 1), [(11, _), (12, _)], ?_, (Keep.cons 11 rfl (Keep.cons 12 rfl (Keep.cons 2 rfl (Keep.cons 3 rfl (Keep.cons 4 rfl (Keep.cons 7 rfl (Keep.cons 9 rfl (Keep.nil _)))))))), ?_⟩
            · omega
            · exact Turn.drop ⟨[], rfl, hsub.trans (hs14.trans hs74), t + 1, l0 ++ [p], a14, c14, rfl, by omega, by rw [show ((2 * (t + 1) : Nat) : Int) = ((2 * t : Nat) : Int) + 2 from by omega], rfl, Rd.mono hs74 _ _ hmore, by rw [List.length_append]; simp; omega⟩ (by repeat (first | exact List.Sublist.refl _ | apply List.Sublist.cons_cons | apply List.Sublist.cons))
          · refine RL.q (Y.move rfl) rfl ?_
            refine RL.qg ⟨_, _, rfl, rfl, rfl⟩ (Y.move rfl) rfl ?_
            refine RL.qg ⟨_, _, rfl, rfl, rfl⟩ (Y.move rfl) rfl ?_
            refine RL.qg ⟨_, _, rfl, rfl, rfl⟩ (Y.indexP (2 * t) rfl rfl rfl (by omega) slice22 (Rd.mono (hs14.trans hs74) _ _ hk3)) rfl ?_
            refine RL.qg ⟨_, _, rfl, rfl, rfl⟩ (Y.loadP rfl (Rd.mono (hs14.trans hs74) _ _ hk3) (dints_get (List.getElem?_eq_getElem h2t)) flat3) rfl ?_
            refine RL.qg ⟨_, _, rfl, rfl, rfl⟩ (Y.quo rfl rfl (by omega) (tdiv_in _ (hki _ (List.getElem_mem h2t)))) rfl ?_
            refine RL.callv ⟨_, _, rfl, rfl, rfl⟩ func12 rfl rfl (around_ok _ _ _ _ 9 (tdiv_in _ (hki _ (List.getElem_mem h2t))) (by omega)) ?_
            refine RL.qg ⟨_, _, rfl, rfl, rfl⟩ (Y.eql rfl rfl) rfl ?_
            refine RL.q (Y.pickF rfl rfl) rfl ?_
            refine RL.nil ?_
            refine hK11 _ _ _ ?_
            refine CW.keep (Keep.cons 2 rfl (Keep.cons 3 rfl (Keep.cons 4 rfl (Keep.cons 7 rfl (Keep.cons 9 rfl (Keep.cons 11 rfl (Keep.cons 12 rfl (Keep.cons 14 rfl (Keep.cons 88 rfl (Keep.nil _)))))))))) ?_
            refine CW.ite rfl (fun h3 => ?_) (fun h3 => ?_)
            · refine CW.region ?_
              refine RL.q (Y.move rfl) rfl ?_
              refine RL.q (Y.assign rfl) rfl ?_
              refine RL.nil ?_
              refine hK9 _ _ _ ?_
              refine CW.keep (Keep.cons 2 rfl (Keep.cons 3 rfl (Keep.cons 4 rfl (Keep.cons 7 rfl (Keep.cons 9 rfl (Keep.cons 11 rfl (Keep.cons 12 rfl (Keep.nil _)))))))) ?_
              refine CW.region ?_
              refine RL.q (Y.move rfl) rfl ?_
              refine RL.q (Y.add rfl rfl (by omega)) rfl ?_
              refine RL.q (Y.assign rfl) rfl ?_
              refine RL.nil ?_
              refine ⟨6 - (t + 1), [(11, _), (12, _)], ?_, (Keep.cons 11 rfl (Keep.cons 12 rfl (Keep.cons 2 rfl (Keep.cons 3 rfl (Keep.cons 4 rfl (Keep.cons 7 rfl (Keep.cons 9 rfl (Keep.nil _)))))))), ?_⟩
              · omega
              · exact Turn.drop ⟨[], rfl, hsub.trans (hs14.trans hs74), t + 1, l0 ++ [p], a14, c14, rfl, by omega, by rw [show ((2 * (t + 1) : Nat) : Int) = ((2 * t : Nat) : Int) + 2 from by omega], rfl, Rd.mono hs74 _ _ hmore, by rw [List.length_append]; simp; omega⟩ (by repeat (first | exact List.Sublist.refl _ | apply List.Sublist.cons_cons | apply List.Sublist.cons))
            · refine CW.skip ?_
              refine hK9 _ _ _ ?_
              refine CW.region ?_
              refine RL.q (Y.move rfl) rfl ?_
              refine RL.q (Y.add rfl rfl (by omega)) rfl ?_
              refine RL.q (Y.assign rfl) rfl ?_
              refine RL.nil ?_
              refine ⟨6 - (t + 1), [(11, _), (12, _)], ?_, (Keep.cons 11 rfl (Keep.cons 12 rfl (Keep.cons 2 rfl (Keep.cons 3 rfl (Keep.cons 4 rfl (Keep.cons 7 rfl (Keep.cons 9 rfl (Keep.nil _)))))))), ?_⟩
              · omega
              · exact Turn.drop ⟨[], rfl, hsub.trans (hs14.trans hs74), t + 1, l0, a11, c11, rfl, by omega, by rw [show ((2 * (t + 1) : Nat) : Int) = ((2 * t : Nat) : Int) + 2 from by omega], rfl, Rd.mono (hs14.trans hs74) _ _ hl0, by omega⟩ (by repeat (first | exact List.Sublist.refl _ | apply List.Sublist.cons_cons | apply List.Sublist.cons))
    · refine CW.exit ?_
      refine hK5 _ _ _ ?_
      refine CW.seq fun K12 hK12 => ?_
      refine CW.region ?_
      refine RL.q (Y.move rfl) rfl ?_
      refine RL.q (Y.assign rfl) rfl ?_
      refine RL.nil ?_
      refine hK12 _ _ _ ?_
      refine CW.keep (Keep.cons 6 rfl (Keep.nil _)) ?_
      refine CW.ret ?_
      refine ⟨_, rfl, Turn.drop ⟨hs1.trans (hs2.trans hsub), rfl, l0, by omega, hl0⟩ (by repeat (first | exact List.Sublist.refl _ | apply List.Sublist.cons_cons | apply List.Sublist.cons))⟩
  · refine RL.q (Y.move rfl) rfl ?_
    refine RL.no ⟨_, _, rfl, rfl, rfl⟩ rfl ?_
    refine RL.no ⟨_, _, rfl, rfl, rfl⟩ rfl ?_
    refine RL.q (Y.pickF rfl rfl) rfl ?_
    refine RL.nil ?_
    refine hK8 _ _ _ ?_
    refine CW.keep (Keep.cons 2 rfl (Keep.cons 3 rfl (Keep.cons 4 rfl (Keep.cons 7 rfl (Keep.cons 9 rfl (Keep.cons 11 rfl (Keep.cons 12 rfl (Keep.cons 35 rfl (Keep.nil _))))))))) ?_
    refine CW.no rfl ?_
    refine CW.exit ?_
    refine hK5 _ _ _ ?_
    refine CW.seq fun K13 hK13 => ?_
    refine CW.region ?_
    refine RL.q (Y.move rfl) rfl ?_
    refine RL.q (Y.assign rfl) rfl ?_
    refine RL.nil ?_
    refine hK13 _ _ _ ?_
    refine CW.keep (Keep.cons 6 rfl (Keep.nil _)) ?_
    refine CW.ret ?_
    refine ⟨_, rfl, Turn.drop ⟨hs1.trans (hs2.trans hsub), rfl, l0, by omega, hl0⟩ (by repeat (first | exact List.Sublist.refl _ | apply List.Sublist.cons_cons | apply List.Sublist.cons))⟩
end Go.Proofs.Ytjkcjbicleohkaa
