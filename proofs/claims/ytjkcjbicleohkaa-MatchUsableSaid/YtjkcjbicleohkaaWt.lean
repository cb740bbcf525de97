/- THE WALKS, 20: Check by the reference; least. Printed by m16t.py. -/
import Derived.Test.YtjkcjbicleohkaaWs
namespace Go.Proofs.Ytjkcjbicleohkaa
open Xe

theorem CostR_iff {e1 e2 : Ex} {l : List PairD} {want : Int} (hg : good e1 ∧ good e2) : goOf e1 e2 l = some want ↔ (CostR e1 e2 l).2 = 0 ∧ (CostR e1 e2 l).1 = want := by
  cases hc : goOf e1 e2 l with
  | some n => rw [CostR_some hg hc]; simp
  | none => rw [CostR_none hg hc]; simp
/-- The least cost; -1, if one is not usable. -/
def LeastR (e1 e2 : Ex) (n : Int) : Prop := (good e1 ∧ good e2 → ∃ d Q, Best (pon e1 0) (pon e2 0) d n Q) ∧ (¬ (good e1 ∧ good e2) → n = -1)
theorem MatchR.least {e1 e2 : Ex} {M : Mem} {v : Value} (h : MatchR e1 e2 M v) : ∃ n up ud, v = .tuple #[up, vint n, ud] ∧ LeastR e1 e2 n := by
  by_cases hg : Xe.good e1 ∧ Xe.good e2
  · obtain ⟨d, n, Q, up, ud, h1, h2, _, _⟩ := h.1 hg
    exact ⟨n, up, ud, h1, fun _ => ⟨d, Q, h2⟩, fun h' => absurd hg h'⟩
  · exact ⟨-1, _, _, h.2 hg, fun h' => absurd h' hg, fun _ => rfl⟩

set_option maxHeartbeats 1000000 in
theorem rcheck_ok (w0 : World) (M : Mem) (Γ : List As) (e1 e2 : Ex) (vs1 vs2 : List Value) (l : List PairD) (ul : Value) (want : Int) (d : List (List Int)) (ud : Value) (hv1 : RdL M e1.enc vs1) (hv2 : RdL M e2.enc vs2) (hl : Rd M (PairD.encs l) ul) (hll : l.length ≤ 1000) (hd : Rd M (dtab d) ud) (hg : good e1 ∧ good e2) :
    CallOk Try.prog w0 M Γ 26 #[.agg vs1.toArray, .agg vs2.toArray, ul, vint want, ud] (Is M Γ (vint (CheckR e1 e2 l want d))) := by
  have hl1 : vs1.length = 15 := hv1.1.trans (Ex.enc_len e1)
  have hl2 : vs2.length = 15 := hv2.1.trans (Ex.enc_len e2)
  obtain ⟨a3, c3, rfl, hc3, hlim3, hlen3⟩ := hd.slice
  obtain ⟨hr1, hA⟩ := rnodes_good hg.1
  obtain ⟨hr2, hB⟩ := rnodes_good hg.2
  have hla := pon_le hg.1
  have hlb := pon_le hg.2
  have hA0 := (pon_whole e1).pos
  have hB0 := (pon_whole e2).pos
  have hlA : (rnodes e1).1.length = (pon e1 0).length := by rw [← hA, List.length_map]
  have hlB : (rnodes e2).1.length = (pon e2 0).length := by rw [← hB, List.length_map]
  refine enter (f := 26) Try.func26 rfl Try.ntmps26 rfl rfl fun w1 hw1 => ?_
  refine CW.seq fun K1 hK1 => ?_
  refine CW.region ?_
  refine RL.box _ rfl rfl rfl fun b5 => ?_
  refine RL.box _ rfl rfl rfl fun b6 => ?_
  refine RL.q (Y.assign rfl) rfl ?_
  refine RL.nil ?_
  refine hK1 _ _ _ ?_
  refine CW.keep (Keep.cons 2 rfl (Keep.cons 3 rfl (Keep.cons 4 rfl (Keep.cons 5 rfl (Keep.cons 6 rfl (Keep.nil _)))))) ?_
  refine CW.seq fun K2 hK2 => ?_
  refine CW.region ?_
  refine RL.q (Y.loadAll rfl (by repeat (first | exact List.Mem.head _ | apply List.Mem.tail)) hl1 agg31) rfl ?_
  refine RL.call rfl func17 rfl rfl (nodes_ok _ _ _ e1 vs1 hv1) ?_
  rintro _ M1 _ ⟨hs1, rfl, u1, rfl, hu1⟩
  obtain ⟨a1, c1, rfl, hc1, hlim1, hlen1⟩ := hu1.slice
  refine RL.q (Y.move rfl) rfl ?_
  refine RL.q (Y.extract rfl rfl) rfl ?_
  refine RL.q (Y.extract rfl rfl) rfl ?_
  refine RL.q (Y.assign rfl) rfl ?_
  refine RL.q (Y.assign rfl) rfl ?_
  refine RL.nil ?_
  refine hK2 _ _ _ ?_
  refine CW.keep (Keep.cons 2 rfl (Keep.cons 3 rfl (Keep.cons 4 rfl (Keep.cons 5 rfl (Keep.cons 6 rfl (Keep.cons 11 rfl (Keep.cons 12 rfl (Keep.nil _)))))))) ?_
  rw [vbb (rnodes e1).2]
  refine CW.seq fun K3 hK3 => ?_
  refine CW.region ?_
  refine RL.q (Y.loadAll rfl (by repeat (first | exact List.Mem.head _ | apply List.Mem.tail)) hl2 agg31) rfl ?_
  refine RL.call rfl func17 rfl rfl (nodes_ok _ _ _ e2 vs2 (hv2.mono hs1)) ?_
  rintro _ M2 _ ⟨hs2, rfl, u2, rfl, hu2⟩
  obtain ⟨a2, c2, rfl, hcc2, hlim2, hlen2⟩ := hu2.slice
  have hd2 := Rd.mono (hs1.trans hs2) _ _ hd
  refine RL.q (Y.move rfl) rfl ?_
  refine RL.q (Y.extract rfl rfl) rfl ?_
  refine RL.q (Y.extract rfl rfl) rfl ?_
  refine RL.q (Y.assign rfl) rfl ?_
  refine RL.q (Y.assign rfl) rfl ?_
  refine RL.nil ?_
  refine hK3 _ _ _ ?_
  refine CW.keep (Keep.cons 2 rfl (Keep.cons 3 rfl (Keep.cons 4 rfl (Keep.cons 5 rfl (Keep.cons 6 rfl (Keep.cons 11 rfl (Keep.cons 12 rfl (Keep.cons 13 rfl (Keep.cons 14 rfl (Keep.nil _)))))))))) ?_
  rw [vbb (rnodes e2).2]
  refine CW.seq fun K4 hK4 => ?_
  refine CW.region ?_
  refine RL.q (Y.loadAll rfl (by repeat (first | exact List.Mem.head _ | apply List.Mem.tail)) hl1 agg31) rfl ?_
  refine RL.q (Y.loadAll rfl (by repeat (first | exact List.Mem.head _ | apply List.Mem.tail)) hl2 agg31) rfl ?_
  refine RL.q (Y.move rfl) rfl ?_
  refine RL.callv rfl func15 rfl rfl (rcost_ok _ _ _ e1 e2 vs1 vs2 l _ (hv1.mono (hs1.trans hs2)) (hv2.mono (hs1.trans hs2)) (Rd.mono (hs1.trans hs2) _ _ hl) hll) ?_
  refine RL.q (Y.move rfl) rfl ?_
  refine RL.q (Y.extract rfl rfl) rfl ?_
  refine RL.q (Y.extract rfl rfl) rfl ?_
  refine RL.q (Y.assign rfl) rfl ?_
  refine RL.q (Y.assign rfl) rfl ?_
  refine RL.nil ?_
  refine hK4 _ _ _ ?_
  refine CW.keep (Keep.cons 3 rfl (Keep.cons 4 rfl (Keep.cons 11 rfl (Keep.cons 12 rfl (Keep.cons 13 rfl (Keep.cons 14 rfl (Keep.cons 15 rfl (Keep.cons 16 rfl (Keep.nil _))))))))) ?_
  rw [rcost_good hg l]
  refine CW.seq fun K5 hK5 => ?_
  refine CW.seq fun K6 hK6 => ?_
  refine CW.region ?_
  refine RL.qs (Y.move rfl) rfl (fun g34 => ?_) (fun g34 => ?_)
  · refine RL.q (Y.not rfl) rfl ?_
    refine RL.q (Y.move rfl) rfl ?_
    refine RL.qg ⟨_, _, rfl, rfl, rfl⟩ (Y.move rfl) rfl ?_
    refine RL.qg ⟨_, _, rfl, rfl, rfl⟩ (Y.notD rfl) rfl ?_
    refine RL.q (Y.pickF rfl rfl) rfl ?_
    refine RL.nil ?_
    refine hK6 _ _ _ ?_
    refine CW.keep (Keep.cons 3 rfl (Keep.cons 4 rfl (Keep.cons 11 rfl (Keep.cons 13 rfl (Keep.cons 15 rfl (Keep.cons 16 rfl (Keep.cons 39 rfl (Keep.nil _)))))))) ?_
    refine CW.ite rfl (fun h1 => ?_) (fun h1 => ?_)
    · refine CW.seq fun K7 hK7 => ?_
      refine CW.region ?_
      refine RL.q (Y.assign rfl) rfl ?_
      refine RL.nil ?_
      refine hK7 _ _ _ ?_
      refine CW.keep (Keep.cons 10 rfl (Keep.nil _)) ?_
      refine CW.ret ?_
      exact absurd hr2 h1
    · refine CW.skip ?_
      refine hK5 _ _ _ ?_
      refine CW.seq fun K8 hK8 => ?_
      refine CW.seq fun K9 hK9 => ?_
      refine CW.region ?_
      refine RL.q (Y.move rfl) rfl ?_
      refine RL.qs (Y.neq rfl rfl) rfl (fun g41 => ?_) (fun g41 => ?_)
      · refine RL.q (Y.move rfl) rfl ?_
        refine RL.no ⟨_, _, rfl, rfl, rfl⟩ rfl ?_
        refine RL.no ⟨_, _, rfl, rfl, rfl⟩ rfl ?_
        refine RL.no ⟨_, _, rfl, rfl, rfl⟩ rfl ?_
        refine RL.q (Y.pickT rfl rfl) rfl ?_
        refine RL.q (Y.move rfl) rfl ?_
        refine RL.no ⟨_, _, rfl, rfl, rfl⟩ rfl ?_
        refine RL.no ⟨_, _, rfl, rfl, rfl⟩ rfl ?_
        refine RL.no ⟨_, _, rfl, rfl, rfl⟩ rfl ?_
        refine RL.no ⟨_, _, rfl, rfl, rfl⟩ rfl ?_
        refine RL.no ⟨_, _, rfl, rfl, rfl⟩ rfl ?_
        refine RL.q (Y.pickT rfl rfl) rfl ?_
        refine RL.q (Y.move rfl) rfl ?_
        refine RL.no ⟨_, _, rfl, rfl, rfl⟩ rfl ?_
        refine RL.no ⟨_, _, rfl, rfl, rfl⟩ rfl ?_
        refine RL.no ⟨_, _, rfl, rfl, rfl⟩ rfl ?_
        refine RL.no ⟨_, _, rfl, rfl, rfl⟩ rfl ?_
        refine RL.no ⟨_, _, rfl, rfl, rfl⟩ rfl ?_
        refine RL.no ⟨_, _, rfl, rfl, rfl⟩ rfl ?_
        refine RL.no ⟨_, _, rfl, rfl, rfl⟩ rfl ?_
        refine RL.no ⟨_, _, rfl, rfl, rfl⟩ rfl ?_
        refine RL.no ⟨_, _, rfl, rfl, rfl⟩ rfl ?_
        refine RL.no ⟨_, _, rfl, rfl, rfl⟩ rfl ?_
        refine RL.no ⟨_, _, rfl, rfl, rfl⟩ rfl ?_
        refine RL.no ⟨_, _, rfl, rfl, rfl⟩ rfl ?_
        refine RL.no ⟨_, _, rfl, rfl, rfl⟩ rfl ?_
        refine RL.q (Y.pickT rfl rfl) rfl ?_
        refine RL.nil ?_
        refine hK9 _ _ _ ?_
        refine CW.keep (Keep.cons 68 rfl (Keep.nil _)) ?_
        refine CW.yes rfl ?_
        refine CW.seq fun K10 hK10 => ?_
        refine CW.region ?_
        refine RL.q (Y.assign rfl) rfl ?_
        refine RL.nil ?_
        refine hK10 _ _ _ ?_
        refine CW.keep (Keep.cons 10 rfl (Keep.nil _)) ?_
        refine CW.ret ?_
        refine ⟨_, rfl, ?_⟩
        rw [CheckR_no hg (fun h => g41 ((CostR_iff hg).1 h.1).1)]
        exact Turn.back hw1 (hs1.trans hs2) ⟨rfl, rfl, rfl⟩ (by repeat (first | exact List.Sublist.refl _ | apply List.Sublist.cons_cons | apply List.Sublist.cons))
      · refine RL.q (Y.move rfl) rfl ?_
        refine RL.qg ⟨_, _, rfl, rfl, rfl⟩ (Y.move rfl) rfl ?_
        refine RL.qg ⟨_, _, rfl, rfl, rfl⟩ (Y.move rfl) rfl ?_
        refine RL.qgs ⟨_, _, rfl, rfl, rfl⟩ (Y.neq rfl rfl) rfl (fun g45 => ?_) (fun g45 => ?_)
        · refine RL.q (Y.pickF rfl rfl) rfl ?_
          refine RL.q (Y.move rfl) rfl ?_
          refine RL.no ⟨_, _, rfl, rfl, rfl⟩ rfl ?_
          refine RL.no ⟨_, _, rfl, rfl, rfl⟩ rfl ?_
          refine RL.no ⟨_, _, rfl, rfl, rfl⟩ rfl ?_
          refine RL.no ⟨_, _, rfl, rfl, rfl⟩ rfl ?_
          refine RL.no ⟨_, _, rfl, rfl, rfl⟩ rfl ?_
          refine RL.q (Y.pickT rfl rfl) rfl ?_
          refine RL.q (Y.move rfl) rfl ?_
          refine RL.no ⟨_, _, rfl, rfl, rfl⟩ rfl ?_
          refine RL.no ⟨_, _, rfl, rfl, rfl⟩ rfl ?_
          refine RL.no ⟨_, _, rfl, rfl, rfl⟩ rfl ?_
          refine RL.no ⟨_, _, rfl, rfl, rfl⟩ rfl ?_
          refine RL.no ⟨_, _, rfl, rfl, rfl⟩ rfl ?_
          refine RL.no ⟨_, _, rfl, rfl, rfl⟩ rfl ?_
          refine RL.no ⟨_, _, rfl, rfl, rfl⟩ rfl ?_
          refine RL.no ⟨_, _, rfl, rfl, rfl⟩ rfl ?_
          refine RL.no ⟨_, _, rfl, rfl, rfl⟩ rfl ?_
          refine RL.no ⟨_, _, rfl, rfl, rfl⟩ rfl ?_
          refine RL.no ⟨_, _, rfl, rfl, rfl⟩ rfl ?_
          refine RL.no ⟨_, _, rfl, rfl, rfl⟩ rfl ?_
          refine RL.no ⟨_, _, rfl, rfl, rfl⟩ rfl ?_
          refine RL.q (Y.pickT rfl rfl) rfl ?_
          refine RL.nil ?_
          refine hK9 _ _ _ ?_
          refine CW.keep (Keep.cons 68 rfl (Keep.nil _)) ?_
          refine CW.yes rfl ?_
          refine CW.seq fun K11 hK11 => ?_
          refine CW.region ?_
          refine RL.q (Y.assign rfl) rfl ?_
          refine RL.nil ?_
          refine hK11 _ _ _ ?_
          refine CW.keep (Keep.cons 10 rfl (Keep.nil _)) ?_
          refine CW.ret ?_
          refine ⟨_, rfl, ?_⟩
          rw [CheckR_no hg (fun h => g45 ((CostR_iff hg).1 h.1).2)]
          exact Turn.back hw1 (hs1.trans hs2) ⟨rfl, rfl, rfl⟩ (by repeat (first | exact List.Sublist.refl _ | apply List.Sublist.cons_cons | apply List.Sublist.cons))
        · refine RL.q (Y.pickF rfl rfl) rfl ?_
          refine RL.q (Y.move rfl) rfl ?_
          refine RL.qg ⟨_, _, rfl, rfl, rfl⟩ (Y.move rfl) rfl ?_
          refine RL.qg ⟨_, _, rfl, rfl, rfl⟩ (Y.move rfl) rfl ?_
          refine RL.qg ⟨_, _, rfl, rfl, rfl⟩ (Y.move rfl) rfl ?_
          refine RL.callvs ⟨_, _, rfl, rfl, rfl⟩ func48 rfl rfl (rright_ok _ _ _ (rnodes e1).1 (rnodes e2).1 (pon e1 0) (pon e2 0) hA hB _ _ _ d (Rd.mono hs2 _ _ hu1) hu2 hd2 (pon_whole e1).post (pon_whole e2).post (by omega) (by omega)) (fun g51 => ?_) (fun g51 => ?_)
          · refine RL.qg ⟨_, _, rfl, rfl, rfl⟩ (Y.not rfl) rfl ?_
            refine RL.q (Y.pickF rfl rfl) rfl ?_
            refine RL.q (Y.move rfl) rfl ?_
            obtain ⟨rR, hR0, hR1, hR2, hR3⟩ := g51.ok.get (v := (pon e1 0).length - 1) (w := (pon e2 0).length - 1) (by omega) (by omega)
            have hRl : rR.length = (pon e2 0).length := g51.ok.row rR (List.mem_of_getElem? hR0)
            have hdl := g51.1
            obtain ⟨uR, hcR, hrR⟩ := hd2.cell (q := ((pon e1 0).length - 1) * 1) (dtab_get hR0)
            obtain ⟨arR, crR, rfl, _, _, _⟩ := hrR.slice
            refine RL.qg ⟨_, _, rfl, rfl, rfl⟩ (Y.move rfl) rfl ?_
            refine RL.qg ⟨_, _, rfl, rfl, rfl⟩ (Y.move rfl) rfl ?_
            refine RL.qg ⟨_, _, rfl, rfl, rfl⟩ (Y.len rfl Try.underlying44) rfl ?_
            refine RL.qg ⟨_, _, rfl, rfl, rfl⟩ (Y.sub rfl rfl (by omega)) rfl ?_
            refine RL.qg ⟨_, _, rfl, rfl, rfl⟩ (Y.indexP ((pon e1 0).length - 1) rfl rfl (by omega) (by omega) slice35 hd2) rfl ?_
            refine RL.qg ⟨_, _, rfl, rfl, rfl⟩ (Y.loadC rfl hcR flat22) rfl ?_
            refine RL.qg ⟨_, _, rfl, rfl, rfl⟩ (Y.move rfl) rfl ?_
            refine RL.qg ⟨_, _, rfl, rfl, rfl⟩ (Y.len rfl Try.underlying44) rfl ?_
            refine RL.qg ⟨_, _, rfl, rfl, rfl⟩ (Y.sub rfl rfl (by omega)) rfl ?_
            refine RL.qg ⟨_, _, rfl, rfl, rfl⟩ (Y.indexP ((pon e2 0).length - 1) rfl rfl (by omega) (by omega) slice22 hrR) rfl ?_
            refine RL.qg ⟨_, _, rfl, rfl, rfl⟩ (Y.loadP rfl hrR (dints_get hR1) flat3) rfl ?_
            refine RL.qg ⟨_, _, rfl, rfl, rfl⟩ (Y.move rfl) rfl ?_
            refine RL.qg ⟨_, _, rfl, rfl, rfl⟩ (Y.neq rfl rfl) rfl ?_
            refine RL.q (Y.pickF rfl rfl) rfl ?_
            refine RL.nil ?_
            refine hK9 _ _ _ ?_
            refine CW.keep (Keep.cons 68 rfl (Keep.nil _)) ?_
            refine CW.ite rfl (fun h4 => ?_) (fun h4 => ?_)
            · refine CW.seq fun K12 hK12 => ?_
              refine CW.region ?_
              refine RL.q (Y.assign rfl) rfl ?_
              refine RL.nil ?_
              refine hK12 _ _ _ ?_
              refine CW.keep (Keep.cons 10 rfl (Keep.nil _)) ?_
              refine CW.ret ?_
              refine ⟨_, rfl, ?_⟩
              rw [CheckR_no hg (fun h => by have := h.2.2; omega)]
              exact Turn.back hw1 (hs1.trans hs2) ⟨rfl, rfl, rfl⟩ (by repeat (first | exact List.Sublist.refl _ | apply List.Sublist.cons_cons | apply List.Sublist.cons))
            · refine CW.skip ?_
              refine hK8 _ _ _ ?_
              refine CW.seq fun K13 hK13 => ?_
              refine CW.region ?_
              refine RL.q (Y.assign rfl) rfl ?_
              refine RL.nil ?_
              refine hK13 _ _ _ ?_
              refine CW.keep (Keep.cons 10 rfl (Keep.nil _)) ?_
              refine CW.ret ?_
              refine ⟨_, rfl, ?_⟩
              rw [CheckR_yes hg ⟨(CostR_iff hg).2 ⟨by omega, by omega⟩, g51, by omega⟩]
              exact Turn.back hw1 (hs1.trans hs2) ⟨rfl, rfl, rfl⟩ (by repeat (first | exact List.Sublist.refl _ | apply List.Sublist.cons_cons | apply List.Sublist.cons))
          · refine RL.qg ⟨_, _, rfl, rfl, rfl⟩ (Y.not rfl) rfl ?_
            refine RL.q (Y.pickF rfl rfl) rfl ?_
            refine RL.q (Y.move rfl) rfl ?_
            refine RL.no ⟨_, _, rfl, rfl, rfl⟩ rfl ?_
            refine RL.no ⟨_, _, rfl, rfl, rfl⟩ rfl ?_
            refine RL.no ⟨_, _, rfl, rfl, rfl⟩ rfl ?_
            refine RL.no ⟨_, _, rfl, rfl, rfl⟩ rfl ?_
            refine RL.no ⟨_, _, rfl, rfl, rfl⟩ rfl ?_
            refine RL.no ⟨_, _, rfl, rfl, rfl⟩ rfl ?_
            refine RL.no ⟨_, _, rfl, rfl, rfl⟩ rfl ?_
            refine RL.no ⟨_, _, rfl, rfl, rfl⟩ rfl ?_
            refine RL.no ⟨_, _, rfl, rfl, rfl⟩ rfl ?_
            refine RL.no ⟨_, _, rfl, rfl, rfl⟩ rfl ?_
            refine RL.no ⟨_, _, rfl, rfl, rfl⟩ rfl ?_
            refine RL.no ⟨_, _, rfl, rfl, rfl⟩ rfl ?_
            refine RL.no ⟨_, _, rfl, rfl, rfl⟩ rfl ?_
            refine RL.q (Y.pickT rfl rfl) rfl ?_
            refine RL.nil ?_
            refine hK9 _ _ _ ?_
            refine CW.keep (Keep.cons 68 rfl (Keep.nil _)) ?_
            refine CW.yes rfl ?_
            refine CW.seq fun K14 hK14 => ?_
            refine CW.region ?_
            refine RL.q (Y.assign rfl) rfl ?_
            refine RL.nil ?_
            refine hK14 _ _ _ ?_
            refine CW.keep (Keep.cons 10 rfl (Keep.nil _)) ?_
            refine CW.ret ?_
            refine ⟨_, rfl, ?_⟩
            rw [CheckR_no hg (fun h => g51 h.2.1)]
            exact Turn.back hw1 (hs1.trans hs2) ⟨rfl, rfl, rfl⟩ (by repeat (first | exact List.Sublist.refl _ | apply List.Sublist.cons_cons | apply List.Sublist.cons))
  · refine RL.q (Y.not rfl) rfl ?_
    refine RL.q (Y.move rfl) rfl ?_
    refine RL.no ⟨_, _, rfl, rfl, rfl⟩ rfl ?_
    refine RL.no ⟨_, _, rfl, rfl, rfl⟩ rfl ?_
    refine RL.q (Y.pickT rfl rfl) rfl ?_
    refine RL.nil ?_
    refine hK6 _ _ _ ?_
    refine CW.keep (Keep.cons 3 rfl (Keep.cons 4 rfl (Keep.cons 11 rfl (Keep.cons 13 rfl (Keep.cons 15 rfl (Keep.cons 16 rfl (Keep.cons 39 rfl (Keep.nil _)))))))) ?_
    refine CW.yes rfl ?_
    refine CW.seq fun K15 hK15 => ?_
    refine CW.region ?_
    refine RL.q (Y.assign rfl) rfl ?_
    refine RL.nil ?_
    refine hK15 _ _ _ ?_
    refine CW.keep (Keep.cons 10 rfl (Keep.nil _)) ?_
    refine CW.ret ?_
    exact absurd hr1 g34

theorem least_ok (w0 : World) (M : Mem) (Γ : List As) (e1 e2 : Ex) (vs1 vs2 : List Value) (hv1 : RdL M e1.enc vs1) (hv2 : RdL M e2.enc vs2) :
    CallOk Try.prog w0 M Γ 27 #[.agg vs1.toArray, .agg vs2.toArray] (fun v M' Γ' => (∃ n, LeastR e1 e2 n ∧ v = vint n) ∧ M' = M ∧ Γ' = Γ) := by
  have hl1 : vs1.length = 15 := hv1.1.trans (Ex.enc_len e1)
  have hl2 : vs2.length = 15 := hv2.1.trans (Ex.enc_len e2)
  refine enter (f := 27) Try.func27 rfl Try.ntmps27 rfl rfl fun w1 hw1 => ?_
  refine CW.seq fun K1 hK1 => ?_
  refine CW.region ?_
  refine RL.box _ rfl rfl rfl fun b2 => ?_
  refine RL.box _ rfl rfl rfl fun b3 => ?_
  refine RL.q (Y.assign rfl) rfl ?_
  refine RL.nil ?_
  refine hK1 _ _ _ ?_
  refine CW.keep (Keep.cons 2 rfl (Keep.cons 3 rfl (Keep.nil _))) ?_
  refine CW.seq fun K2 hK2 => ?_
  refine CW.region ?_
  refine RL.q (Y.loadAll rfl (by repeat (first | exact List.Mem.head _ | apply List.Mem.tail)) hl1 agg31) rfl ?_
  refine RL.q (Y.loadAll rfl (by repeat (first | exact List.Mem.head _ | apply List.Mem.tail)) hl2 agg31) rfl ?_
  refine RL.call rfl func13 rfl rfl (match_ok _ _ _ e1 e2 vs1 vs2 hv1 hv2) ?_
  rintro v11 M1 _ ⟨hs1, rfl, hR⟩
  obtain ⟨n, up, ud, rfl, hn⟩ := hR.least
  refine RL.q (Y.move rfl) rfl ?_
  refine RL.q (Y.extract rfl rfl) rfl ?_
  refine RL.q (Y.extract rfl rfl) rfl ?_
  refine RL.q (Y.extract rfl rfl) rfl ?_
  refine RL.q (Y.assign rfl) rfl ?_
  refine RL.q (Y.assign rfl) rfl ?_
  refine RL.q (Y.assign rfl) rfl ?_
  refine RL.nil ?_
  refine hK2 _ _ _ ?_
  refine CW.keep (Keep.cons 6 rfl (Keep.nil _)) ?_
  refine CW.seq fun K3 hK3 => ?_
  refine CW.region ?_
  refine RL.q (Y.move rfl) rfl ?_
  refine RL.q (Y.assign rfl) rfl ?_
  refine RL.nil ?_
  refine hK3 _ _ _ ?_
  refine CW.keep (Keep.cons 4 rfl (Keep.nil _)) ?_
  refine CW.ret ?_
  exact ⟨_, rfl, Turn.back hw1 hs1 ⟨⟨n, hn, rfl⟩, rfl, rfl⟩ (by repeat (first | exact List.Sublist.refl _ | apply List.Sublist.cons_cons | apply List.Sublist.cons))⟩
end Go.Proofs.Ytjkcjbicleohkaa
