/- THE WALKS, law 1: MatchLeast. Printed by m16L1.py. -/
import Derived.Test.YtjkcjbicleohkaaWv
import Derived.Test.YtjkcjbicleohkaaTree
namespace Go.Proofs.Ytjkcjbicleohkaa
open Xe

set_option maxHeartbeats 2000000 in
theorem MatchLeast_ok (w0 : World) (M : Mem) (Γ : List As) (l m : List Int) (from0 : Int) (ul um : Value) (hl : Rd M (dints l) ul) (hm : Rd M (dints m) um) (hli : ∀ x ∈ l, InI x) (hmi : ∀ x ∈ m, InI x) (hfi : InI from0) :
    CallOk Try.prog w0 M Γ 3 #[ul, um, vint from0] (Is M Γ (.bool true)) := by
  have har := around_lt from0 30 (by omega)
  obtain ⟨a, ha⟩ : ∃ a, a = tree l 11 0 := ⟨_, rfl⟩
  obtain ⟨b, hb⟩ : ∃ b, b = tree m 11 (around from0 30) := ⟨_, rfl⟩
  have hga : good a := ha ▸ tree_good l 11 0 (by omega) (by omega)
  have hgb : good b := hb ▸ tree_good m 11 (around from0 30) (by omega) (by omega)
  have hg := And.intro hga hgb
  have hla := pon_le hga
  have hlb := pon_le hgb
  have hA0 := (pon_whole a).pos
  have hB0 := (pon_whole b).pos
  obtain ⟨hr1, hRA⟩ := rnodes_good hga
  have hrl : (rnodes a).1.length = (pon a 0).length := by rw [← hRA, List.length_map]
  have hsa := tree_size l 11 0 (by omega)
  rw [← ha] at hsa
  have hsb := tree_size m 11 (around from0 30) (by omega)
  rw [← hb] at hsb
  refine enter (f := 3) Try.func3 rfl Try.ntmps3 rfl rfl fun w1 hw1 => ?_
  refine CW.seq fun K1 hK1 => ?_
  refine CW.region ?_
  refine RL.q (Y.assign rfl) rfl ?_
  refine RL.nil ?_
  refine hK1 _ _ _ ?_
  refine CW.keep (Keep.cons 0 rfl (Keep.cons 1 rfl (Keep.cons 2 rfl (Keep.nil _)))) ?_
  refine CW.seq fun K2 hK2 => ?_
  refine CW.region ?_
  refine RL.q (Y.move rfl) rfl ?_
  refine RL.call rfl func11 rfl rfl (ha ▸ tree_ok _ _ _ l _ 11 0 hl hli (by omega) (by omega)) ?_
  rintro _ M22 Γ ⟨hs22, rfl, us22, rfl, hu22⟩
  have hul22 : us22.length = 15 := hu22.1.trans (Ex.enc_len _)
  refine RL.alloc _ zero31 rfl rfl fun b7 => ?_
  refine RL.storeAgg us22 rfl rfl (by repeat (first | exact Repl.here _ | apply Repl.there)) (by simp [hul22]) (by simp [hul22]) (fun _ _ => hu22.one) (by rw [hul22]; exact size31) ?_
  refine RL.nil ?_
  refine hK2 _ _ _ ?_
  refine CW.keep (Keep.cons 1 rfl (Keep.cons 2 rfl (Keep.cons 7 rfl (Keep.nil _)))) ?_
  refine CW.seq fun K3 hK3 => ?_
  refine CW.region ?_
  refine RL.q (Y.move rfl) rfl ?_
  refine RL.q (Y.move rfl) rfl ?_
  refine RL.callv rfl func12 rfl rfl (around_ok _ _ _ from0 30 hfi (by omega)) ?_
  refine RL.call rfl func11 rfl rfl (hb ▸ tree_ok _ _ _ m _ 11 (around from0 30) (Rd.mono hs22 _ _ hm) hmi (by omega) (by omega)) ?_
  rintro _ M26 _ ⟨hs26, rfl, us26, rfl, hu26⟩
  have hul26 : us26.length = 15 := hu26.1.trans (Ex.enc_len _)
  refine RL.alloc _ zero31 rfl rfl fun b8 => ?_
  refine RL.storeAgg us26 rfl rfl (by repeat (first | exact Repl.here _ | apply Repl.there)) (by simp [hul26]) (by simp [hul26]) (fun _ _ => hu26.one) (by rw [hul26]; exact size31) ?_
  refine RL.nil ?_
  refine hK3 _ _ _ ?_
  refine CW.keep (Keep.cons 7 rfl (Keep.cons 8 rfl (Keep.nil _))) ?_
  refine CW.seq fun K4 hK4 => ?_
  refine CW.region ?_
  refine RL.q (Y.loadAll rfl (by repeat (first | exact List.Mem.head _ | apply List.Mem.tail)) hul22 agg31) rfl ?_
  refine RL.q (Y.loadAll rfl (by repeat (first | exact List.Mem.head _ | apply List.Mem.tail)) hul26 agg31) rfl ?_
  refine RL.call rfl func13 rfl rfl (match_ok _ _ _ a b us22 us26 (hu22.mono hs26) hu26) ?_
  rintro v30 M30 _ ⟨hs30, rfl, hR⟩
  obtain ⟨d, n, Q, up, ud, rfl, hbest, hup, hud⟩ := hR.1 hg
  obtain ⟨ap, cp, rfl, hcp, hlimp, _⟩ := hup.slice
  obtain ⟨ad, cd, rfl, hcd, _, _⟩ := hud.slice
  have hQl := hbest.mt.len
  have hdl := hbest.fix.ok.len
  refine RL.q (Y.move rfl) rfl ?_
  refine RL.q (Y.extract rfl rfl) rfl ?_
  refine RL.q (Y.extract rfl rfl) rfl ?_
  refine RL.q (Y.extract rfl rfl) rfl ?_
  refine RL.q (Y.assign rfl) rfl ?_
  refine RL.q (Y.assign rfl) rfl ?_
  refine RL.q (Y.assign rfl) rfl ?_
  refine RL.nil ?_
  refine hK4 _ _ _ ?_
  refine CW.keep (Keep.cons 7 rfl (Keep.cons 8 rfl (Keep.cons 9 rfl (Keep.cons 10 rfl (Keep.cons 11 rfl (Keep.nil _)))))) ?_
  refine CW.seq fun K5 hK5 => ?_
  refine CW.region ?_
  refine RL.q (Y.loadAll rfl (by repeat (first | exact List.Mem.head _ | apply List.Mem.tail)) hul22 agg31) rfl ?_
  refine RL.q (Y.loadAll rfl (by repeat (first | exact List.Mem.head _ | apply List.Mem.tail)) hul26 agg31) rfl ?_
  refine RL.call rfl func14 rfl rfl (rleast_ok _ _ _ a b us22 us26 (hu22.mono (hs26.trans hs30)) (hu26.mono hs30) hga hgb) ?_
  rintro v36 M36 _ ⟨hs36, rfl, d2, hF2, hd2⟩
  obtain rfl : d = d2 := hbest.fix.unique (pon_whole a).post (pon_whole b).post hF2
  obtain ⟨aw, cw, rfl, hcw, _, _⟩ := hd2.slice
  refine RL.q (Y.assign rfl) rfl ?_
  refine RL.nil ?_
  refine hK5 _ _ _ ?_
  refine CW.keep (Keep.cons 7 rfl (Keep.cons 8 rfl (Keep.cons 9 rfl (Keep.cons 10 rfl (Keep.cons 11 rfl (Keep.cons 12 rfl (Keep.nil _))))))) ?_
  refine CW.seq fun K6 hK6 => ?_
  refine CW.regionH mix _ [.own b8 31 us26, .own b7 31 us22] (fun _ hw => hw.sub (by repeat (first | exact List.Sublist.refl _ | exact List.nil_sublist _ | apply List.Sublist.cons_cons | apply List.Sublist.cons))) ?_
  refine HL.take 0 rfl (by kernel_rfl) (by kernel_rfl) (by kernel_rfl) rfl (Y.loadAll rfl (by repeat (first | exact List.Mem.head _ | apply List.Mem.tail)) hul22 agg31) rfl ?_
  refine HL.take 1 rfl (by kernel_rfl) (by kernel_rfl) (by kernel_rfl) rfl (Y.loadAll rfl (by repeat (first | exact List.Mem.head _ | apply List.Mem.tail)) hul26 agg31) rfl ?_
  refine HL.take 2 rfl (by kernel_rfl) (by kernel_rfl) (by kernel_rfl) rfl (Y.move rfl) rfl ?_
  refine HL.step 3 rfl (by kernel_rfl) ?_
  refine RL.call rfl func16 rfl rfl (plain_ok _ _ _ (Q.map (pairOf (pon a 0) (pon b 0))) _ (Rd.mono hs36 _ _ hup) (by rw [List.length_map]; omega)) ?_
  rintro v41 M41 _ ⟨hs41, rfl, h41⟩
  refine RL.nil ⟨keep_more hs41 (by repeat (first | exact List.Sublist.refl _ | exact List.nil_sublist _ | apply List.Sublist.cons_cons | apply List.Sublist.cons)), ?_⟩
  refine HL.step 4 rfl (by kernel_rfl) ?_
  refine RL.call rfl func15 rfl rfl (rcost_ok _ _ _ a b us22 us26 (Q.map (pairOf (pon a 0) (pon b 0))) _ (hu22.mono (hs26.trans (hs30.trans (hs36.trans (hs41))))) (hu26.mono (hs30.trans (hs36.trans (hs41)))) h41 (by rw [List.length_map]; omega)) ?_
  rintro _ M41 _ ⟨rfl, rfl, rfl⟩
  refine RL.nil ⟨keep_more hs41 (by repeat (first | exact List.Sublist.refl _ | exact List.nil_sublist _ | apply List.Sublist.cons_cons | apply List.Sublist.cons)), ?_⟩
  refine HL.take 5 rfl (by kernel_rfl) (by kernel_rfl) (by kernel_rfl) rfl (Y.move rfl) rfl ?_
  refine HL.take 6 rfl (by kernel_rfl) (by kernel_rfl) (by kernel_rfl) rfl (Y.extract rfl rfl) rfl ?_
  refine HL.take 7 rfl (by kernel_rfl) (by kernel_rfl) (by kernel_rfl) rfl (Y.extract rfl rfl) rfl ?_
  refine HL.take 8 rfl (by kernel_rfl) (by kernel_rfl) (by kernel_rfl) rfl (Y.assign rfl) rfl ?_
  refine HL.take 9 rfl (by kernel_rfl) (by kernel_rfl) (by kernel_rfl) rfl (Y.assign rfl) rfl ?_
  refine HL.done (by kernel_rfl) ?_
  refine hK6 _ _ _ ?_
  refine CW.keep (Keep.cons 7 rfl (Keep.cons 8 rfl (Keep.cons 9 rfl (Keep.cons 10 rfl (Keep.cons 11 rfl (Keep.cons 12 rfl (Keep.cons 13 rfl (Keep.cons 14 rfl (Keep.nil _))))))))) ?_
  rw [show rcost a b (Q.map (pairOf (pon a 0) (pon b 0))) = (n, 0) from by rw [rcost_good hg, CostR_some hg (hbest.go hg)]]
  dsimp only
  refine CW.seq fun K7 hK7 => ?_
  refine CW.region ?_
  refine RL.q (Y.loadAll rfl (by repeat (first | exact List.Mem.head _ | apply List.Mem.tail)) hul22 agg31) rfl ?_
  refine RL.call rfl func17 rfl rfl (nodes_ok _ _ _ a us22 (hu22.mono (hs26.trans (hs30.trans (hs36.trans (hs41)))))) ?_
  rintro _ M47 _ ⟨hs47, rfl, u47, rfl, hu47⟩
  obtain ⟨a15, c15, rfl, hc15, hlim15, _⟩ := hu47.slice
  refine RL.q (Y.move rfl) rfl ?_
  refine RL.q (Y.extract rfl rfl) rfl ?_
  refine RL.q (Y.extract rfl rfl) rfl ?_
  refine RL.q (Y.assign rfl) rfl ?_
  refine RL.q (Y.assign rfl) rfl ?_
  refine RL.nil ?_
  refine hK7 _ _ _ ?_
  refine CW.keep (Keep.cons 7 rfl (Keep.cons 8 rfl (Keep.cons 9 rfl (Keep.cons 10 rfl (Keep.cons 11 rfl (Keep.cons 12 rfl (Keep.cons 13 rfl (Keep.cons 14 rfl (Keep.cons 15 rfl (Keep.nil _)))))))))) ?_
  refine CW.seq fun K8 hK8 => ?_
  refine CW.seq fun K9 hK9 => ?_
  have hs4147 := hs41.trans hs47
  obtain ⟨rR, hR0, hR1, hR2, hR3⟩ := hbest.fix.ok.get (v := (pon a 0).length - 1) (w := (pon b 0).length - 1) (by omega) (by omega)
  have hRl : rR.length = (pon b 0).length := hbest.fix.ok.row rR (List.mem_of_getElem? hR0)
  obtain ⟨uR, hcR, hrR⟩ := (Rd.mono hs4147 _ _ hd2).cell (q := ((pon a 0).length - 1) * 1) (dtab_get hR0)
  obtain ⟨arR, crR, rfl, _, _, _⟩ := hrR.slice
  obtain ⟨rZ, hZ0, _⟩ := hbest.fix.ok.get (v := 0) (w := 0) (by omega) (by omega)
  have hZl : rZ.length = (pon b 0).length := hbest.fix.ok.row rZ (List.mem_of_getElem? hZ0)
  obtain ⟨uZ, hcZ, hrZ⟩ := (Rd.mono hs4147 _ _ hd2).cell (q := 0 * 1) (dtab_get hZ0)
  obtain ⟨arZ, crZ, rfl, _, _, _⟩ := hrZ.slice
  have hroot := hbest.root
  refine CW.regionQ mix (by kernel_rfl) ?_
  refine QL.q (Y.move rfl) rfl ?_
  refine QL.q (Y.move rfl) rfl ?_
  refine QL.callvs rfl func18 rfl rfl (fun _ _ => sameTab_ok _ _ _ d d _ _ (Rd.mono (hs36.trans (hs41.trans (hs47))) _ _ hud) (Rd.mono (hs41.trans (hs47)) _ _ hd2)) (fun g52 => ?_) (fun g52 => ?_)
  · refine QL.q (Y.not rfl) rfl ?_
    refine QL.q (Y.move rfl) rfl ?_
    refine QL.qg ⟨_, _, rfl, rfl, rfl⟩ (Y.move rfl) rfl ?_
    refine QL.qg ⟨_, _, rfl, rfl, rfl⟩ (Y.move rfl) rfl ?_
    refine QL.qg ⟨_, _, rfl, rfl, rfl⟩ (Y.move rfl) rfl ?_
    refine QL.qg ⟨_, _, rfl, rfl, rfl⟩ (Y.len rfl Try.underlying35) rfl ?_
    refine QL.qg ⟨_, _, rfl, rfl, rfl⟩ (Y.sub rfl rfl (by omega)) rfl ?_
    refine QL.qg ⟨_, _, rfl, rfl, rfl⟩ (Y.indexP ((pon a 0).length - 1) rfl rfl (by omega) (by omega) slice35 (Rd.mono hs4147 _ _ hd2)) rfl ?_
    refine QL.qg ⟨_, _, rfl, rfl, rfl⟩ (Y.loadC rfl hcR flat22) rfl ?_
    refine QL.qg ⟨_, _, rfl, rfl, rfl⟩ (Y.move rfl) rfl ?_
    refine QL.qg ⟨_, _, rfl, rfl, rfl⟩ (Y.indexP 0 rfl rfl rfl (by omega) slice35 (Rd.mono hs4147 _ _ hd2)) rfl ?_
    refine QL.qg ⟨_, _, rfl, rfl, rfl⟩ (Y.loadC rfl hcZ flat22) rfl ?_
    refine QL.qg ⟨_, _, rfl, rfl, rfl⟩ (Y.len rfl Try.underlying22) rfl ?_
    refine QL.qg ⟨_, _, rfl, rfl, rfl⟩ (Y.sub rfl rfl (by omega)) rfl ?_
    refine QL.qg ⟨_, _, rfl, rfl, rfl⟩ (Y.indexP ((pon b 0).length - 1) rfl rfl (by omega) (by omega) slice22 hrR) rfl ?_
    refine QL.qg ⟨_, _, rfl, rfl, rfl⟩ (Y.loadP rfl hrR (dints_get hR1) flat3) rfl ?_
    refine QL.qgs ⟨_, _, rfl, rfl, rfl⟩ (Y.neq rfl rfl) rfl (fun g69 => ?_) (fun g69 => ?_)
    · refine QL.q (Y.pickF rfl rfl) rfl ?_
      refine QL.q (Y.move rfl) rfl ?_
      refine QL.no ⟨_, _, rfl, rfl, rfl⟩ rfl ?_
      refine QL.no ⟨_, _, rfl, rfl, rfl⟩ rfl ?_
      refine QL.q (Y.pickT rfl rfl) rfl ?_
      refine QL.q (Y.move rfl) rfl ?_
      refine QL.no ⟨_, _, rfl, rfl, rfl⟩ rfl ?_
      refine QL.no ⟨_, _, rfl, rfl, rfl⟩ rfl ?_
      refine QL.no ⟨_, _, rfl, rfl, rfl⟩ rfl ?_
      refine QL.q (Y.pickT rfl rfl) rfl ?_
      refine QL.nil ?_
      refine hK9 _ _ _ ?_
      refine CW.keep (Keep.cons 7 rfl (Keep.cons 8 rfl (Keep.cons 9 rfl (Keep.cons 15 rfl (Keep.cons 79 rfl (Keep.nil _)))))) ?_
      refine CW.yes rfl ?_
      refine CW.seq fun K10 hK10 => ?_
      refine CW.region ?_
      refine RL.q (Y.assign rfl) rfl ?_
      refine RL.nil ?_
      refine hK10 _ _ _ ?_
      refine CW.keep (Keep.cons 6 rfl (Keep.nil _)) ?_
      refine CW.ret ?_
      exact absurd hroot g69
    · refine QL.q (Y.pickF rfl rfl) rfl ?_
      refine QL.q (Y.move rfl) rfl ?_
      refine QL.qg ⟨_, _, rfl, rfl, rfl⟩ (Y.move rfl) rfl ?_
      refine QL.qgs ⟨_, _, rfl, rfl, rfl⟩ (Y.neq rfl rfl) rfl (fun g73 => ?_) (fun g73 => ?_)
      · refine QL.q (Y.pickF rfl rfl) rfl ?_
        refine QL.q (Y.move rfl) rfl ?_
        refine QL.no ⟨_, _, rfl, rfl, rfl⟩ rfl ?_
        refine QL.no ⟨_, _, rfl, rfl, rfl⟩ rfl ?_
        refine QL.no ⟨_, _, rfl, rfl, rfl⟩ rfl ?_
        refine QL.q (Y.pickT rfl rfl) rfl ?_
        refine QL.nil ?_
        refine hK9 _ _ _ ?_
        refine CW.keep (Keep.cons 7 rfl (Keep.cons 8 rfl (Keep.cons 9 rfl (Keep.cons 15 rfl (Keep.cons 79 rfl (Keep.nil _)))))) ?_
        refine CW.yes rfl ?_
        refine CW.seq fun K11 hK11 => ?_
        refine CW.region ?_
        refine RL.q (Y.assign rfl) rfl ?_
        refine RL.nil ?_
        refine hK11 _ _ _ ?_
        refine CW.keep (Keep.cons 6 rfl (Keep.nil _)) ?_
        refine CW.ret ?_
        exact absurd rfl g73
      · refine QL.q (Y.pickF rfl rfl) rfl ?_
        refine QL.q (Y.move rfl) rfl ?_
        refine QL.qg ⟨_, _, rfl, rfl, rfl⟩ (Y.move rfl) rfl ?_
        refine QL.qg ⟨_, _, rfl, rfl, rfl⟩ (Y.move rfl) rfl ?_
        refine QL.qg ⟨_, _, rfl, rfl, rfl⟩ (Y.neq rfl rfl) rfl ?_
        refine QL.q (Y.pickF rfl rfl) rfl ?_
        refine QL.nil ?_
        refine hK9 _ _ _ ?_
        refine CW.keep (Keep.cons 7 rfl (Keep.cons 8 rfl (Keep.cons 9 rfl (Keep.cons 15 rfl (Keep.cons 79 rfl (Keep.nil _)))))) ?_
        refine CW.ite rfl (fun h3 => ?_) (fun h3 => ?_)
        · refine CW.seq fun K12 hK12 => ?_
          refine CW.region ?_
          refine RL.q (Y.assign rfl) rfl ?_
          refine RL.nil ?_
          refine hK12 _ _ _ ?_
          refine CW.keep (Keep.cons 6 rfl (Keep.nil _)) ?_
          refine CW.ret ?_
          exact absurd rfl h3
        · refine CW.skip ?_
          refine hK8 _ _ _ ?_
          refine CW.seq fun K13 hK13 => ?_
          refine CW.region ?_
          refine RL.q (Y.assign rfl) rfl ?_
          refine RL.nil ?_
          refine hK13 _ _ _ ?_
          refine CW.keep (Keep.cons 7 rfl (Keep.cons 8 rfl (Keep.cons 9 rfl (Keep.cons 15 rfl (Keep.cons 17 rfl (Keep.nil _)))))) ?_
          refine CW.seq fun K14 hK14 => ?_
          refine CW.seq fun K15 hK15 => ?_
          refine CW.region ?_
          refine RL.q (Y.assign rfl) rfl ?_
          refine RL.nil ?_
          refine hK15 _ _ _ ?_
          refine CW.keep (Keep.cons 7 rfl (Keep.cons 8 rfl (Keep.cons 9 rfl (Keep.cons 15 rfl (Keep.cons 17 rfl (Keep.cons 18 rfl (Keep.nil _))))))) ?_
          refine CW.block ?_
          -- LOOP 1: live [7, 8, 9, 15, 17, 18] changed [17, 18]
          refine CW.keep (Keep.cons 17 rfl (Keep.cons 18 rfl (Keep.cons 7 rfl (Keep.cons 8 rfl (Keep.cons 9 rfl (Keep.cons 15 rfl (Keep.nil _))))))) ?_
          refine CW.loopF (fun mm Lc M3 Γc => ∃ (i : Nat) (last : Int), mm = Q.length - i ∧ i ≤ Q.length ∧ Lc = [(17, vint last), (18, vint i)] ∧ Γc = [] ∧ M3 = M47 ∧ ∀ j (hj : j < Q.length), i ≤ j → last < (Q[j].1 : Nat)) Q.length [(17, _), (18, _)] [] rfl rfl ⟨0, -1, rfl, Nat.zero_le _, rfl, rfl, rfl, fun _ _ _ => by omega⟩ ?_
          rintro mm Lc M3 Γc hsub ⟨i, last, rfl, hi, rfl, rfl, rfl, hT⟩
          refine CW.seq fun K16 hK16 => ?_
          refine CW.seq fun K17 hK17 => ?_
          refine CW.region ?_
          refine RL.q (Y.move rfl) rfl ?_
          refine RL.q (Y.move rfl) rfl ?_
          refine RL.q (Y.len rfl Try.underlying34) rfl ?_
          refine RL.q (Y.lss rfl rfl) rfl ?_
          refine RL.nil ?_
          refine hK17 _ _ _ ?_
          refine CW.keep (Keep.cons 7 rfl (Keep.cons 8 rfl (Keep.cons 9 rfl (Keep.cons 15 rfl (Keep.cons 17 rfl (Keep.cons 18 rfl (Keep.cons 83 rfl (Keep.nil _)))))))) ?_
          refine CW.ite rfl (fun h4 => ?_) (fun h4 => ?_)
          · have hia : i < Q.length := by rw [List.length_map] at h4; omega
            refine CW.skip ?_
            refine hK16 _ _ _ ?_
            refine CW.seq fun K18 hK18 => ?_
            refine CW.block ?_
            refine CW.seq fun K19 hK19 => ?_
            refine CW.region ?_
            refine RL.q (Y.assign rfl) rfl ?_
            refine RL.nil ?_
            refine hK19 _ _ _ ?_
            refine CW.keep (Keep.cons 7 rfl (Keep.cons 8 rfl (Keep.cons 9 rfl (Keep.cons 15 rfl (Keep.cons 17 rfl (Keep.cons 18 rfl (Keep.cons 19 rfl (Keep.nil _)))))))) ?_
            refine CW.seq fun K20 hK20 => ?_
            refine CW.seq fun K21 hK21 => ?_
            refine CW.region ?_
            refine RL.q (Y.assign rfl) rfl ?_
            refine RL.nil ?_
            refine hK21 _ _ _ ?_
            refine CW.keep (Keep.cons 7 rfl (Keep.cons 8 rfl (Keep.cons 9 rfl (Keep.cons 15 rfl (Keep.cons 17 rfl (Keep.cons 18 rfl (Keep.cons 19 rfl (Keep.cons 20 rfl (Keep.nil _))))))))) ?_
            refine CW.block ?_
            -- LOOP 2: live [7, 8, 9, 15, 17, 18, 19, 20] changed [19, 20]
            refine CW.keep (Keep.cons 19 rfl (Keep.cons 20 rfl (Keep.cons 7 rfl (Keep.cons 8 rfl (Keep.cons 9 rfl (Keep.cons 15 rfl (Keep.cons 17 rfl (Keep.cons 18 rfl (Keep.nil _))))))))) ?_
            have hqi := hbest.mt.inn _ (List.getElem_mem hia)
            refine CW.loopF (fun mm Lc M4 Γc => ∃ k : Nat, mm = (rnodes a).1.length - k ∧ k ≤ (rnodes a).1.length ∧ Lc = [(19, vint (if Q[i].1 < k then (Q[i].1 : Int) else -1)), (20, vint k)] ∧ Γc = [] ∧ M4 = M3) (rnodes a).1.length [(19, _), (20, _)] [] rfl rfl ⟨0, rfl, Nat.zero_le _, rfl, rfl, rfl⟩ ?_
            rintro mm Lc M4 Γc hsub4 ⟨k, rfl, hk, rfl, rfl, rfl⟩
            refine CW.seq fun K22 hK22 => ?_
            refine CW.seq fun K23 hK23 => ?_
            refine CW.region ?_
            refine RL.q (Y.move rfl) rfl ?_
            refine RL.q (Y.move rfl) rfl ?_
            refine RL.q (Y.len rfl Try.underlying44) rfl ?_
            refine RL.q (Y.lss rfl rfl) rfl ?_
            refine RL.nil ?_
            refine hK23 _ _ _ ?_
            refine CW.keep (Keep.cons 7 rfl (Keep.cons 8 rfl (Keep.cons 9 rfl (Keep.cons 15 rfl (Keep.cons 17 rfl (Keep.cons 18 rfl (Keep.cons 19 rfl (Keep.cons 20 rfl (Keep.cons 89 rfl (Keep.nil _)))))))))) ?_
            refine CW.ite rfl (fun h5 => ?_) (fun h5 => ?_)
            · have hka : k < (rnodes a).1.length := by omega
              have hidq := id_iff hga hka (show Q[i].1 < (pon a 0).length by omega)
              rw [← show (List.map (pairOf (pon a 0) (pon b 0)) Q)[i].frm = (exAt (pon a 0) Q[i].1).id from by rw [List.getElem_map]; rfl] at hidq
              refine CW.skip ?_
              refine hK22 _ _ _ ?_
              refine CW.seq fun K24 hK24 => ?_
              refine CW.block ?_
              refine CW.seq fun K25 hK25 => ?_
              refine CW.regionQ mix (by kernel_rfl) ?_
              refine QL.q (Y.move rfl) rfl ?_
              refine QL.q (Y.move rfl) rfl ?_
              refine QL.q (Y.indexP k rfl rfl rfl hka slice44 hu47) rfl ?_
              refine QL.q (Y.field rfl field49_0) rfl ?_
              refine QL.q (Y.field rfl field31_0) rfl ?_
              refine QL.q (Y.loadAggP ((rnodes a).1[k].e.id.vals) rfl hu47 (by exact (flat_sub RNode.enc_len _ k _ (List.getElem?_eq_getElem hka) 0 3 (by decide)).trans (by rw [RNode.enc_eq]; rfl)) agg24) rfl ?_
              refine QL.q (Y.move rfl) rfl ?_
              refine QL.q (Y.move rfl) rfl ?_
              refine QL.q (Y.indexP i rfl rfl rfl (by rw [List.length_map]; omega) slice34 (Rd.mono (hs36.trans (hs41.trans (hs47))) _ _ hup)) rfl ?_
              refine QL.q (Y.field rfl field51_0) rfl ?_
              refine QL.q (Y.loadAggP ((Q.map (pairOf (pon a 0) (pon b 0)))[i].frm.vals) rfl (Rd.mono (hs36.trans (hs41.trans (hs47))) _ _ hup) (by exact (flat_sub PairD.enc_len _ i _ (List.getElem?_eq_getElem _) 0 3 (by decide)).trans rfl) agg24) rfl ?_
              refine QL.q (id24_eql rfl rfl) rfl ?_
              refine QL.nil ?_
              refine hK25 _ _ _ ?_
              refine CW.keep (Keep.cons 7 rfl (Keep.cons 8 rfl (Keep.cons 9 rfl (Keep.cons 15 rfl (Keep.cons 17 rfl (Keep.cons 18 rfl (Keep.cons 19 rfl (Keep.cons 20 rfl (Keep.cons 103 rfl (Keep.nil _)))))))))) ?_
              refine CW.ite rfl (fun h6 => ?_) (fun h6 => ?_)
              · have hkq := hidq.1 h6
                refine CW.region ?_
                refine RL.q (Y.move rfl) rfl ?_
                refine RL.q (Y.assign rfl) rfl ?_
                refine RL.nil ?_
                refine hK24 _ _ _ ?_
                refine CW.keep (Keep.cons 7 rfl (Keep.cons 8 rfl (Keep.cons 9 rfl (Keep.cons 15 rfl (Keep.cons 17 rfl (Keep.cons 18 rfl (Keep.cons 19 rfl (Keep.cons 20 rfl (Keep.nil _))))))))) ?_
                refine CW.region ?_
                refine RL.q (Y.move rfl) rfl ?_
                refine RL.q (Y.add rfl rfl (by omega)) rfl ?_
                refine RL.q (Y.assign rfl) rfl ?_
                refine RL.nil ?_
                refine ⟨(rnodes a).1.length - (k + 1), [(19, _), (20, _)], ?_, (Keep.cons 19 rfl (Keep.cons 20 rfl (Keep.cons 7 rfl (Keep.cons 8 rfl (Keep.cons 9 rfl (Keep.cons 15 rfl (Keep.cons 17 rfl (Keep.cons 18 rfl (Keep.nil _))))))))), ?_⟩
                · omega
                · exact Turn.drop ⟨[], rfl, hsub4, k + 1, rfl, by omega, by rw [if_pos (by omega), ← hkq]; rfl, rfl, rfl⟩ (by repeat (first | exact List.Sublist.refl _ | apply List.Sublist.cons_cons | apply List.Sublist.cons))
              · have hkn : k ≠ Q[i].1 := fun e => h6 (hidq.2 e)
                refine CW.skip ?_
                refine hK24 _ _ _ ?_
                refine CW.region ?_
                refine RL.q (Y.move rfl) rfl ?_
                refine RL.q (Y.add rfl rfl (by omega)) rfl ?_
                refine RL.q (Y.assign rfl) rfl ?_
                refine RL.nil ?_
                refine ⟨(rnodes a).1.length - (k + 1), [(19, _), (20, _)], ?_, (Keep.cons 19 rfl (Keep.cons 20 rfl (Keep.cons 7 rfl (Keep.cons 8 rfl (Keep.cons 9 rfl (Keep.cons 15 rfl (Keep.cons 17 rfl (Keep.cons 18 rfl (Keep.nil _))))))))), ?_⟩
                · omega
                · exact Turn.drop ⟨[], rfl, hsub4, k + 1, rfl, by omega, by rw [show (if Q[i].1 < k then (Q[i].1 : Int) else -1) = (if Q[i].1 < k + 1 then (Q[i].1 : Int) else -1) from by split <;> split <;> omega]; rfl, rfl, rfl⟩ (by repeat (first | exact List.Sublist.refl _ | apply List.Sublist.cons_cons | apply List.Sublist.cons))
            · refine CW.exit ?_
              refine hK20 _ _ _ ?_
              refine CW.seq fun K26 hK26 => ?_
              refine CW.seq fun K27 hK27 => ?_
              refine CW.region ?_
              refine RL.q (Y.move rfl) rfl ?_
              refine RL.q (Y.move rfl) rfl ?_
              refine RL.q (Y.leq rfl rfl) rfl ?_
              refine RL.nil ?_
              refine hK27 _ _ _ ?_
              refine CW.keep (Keep.cons 7 rfl (Keep.cons 8 rfl (Keep.cons 9 rfl (Keep.cons 15 rfl (Keep.cons 18 rfl (Keep.cons 19 rfl (Keep.cons 107 rfl (Keep.nil _)))))))) ?_
              refine CW.ite rfl (fun h7 => ?_) (fun h7 => ?_)
              · refine CW.seq fun K28 hK28 => ?_
                refine CW.region ?_
                refine RL.q (Y.assign rfl) rfl ?_
                refine RL.nil ?_
                refine hK28 _ _ _ ?_
                refine CW.keep (Keep.cons 6 rfl (Keep.nil _)) ?_
                refine CW.ret ?_
                exact absurd h7 (by rw [if_pos (by omega)]; have := hT i hia (Nat.le_refl _); omega)
              · refine CW.skip ?_
                refine hK26 _ _ _ ?_
                refine CW.region ?_
                refine RL.q (Y.move rfl) rfl ?_
                refine RL.q (Y.assign rfl) rfl ?_
                refine RL.nil ?_
                refine hK18 _ _ _ ?_
                refine CW.keep (Keep.cons 7 rfl (Keep.cons 8 rfl (Keep.cons 9 rfl (Keep.cons 15 rfl (Keep.cons 17 rfl (Keep.cons 18 rfl (Keep.nil _))))))) ?_
                refine CW.region ?_
                refine RL.q (Y.move rfl) rfl ?_
                refine RL.q (Y.add rfl rfl (by omega)) rfl ?_
                refine RL.q (Y.assign rfl) rfl ?_
                refine RL.nil ?_
                refine ⟨Q.length - (i + 1), [(17, _), (18, _)], ?_, (Keep.cons 17 rfl (Keep.cons 18 rfl (Keep.cons 7 rfl (Keep.cons 8 rfl (Keep.cons 9 rfl (Keep.cons 15 rfl (Keep.nil _))))))), ?_⟩
                · omega
                · exact Turn.drop ⟨[], rfl, hsub, i + 1, _, rfl, by omega, rfl, rfl, rfl, fun j hj hij => by rw [if_pos (by omega)]; have := (List.pairwise_iff_getElem.1 hbest.sorted) i j hia hj (by omega); omega⟩ (by repeat (first | exact List.Sublist.refl _ | apply List.Sublist.cons_cons | apply List.Sublist.cons))
          · refine CW.exit ?_
            refine hK14 _ _ _ ?_
            refine CW.seq fun K29 hK29 => ?_
            refine CW.regionQ mix (by kernel_rfl) ?_
            refine QL.q (Y.loadAll rfl (by repeat (first | exact List.Mem.head _ | apply List.Mem.tail)) hul22 agg31) rfl ?_
            refine QL.callv rfl func19 rfl rfl (fun _ _ => msize_ok _ _ _ _ a us22 rfl (hu22.mono (hs26.trans (hs30.trans (hs36.trans (hs41.trans (hs47)))))) (by omega)) ?_
            refine QL.q (Y.loadAll rfl (by repeat (first | exact List.Mem.head _ | apply List.Mem.tail)) hul22 agg31) rfl ?_
            refine QL.callv rfl func20 rfl rfl (fun _ _ => rsize_ok _ _ _ _ a us22 rfl (hu22.mono (hs26.trans (hs30.trans (hs36.trans (hs41.trans (hs47)))))) (by omega)) ?_
            refine QL.qs (Y.eql rfl rfl) rfl (fun g113 => ?_) (fun g113 => ?_)
            · refine QL.q (Y.move rfl) rfl ?_
              refine QL.qg ⟨_, _, rfl, rfl, rfl⟩ (Y.loadAll rfl (by repeat (first | exact List.Mem.head _ | apply List.Mem.tail)) hul26 agg31) rfl ?_
              refine QL.callv ⟨_, _, rfl, rfl, rfl⟩ func19 rfl rfl (fun _ _ => msize_ok _ _ _ _ b us26 rfl (hu26.mono (hs30.trans (hs36.trans (hs41.trans (hs47))))) (by omega)) ?_
              refine QL.qg ⟨_, _, rfl, rfl, rfl⟩ (Y.loadAll rfl (by repeat (first | exact List.Mem.head _ | apply List.Mem.tail)) hul26 agg31) rfl ?_
              refine QL.callv ⟨_, _, rfl, rfl, rfl⟩ func20 rfl rfl (fun _ _ => rsize_ok _ _ _ _ b us26 rfl (hu26.mono (hs30.trans (hs36.trans (hs41.trans (hs47))))) (by omega)) ?_
              refine QL.qgs ⟨_, _, rfl, rfl, rfl⟩ (Y.eql rfl rfl) rfl (fun g119 => ?_) (fun g119 => ?_)
              · refine QL.q (Y.pickT rfl rfl) rfl ?_
                refine QL.q (Y.move rfl) rfl ?_
                refine QL.callv ⟨_, _, rfl, rfl, rfl⟩ func21 rfl rfl (fun _ _ => lives_ok _ _ _) ?_
                refine QL.q (Y.pickT rfl rfl) rfl ?_
                refine QL.q (Y.assign rfl) rfl ?_
                refine QL.nil ?_
                refine hK29 _ _ _ ?_
                refine CW.keep (Keep.cons 6 rfl (Keep.nil _)) ?_
                refine CW.ret ?_
                refine ⟨_, rfl, ?_⟩
                exact Turn.back hw1 (hs22.trans (hs26.trans (hs30.trans (hs36.trans (hs41.trans (hs47)))))) ⟨rfl, rfl, rfl⟩ (by repeat (first | exact List.Sublist.refl _ | apply List.Sublist.cons_cons | apply List.Sublist.cons))
              · refine QL.q (Y.pickT rfl rfl) rfl ?_
                refine QL.q (Y.move rfl) rfl ?_
                refine QL.no ⟨_, _, rfl, rfl, rfl⟩ rfl ?_
                refine QL.q (Y.pickF rfl rfl) rfl ?_
                refine QL.q (Y.assign rfl) rfl ?_
                refine QL.nil ?_
                refine hK29 _ _ _ ?_
                refine CW.keep (Keep.cons 6 rfl (Keep.nil _)) ?_
                refine CW.ret ?_
                exact absurd rfl g119
            · refine QL.q (Y.move rfl) rfl ?_
              refine QL.no ⟨_, _, rfl, rfl, rfl⟩ rfl ?_
              refine QL.no ⟨_, _, rfl, rfl, rfl⟩ rfl ?_
              refine QL.no ⟨_, _, rfl, rfl, rfl⟩ rfl ?_
              refine QL.no ⟨_, _, rfl, rfl, rfl⟩ rfl ?_
              refine QL.no ⟨_, _, rfl, rfl, rfl⟩ rfl ?_
              refine QL.q (Y.pickF rfl rfl) rfl ?_
              refine QL.q (Y.move rfl) rfl ?_
              refine QL.no ⟨_, _, rfl, rfl, rfl⟩ rfl ?_
              refine QL.q (Y.pickF rfl rfl) rfl ?_
              refine QL.q (Y.assign rfl) rfl ?_
              refine QL.nil ?_
              refine hK29 _ _ _ ?_
              refine CW.keep (Keep.cons 6 rfl (Keep.nil _)) ?_
              refine CW.ret ?_
              exact absurd rfl g113
  · refine QL.q (Y.not rfl) rfl ?_
    refine QL.q (Y.move rfl) rfl ?_
    refine QL.no ⟨_, _, rfl, rfl, rfl⟩ rfl ?_
    refine QL.no ⟨_, _, rfl, rfl, rfl⟩ rfl ?_
    refine QL.no ⟨_, _, rfl, rfl, rfl⟩ rfl ?_
    refine QL.no ⟨_, _, rfl, rfl, rfl⟩ rfl ?_
    refine QL.no ⟨_, _, rfl, rfl, rfl⟩ rfl ?_
    refine QL.no ⟨_, _, rfl, rfl, rfl⟩ rfl ?_
    refine QL.no ⟨_, _, rfl, rfl, rfl⟩ rfl ?_
    refine QL.no ⟨_, _, rfl, rfl, rfl⟩ rfl ?_
    refine QL.no ⟨_, _, rfl, rfl, rfl⟩ rfl ?_
    refine QL.no ⟨_, _, rfl, rfl, rfl⟩ rfl ?_
    refine QL.no ⟨_, _, rfl, rfl, rfl⟩ rfl ?_
    refine QL.no ⟨_, _, rfl, rfl, rfl⟩ rfl ?_
    refine QL.no ⟨_, _, rfl, rfl, rfl⟩ rfl ?_
    refine QL.no ⟨_, _, rfl, rfl, rfl⟩ rfl ?_
    refine QL.no ⟨_, _, rfl, rfl, rfl⟩ rfl ?_
    refine QL.q (Y.pickT rfl rfl) rfl ?_
    refine QL.q (Y.move rfl) rfl ?_
    refine QL.no ⟨_, _, rfl, rfl, rfl⟩ rfl ?_
    refine QL.no ⟨_, _, rfl, rfl, rfl⟩ rfl ?_
    refine QL.q (Y.pickT rfl rfl) rfl ?_
    refine QL.q (Y.move rfl) rfl ?_
    refine QL.no ⟨_, _, rfl, rfl, rfl⟩ rfl ?_
    refine QL.no ⟨_, _, rfl, rfl, rfl⟩ rfl ?_
    refine QL.no ⟨_, _, rfl, rfl, rfl⟩ rfl ?_
    refine QL.q (Y.pickT rfl rfl) rfl ?_
    refine QL.nil ?_
    refine hK9 _ _ _ ?_
    refine CW.keep (Keep.cons 7 rfl (Keep.cons 8 rfl (Keep.cons 9 rfl (Keep.cons 15 rfl (Keep.cons 79 rfl (Keep.nil _)))))) ?_
    refine CW.yes rfl ?_
    refine CW.seq fun K30 hK30 => ?_
    refine CW.region ?_
    refine RL.q (Y.assign rfl) rfl ?_
    refine RL.nil ?_
    refine hK30 _ _ _ ?_
    refine CW.keep (Keep.cons 6 rfl (Keep.nil _)) ?_
    refine CW.ret ?_
    exact absurd rfl g52
end Go.Proofs.Ytjkcjbicleohkaa
