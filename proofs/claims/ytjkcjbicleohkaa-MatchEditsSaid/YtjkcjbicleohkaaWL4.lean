/- THE WALKS, law 4: MatchBound. Printed by m16L4.py. -/
import Derived.Test.YtjkcjbicleohkaaWv
import Derived.Test.YtjkcjbicleohkaaTree
import Derived.Test.YtjkcjbicleohkaaXeN
import Derived.Test.YtjkcjbicleohkaaWL3
import Derived.Test.YtjkcjbicleohkaaDist
namespace Go.Proofs.Ytjkcjbicleohkaa
open Xe

theorem CheckR_zero {e1 e2 : Ex} {l : List PairD} {want : Int} {d : List (List Int)} (hg : good e1 ∧ good e2) (h : CheckR e1 e2 l want d = 0) : CheckP e1 e2 l want d := by
  apply Classical.byContradiction
  intro hn
  rw [CheckR_no hg hn] at h
  omega
theorem CostR_27 {e1 e2 : Ex} {l : List PairD} (hg : good e1 ∧ good e2) (h : (CostR e1 e2 l).2 ≠ 0) : (CostR e1 e2 l).2 = 27 := by
  cases hc : goOf e1 e2 l with
  | some n => rw [CostR_some hg hc] at h; exact absurd rfl h
  | none => rw [CostR_none hg hc]
theorem chgs_le (a b : List MNode) : ∀ P, chgs a b P ≤ P.length
  | [] => by simp [chgs]
  | p :: P => by have := chgs_le a b P; have := chg_01 a b p; simp only [chgs, List.length_cons]; omega
/-- Pairs with a cost cost no less than a best match, and no more than the sum of the sizes. -/
theorem go_bds {e1 e2 : Ex} {l : List PairD} {m n : Int} {d : List (List Int)} {Q : List (Nat × Nat)} (h : goOf e1 e2 l = some m) (hb : Best (pon e1 0) (pon e2 0) d n Q) : n ≤ m ∧ m ≤ (e1.size : Int) + e2.size := by
  obtain ⟨k1, k2⟩ := costGo_is h
  have h1 := hb.least (pon_whole e1) (pon_whole e2) k1
  have h2 := chgs_le (pon e1 0) (pon e2 0) (dn (pon e1 0) (pon e2 0) l)
  rw [← k2] at h1
  rw [costM, pon_len, pon_len] at k2
  omega
/-- Where a dual is right and proves another match, that costs no more. -/
theorem check_least {e1 e2 : Ex} {l : List PairD} {m n : Int} {d x : List (List Int)} {Q : List (Nat × Nat)} (h : CheckP e1 e2 l m x) (hb : Best (pon e1 0) (pon e2 0) d n Q) : m = n := by
  obtain ⟨h1, h2, h3⟩ := h
  have k1 := Right.least (pon_whole e1) (pon_whole e2) h2 hb.mt
  have k2 := (go_bds h1 hb).1
  rw [hb.cost, h3] at k1
  omega
theorem least_is (w0 : World) (M : Mem) (Γ : List As) (e1 e2 : Ex) (vs1 vs2 : List Value) (hv1 : RdL M e1.enc vs1) (hv2 : RdL M e2.enc vs2) :
    CallOk Try.prog w0 M Γ 27 #[.agg vs1.toArray, .agg vs2.toArray] (Is M Γ (vint (leastV e1 e2))) := by
  refine (least_ok w0 M Γ e1 e2 vs1 vs2 hv1 hv2).mono ?_
  rintro v M' Γ' ⟨⟨n, h1, rfl⟩, h2, h3⟩
  refine ⟨?_, h2, h3⟩
  by_cases hg : good e1 ∧ good e2
  · obtain ⟨d, Q, hb⟩ := h1.1 hg
    rw [leastV_eq hg hb]
  · rw [h1.2 hg, leastV_bad hg]

set_option maxHeartbeats 4000000 in
theorem MatchBound_ok (w0 : World) (M : Mem) (Γ : List As) (l m k : List Int) (at0 by0 : Int) (ul um uk : Value) (hl : Rd M (dints l) ul) (hm : Rd M (dints m) um) (hk : Rd M (dints k) uk) (hli : ∀ x ∈ l, InI x) (hmi : ∀ x ∈ m, InI x) (hki : ∀ x ∈ k, InI x) (hai : InI at0) (hbi : InI by0) :
    CallOk Try.prog w0 M Γ 6 #[ul, um, uk, vint at0, vint by0] (Is M Γ (.bool true)) := by
  obtain ⟨a, ha⟩ : ∃ a, a = tree l 10 0 := ⟨_, rfl⟩
  obtain ⟨b, hb⟩ : ∃ b, b = tree m 10 2 := ⟨_, rfl⟩
  have hga : good a := ha ▸ tree_good l 10 0 (by omega) (by omega)
  have hgb : good b := hb ▸ tree_good m 10 2 (by omega) (by omega)
  have hg := And.intro hga hgb
  have hla := pon_le hga
  have hlb := pon_le hgb
  have hA0 := (pon_whole a).pos
  have hB0 := (pon_whole b).pos
  have hsa := tree_size l 10 0 (by omega)
  rw [← ha] at hsa
  have hsb := tree_size m 10 2 (by omega)
  rw [← hb] at hsb
  refine enter (f := 6) Try.func6 rfl Try.ntmps6 rfl rfl fun w1 hw1 => ?_
  refine CW.seq fun K1 hK1 => ?_
  refine CW.region ?_
  refine RL.q (Y.assign rfl) rfl ?_
  refine RL.nil ?_
  refine hK1 _ _ _ ?_
  refine CW.keep (Keep.cons 0 rfl (Keep.cons 1 rfl (Keep.cons 2 rfl (Keep.cons 3 rfl (Keep.cons 4 rfl (Keep.nil _)))))) ?_
  refine CW.seq fun K2 hK2 => ?_
  refine CW.region ?_
  refine RL.q (Y.move rfl) rfl ?_
  refine RL.call rfl func11 rfl rfl (ha ▸ tree_ok _ _ _ l _ 10 0 (hl) hli (by omega) (by omega)) ?_
  rintro _ M24 Γ ⟨hs24, rfl, us24, rfl, hu24⟩
  have hul24 : us24.length = 15 := hu24.1.trans (Ex.enc_len _)
  refine RL.alloc _ zero31 rfl rfl fun b11 => ?_
  refine RL.storeAgg us24 rfl rfl (by repeat (first | exact Repl.here _ | apply Repl.there)) (by simp [hul24]) (by simp [hul24]) (fun _ _ => hu24.one) (by rw [hul24]; exact size31) ?_
  refine RL.nil ?_
  refine hK2 _ _ _ ?_
  refine CW.keep (Keep.cons 1 rfl (Keep.cons 2 rfl (Keep.cons 3 rfl (Keep.cons 4 rfl (Keep.cons 11 rfl (Keep.nil _)))))) ?_
  refine CW.seq fun K3 hK3 => ?_
  refine CW.region ?_
  refine RL.q (Y.move rfl) rfl ?_
  refine RL.call rfl func11 rfl rfl (hb ▸ tree_ok _ _ _ m _ 10 2 (Rd.mono hs24 _ _ hm) hmi (by omega) (by omega)) ?_
  rintro _ M26 Γ ⟨hs26, rfl, us26, rfl, hu26⟩
  have hul26 : us26.length = 15 := hu26.1.trans (Ex.enc_len _)
  refine RL.alloc _ zero31 rfl rfl fun b12 => ?_
  refine RL.storeAgg us26 rfl rfl (by repeat (first | exact Repl.here _ | apply Repl.there)) (by simp [hul26]) (by simp [hul26]) (fun _ _ => hu26.one) (by rw [hul26]; exact size31) ?_
  refine RL.nil ?_
  refine hK3 _ _ _ ?_
  refine CW.keep (Keep.cons 2 rfl (Keep.cons 3 rfl (Keep.cons 4 rfl (Keep.cons 11 rfl (Keep.cons 12 rfl (Keep.nil _)))))) ?_
  refine CW.seq fun K4 hK4 => ?_
  refine CW.region ?_
  refine RL.q (Y.loadAll rfl (by repeat (first | exact List.Mem.head _ | apply List.Mem.tail)) hul24 agg31) rfl ?_
  refine RL.q (Y.loadAll rfl (by repeat (first | exact List.Mem.head _ | apply List.Mem.tail)) hul26 agg31) rfl ?_
  refine RL.call rfl func13 rfl rfl (match_ok _ _ _ a b us24 us26 (hu24.mono hs26) (hu26)) ?_
  rintro v30 M30 _ ⟨hs30, rfl, hR⟩
  obtain ⟨d, n, Q, up, ud, rfl, hbest, hup, hud⟩ := hR.1 hg
  obtain ⟨ap, cp, rfl, hcp, hlimp, _⟩ := hup.slice
  obtain ⟨ad, cd, rfl, hcd, _, _⟩ := hud.slice
  have hQl := hbest.mt.len
  have hdl := hbest.fix.ok.len
  refine RL.q (Y.move rfl) rfl ?_
  refine RL.q (Y.extract rfl rfl) rfl ?_
  refine RL.q (Y.extract rfl rfl) rfl ?_
  refine RL.q (Y.extract rfl rfl) rfl ?_
  refine RL.q (Y.assign rfl) rfl ?_
  refine RL.q (Y.assign rfl) rfl ?_
  refine RL.q (Y.assign rfl) rfl ?_
  refine RL.nil ?_
  refine hK4 _ _ _ ?_
  refine CW.keep (Keep.cons 2 rfl (Keep.cons 3 rfl (Keep.cons 4 rfl (Keep.cons 11 rfl (Keep.cons 12 rfl (Keep.cons 13 rfl (Keep.cons 14 rfl (Keep.cons 15 rfl (Keep.nil _))))))))) ?_
  refine CW.seq fun K5 hK5 => ?_
  refine CW.seq fun K6 hK6 => ?_
  refine CW.region ?_
  refine RL.q (Y.move rfl) rfl ?_
  refine RL.callvs rfl func24 rfl rfl (even_ok _ _ _ d _ hud) (fun g35 => ?_) (fun g35 => ?_)
  · refine RL.q (Y.not rfl) rfl ?_
    refine RL.q (Y.move rfl) rfl ?_
    refine RL.qg ⟨_, _, rfl, rfl, rfl⟩ (Y.loadAll rfl (by repeat (first | exact List.Mem.head _ | apply List.Mem.tail)) hul24 agg31) rfl ?_
    refine RL.qg ⟨_, _, rfl, rfl, rfl⟩ (Y.loadAll rfl (by repeat (first | exact List.Mem.head _ | apply List.Mem.tail)) hul26 agg31) rfl ?_
    refine RL.qg ⟨_, _, rfl, rfl, rfl⟩ (Y.move rfl) rfl ?_
    refine RL.qg ⟨_, _, rfl, rfl, rfl⟩ (Y.move rfl) rfl ?_
    refine RL.qg ⟨_, _, rfl, rfl, rfl⟩ (Y.move rfl) rfl ?_
    refine RL.callv ⟨_, _, rfl, rfl, rfl⟩ func25 rfl rfl (checkB_ok _ _ _ a b us24 us26 (Q.map (pairOf (pon a 0) (pon b 0))) _ n d _ (hu24.mono (hs26.trans (hs30))) (hu26.mono hs30) hup (by rw [List.length_map]; omega) hud hg (hbest.check hg)) ?_
    refine RL.qg ⟨_, _, rfl, rfl, rfl⟩ (Y.neq rfl rfl) rfl ?_
    refine RL.q (Y.pickF rfl rfl) rfl ?_
    refine RL.nil ?_
    refine hK6 _ _ _ ?_
    refine CW.keep (Keep.cons 2 rfl (Keep.cons 3 rfl (Keep.cons 4 rfl (Keep.cons 11 rfl (Keep.cons 12 rfl (Keep.cons 14 rfl (Keep.cons 15 rfl (Keep.cons 45 rfl (Keep.nil _))))))))) ?_
    refine CW.ite rfl (fun h1 => ?_) (fun h1 => ?_)
    · refine CW.seq fun K7 hK7 => ?_
      refine CW.region ?_
      refine RL.q (Y.assign rfl) rfl ?_
      refine RL.nil ?_
      refine hK7 _ _ _ ?_
      refine CW.keep (Keep.cons 10 rfl (Keep.nil _)) ?_
      refine CW.ret ?_
      exact absurd rfl h1
    · refine CW.skip ?_
      refine hK5 _ _ _ ?_
      refine CW.seq fun K8 hK8 => ?_
      refine CW.region ?_
      refine RL.q (Y.loadAll rfl (by repeat (first | exact List.Mem.head _ | apply List.Mem.tail)) hul24 agg31) rfl ?_
      refine RL.q (Y.loadAll rfl (by repeat (first | exact List.Mem.head _ | apply List.Mem.tail)) hul26 agg31) rfl ?_
      refine RL.q (Y.move rfl) rfl ?_
      refine RL.call rfl func22 rfl rfl (pairs_ok _ _ _ a b us24 us26 k _ (hu24.mono (hs26.trans (hs30))) (hu26.mono hs30) hga hgb (Rd.mono (hs24.trans (hs26.trans (hs30))) _ _ hk) hki) ?_
      rintro v49 M49 _ ⟨hs49, rfl, l0, hl0, hL0⟩
      obtain ⟨a49, c49, rfl, hc49, _, _⟩ := hL0.slice
      refine RL.q (Y.assign rfl) rfl ?_
      refine RL.nil ?_
      refine hK8 _ _ _ ?_
      refine CW.keep (Keep.cons 3 rfl (Keep.cons 4 rfl (Keep.cons 11 rfl (Keep.cons 12 rfl (Keep.cons 14 rfl (Keep.cons 15 rfl (Keep.cons 16 rfl (Keep.nil _)))))))) ?_
      refine CW.seq fun K9 hK9 => ?_
      refine CW.region ?_
      refine RL.q (Y.loadAll rfl (by repeat (first | exact List.Mem.head _ | apply List.Mem.tail)) hul24 agg31) rfl ?_
      refine RL.q (Y.loadAll rfl (by repeat (first | exact List.Mem.head _ | apply List.Mem.tail)) hul26 agg31) rfl ?_
      refine RL.q (Y.move rfl) rfl ?_
      refine RL.callv rfl func23 rfl rfl (mCost_ok _ _ _ a b us24 us26 l0 _ (hu24.mono (hs26.trans (hs30.trans (hs49)))) (hu26.mono (hs30.trans (hs49))) hL0 (by omega)) ?_
      refine RL.q (Y.move rfl) rfl ?_
      refine RL.q (Y.extract rfl rfl) rfl ?_
      refine RL.q (Y.extract rfl rfl) rfl ?_
      refine RL.q (Y.assign rfl) rfl ?_
      refine RL.q (Y.assign rfl) rfl ?_
      refine RL.nil ?_
      refine hK9 _ _ _ ?_
      refine CW.keep (Keep.cons 3 rfl (Keep.cons 4 rfl (Keep.cons 11 rfl (Keep.cons 12 rfl (Keep.cons 14 rfl (Keep.cons 15 rfl (Keep.cons 16 rfl (Keep.cons 17 rfl (Keep.cons 18 rfl (Keep.nil _)))))))))) ?_
      obtain ⟨cst, hcst⟩ : ∃ cst, cst = (CostR a b l0).1 := ⟨_, rfl⟩
      rw [← hcst]
      refine CW.seq fun K10 hK10 => ?_
      refine CW.seq fun K11 hK11 => ?_
      refine CW.region ?_
      refine RL.q (Y.move rfl) rfl ?_
      refine RL.q (Y.neq rfl rfl) rfl ?_
      refine RL.nil ?_
      refine hK11 _ _ _ ?_
      refine CW.keep (Keep.cons 3 rfl (Keep.cons 4 rfl (Keep.cons 11 rfl (Keep.cons 12 rfl (Keep.cons 14 rfl (Keep.cons 15 rfl (Keep.cons 16 rfl (Keep.cons 17 rfl (Keep.cons 18 rfl (Keep.cons 58 rfl (Keep.nil _))))))))))) ?_
      refine CW.ite rfl (fun h2 => ?_) (fun h2 => ?_)
      · refine CW.seq fun K12 hK12 => ?_
        refine CW.region ?_
        refine RL.q (Y.move rfl) rfl ?_
        refine RL.qs (Y.eql rfl rfl) rfl (fun g60 => ?_) (fun g60 => ?_)
        · refine RL.q (Y.move rfl) rfl ?_
          refine RL.callv ⟨_, _, rfl, rfl, rfl⟩ func21 rfl rfl (lives_ok _ _ _) ?_
          refine RL.q (Y.pickT rfl rfl) rfl ?_
          refine RL.q (Y.assign rfl) rfl ?_
          refine RL.nil ?_
          refine hK12 _ _ _ ?_
          refine CW.keep (Keep.cons 10 rfl (Keep.nil _)) ?_
          refine CW.ret ?_
          refine ⟨_, rfl, ?_⟩
          exact Turn.back hw1 (hs24.trans (hs26.trans (hs30.trans (hs49)))) ⟨rfl, rfl, rfl⟩ (by repeat (first | exact List.Sublist.refl _ | apply List.Sublist.cons_cons | apply List.Sublist.cons))
        · refine RL.q (Y.move rfl) rfl ?_
          refine RL.no ⟨_, _, rfl, rfl, rfl⟩ rfl ?_
          refine RL.q (Y.pickF rfl rfl) rfl ?_
          refine RL.q (Y.assign rfl) rfl ?_
          refine RL.nil ?_
          refine hK12 _ _ _ ?_
          refine CW.keep (Keep.cons 10 rfl (Keep.nil _)) ?_
          refine CW.ret ?_
          exact absurd (CostR_27 hg h2) g60
      · have hgo : goOf a b l0 = some cst := (CostR_iff hg).2 ⟨Decidable.not_not.1 h2, hcst.symm⟩
        have hbd := go_bds hgo hbest
        refine CW.skip ?_
        refine hK10 _ _ _ ?_
        refine CW.seq fun K13 hK13 => ?_
        refine CW.seq fun K14 hK14 => ?_
        refine CW.regionQ mix (by kernel_rfl) ?_
        refine QL.q (Y.move rfl) rfl ?_
        refine QL.q (Y.move rfl) rfl ?_
        refine QL.qs (Y.lss rfl rfl) rfl (fun g66 => ?_) (fun g66 => ?_)
        · refine QL.q (Y.move rfl) rfl ?_
          refine QL.no ⟨_, _, rfl, rfl, rfl⟩ rfl ?_
          refine QL.no ⟨_, _, rfl, rfl, rfl⟩ rfl ?_
          refine QL.no ⟨_, _, rfl, rfl, rfl⟩ rfl ?_
          refine QL.no ⟨_, _, rfl, rfl, rfl⟩ rfl ?_
          refine QL.no ⟨_, _, rfl, rfl, rfl⟩ rfl ?_
          refine QL.no ⟨_, _, rfl, rfl, rfl⟩ rfl ?_
          refine QL.no ⟨_, _, rfl, rfl, rfl⟩ rfl ?_
          refine QL.q (Y.pickT rfl rfl) rfl ?_
          refine QL.nil ?_
          refine hK14 _ _ _ ?_
          refine CW.keep (Keep.cons 3 rfl (Keep.cons 4 rfl (Keep.cons 11 rfl (Keep.cons 12 rfl (Keep.cons 14 rfl (Keep.cons 15 rfl (Keep.cons 16 rfl (Keep.cons 17 rfl (Keep.cons 75 rfl (Keep.nil _)))))))))) ?_
          refine CW.yes rfl ?_
          refine CW.seq fun K15 hK15 => ?_
          refine CW.region ?_
          refine RL.q (Y.assign rfl) rfl ?_
          refine RL.nil ?_
          refine hK15 _ _ _ ?_
          refine CW.keep (Keep.cons 10 rfl (Keep.nil _)) ?_
          refine CW.ret ?_
          exact absurd g66 (by omega)
        · refine QL.q (Y.move rfl) rfl ?_
          refine QL.qg ⟨_, _, rfl, rfl, rfl⟩ (Y.move rfl) rfl ?_
          refine QL.qg ⟨_, _, rfl, rfl, rfl⟩ (Y.loadAll rfl (by repeat (first | exact List.Mem.head _ | apply List.Mem.tail)) hul24 agg31) rfl ?_
          refine QL.callv ⟨_, _, rfl, rfl, rfl⟩ func19 rfl rfl (fun _ _ => msize_ok _ _ _ _ a us24 rfl (hu24.mono (hs26.trans (hs30.trans (hs49)))) (by omega)) ?_
          refine QL.qg ⟨_, _, rfl, rfl, rfl⟩ (Y.loadAll rfl (by repeat (first | exact List.Mem.head _ | apply List.Mem.tail)) hul26 agg31) rfl ?_
          refine QL.callv ⟨_, _, rfl, rfl, rfl⟩ func19 rfl rfl (fun _ _ => msize_ok _ _ _ _ b us26 rfl (hu26.mono (hs30.trans (hs49))) (by omega)) ?_
          refine QL.qg ⟨_, _, rfl, rfl, rfl⟩ (Y.add rfl rfl (by omega)) rfl ?_
          refine QL.qg ⟨_, _, rfl, rfl, rfl⟩ (Y.gtr rfl rfl) rfl ?_
          refine QL.q (Y.pickF rfl rfl) rfl ?_
          refine QL.nil ?_
          refine hK14 _ _ _ ?_
          refine CW.keep (Keep.cons 3 rfl (Keep.cons 4 rfl (Keep.cons 11 rfl (Keep.cons 12 rfl (Keep.cons 14 rfl (Keep.cons 15 rfl (Keep.cons 16 rfl (Keep.cons 17 rfl (Keep.cons 75 rfl (Keep.nil _)))))))))) ?_
          refine CW.ite rfl (fun h4 => ?_) (fun h4 => ?_)
          · refine CW.seq fun K16 hK16 => ?_
            refine CW.region ?_
            refine RL.q (Y.assign rfl) rfl ?_
            refine RL.nil ?_
            refine hK16 _ _ _ ?_
            refine CW.keep (Keep.cons 10 rfl (Keep.nil _)) ?_
            refine CW.ret ?_
            exact absurd h4 (by omega)
          · refine CW.skip ?_
            refine hK13 _ _ _ ?_
            refine CW.seq fun K17 hK17 => ?_
            refine CW.region ?_
            refine RL.q (Y.assign rfl) rfl ?_
            refine RL.nil ?_
            refine hK17 _ _ _ ?_
            refine CW.keep (Keep.cons 3 rfl (Keep.cons 4 rfl (Keep.cons 11 rfl (Keep.cons 12 rfl (Keep.cons 14 rfl (Keep.cons 15 rfl (Keep.cons 16 rfl (Keep.cons 17 rfl (Keep.cons 19 rfl (Keep.nil _)))))))))) ?_
            refine CW.drop (Γ' := .own b12 31 us26 :: .own b11 31 us24 :: Γ) (by repeat (first | exact List.Sublist.refl _ | apply List.Sublist.cons_cons | apply List.Sublist.cons)) ?_
            refine CW.accNil 22 1 ?_
            refine CW.seq fun K18 hK18 => ?_
            refine CW.seq fun K19 hK19 => ?_
            refine CW.region ?_
            refine RL.q (Y.assign rfl) rfl ?_
            refine RL.nil ?_
            refine hK19 _ _ _ ?_
            refine CW.keep (Keep.cons 3 rfl (Keep.cons 4 rfl (Keep.cons 11 rfl (Keep.cons 12 rfl (Keep.cons 14 rfl (Keep.cons 15 rfl (Keep.cons 16 rfl (Keep.cons 17 rfl (Keep.cons 19 rfl (Keep.cons 20 rfl (Keep.nil _))))))))))) ?_
            refine CW.block ?_
            -- LOOP 1: live [3, 4, 11, 12, 14, 15, 16, 17, 19, 20] changed [19, 20]
            refine CW.keep (Keep.cons 19 rfl (Keep.cons 20 rfl (Keep.cons 3 rfl (Keep.cons 4 rfl (Keep.cons 11 rfl (Keep.cons 12 rfl (Keep.cons 14 rfl (Keep.cons 15 rfl (Keep.cons 16 rfl (Keep.cons 17 rfl (Keep.nil _))))))))))) ?_
            refine CW.loopF (fun mm Lc M11 Γc => ∃ (j : Nat) (l : List RowT) (us : List Value) (a20 : Option Addr) (c20 : Nat), mm = d.length - j ∧ j ≤ d.length ∧ Lc = [(19, .slice a20 j c20), (20, vint j)] ∧ Γc = .acc (.slice a20 j c20) 22 1 j us :: matA l ∧ M11 = M49 ∧ l.length = j ∧ l.map rowvA = us ∧ l.map (·.2) = d.take j ∧ j ≤ c20) d.length [(19, _), (20, _)] (.acc (.slice none 0 0) 22 1 0 [] :: matA []) rfl rfl ⟨0, [], [], none, 0, rfl, Nat.zero_le _, rfl, rfl, rfl, rfl, rfl, rfl, Nat.le_refl _⟩ ?_
            rintro mm Lc M49 Γc hsub2 ⟨j, l9, us, a20, c20, rfl, hj, rfl, rfl, rfl, hll, hus, hld, hc20⟩
            refine CW.drop (List.Sublist.refl (.acc (.slice a20 j c20) 22 1 j us :: (matA l9 ++ _))) ?_
            refine CW.seq fun K20 hK20 => ?_
            refine CW.seq fun K21 hK21 => ?_
            refine CW.region ?_
            refine RL.q (Y.move rfl) rfl ?_
            refine RL.q (Y.move rfl) rfl ?_
            refine RL.q (Y.len rfl Try.underlying35) rfl ?_
            refine RL.q (Y.lss rfl rfl) rfl ?_
            refine RL.nil ?_
            refine hK21 _ _ _ ?_
            refine CW.keep (Keep.cons 3 rfl (Keep.cons 4 rfl (Keep.cons 11 rfl (Keep.cons 12 rfl (Keep.cons 14 rfl (Keep.cons 15 rfl (Keep.cons 16 rfl (Keep.cons 17 rfl (Keep.cons 19 rfl (Keep.cons 20 rfl (Keep.cons 79 rfl (Keep.nil _)))))))))))) ?_
            refine CW.ite rfl (fun h5 => ?_) (fun h5 => ?_)
            · refine CW.skip ?_
              refine hK20 _ _ _ ?_
              refine CW.seq fun K22 hK22 => ?_
              refine CW.block ?_
              have hjd : j < d.length := by omega
              obtain ⟨ud1, hcd1, hrd1⟩ := (Rd.mono hs49 _ _ hud).cell (q := j * 1) (dtab_get (List.getElem?_eq_getElem hjd))
              obtain ⟨ard, crd, rfl, hcrd, _, _⟩ := hrd1.slice
              have hdj := hbest.fix.ok.row _ (List.getElem_mem hjd)
              refine CW.region ?_
              refine RL.q (Y.move rfl) rfl ?_
              refine RL.buildSlice [] elem22 rfl (by decide) fill0 rfl fun b83 => ?_
              refine RL.q (Y.move rfl) rfl ?_
              refine RL.q (Y.move rfl) rfl ?_
              refine RL.q (Y.indexP j rfl rfl rfl (by omega) slice35 (Rd.mono hs49 _ _ hud)) rfl ?_
              refine RL.q (Y.loadC rfl hcd1 flat22) rfl ?_
              refine RL.ownAcc (b := b83) (k := 0) (e := 3) (sz := 1) (us := []) (by repeat (first | exact Pick.here _ | apply Pick.there)) rfl (by unfold maxLen; omega) ?_
              refine RL.addRd hrd1 ?_
              refine RL.appendRd elem22 rfl rfl (by repeat (first | exact Pick.here _ | apply Pick.there)) (by repeat (first | exact List.Mem.head _ | apply List.Mem.tail)) (by first | omega | (unfold lim; omega)) (by first | omega | (unfold lim; omega)) rfl fun a88 c88 n88 hc88 hn88 => ?_
              obtain rfl := ints_of_rd hn88
              refine RL.buildSlice [.slice a88 (0 + d[j].length) c88] elem35 rfl (by decide) (fill1 rfl rfl) rfl fun b89 => ?_
              refine RL.append elem35 rfl rfl (by repeat (first | exact Pick.here _ | apply Pick.there)) (SrcOk.own (by repeat (first | exact List.Mem.head _ | apply List.Mem.tail)) (by rfl) (by simp [Value.oneCell'])) (by first | omega | (unfold lim; omega)) (by first | omega | (unfold lim; omega)) rfl fun a90 c90 hc90 => ?_
              refine RL.q (Y.assign rfl) rfl ?_
              refine RL.nil ?_
              refine hK22 _ _ _ ?_
              refine CW.keep (Keep.cons 3 rfl (Keep.cons 4 rfl (Keep.cons 11 rfl (Keep.cons 12 rfl (Keep.cons 14 rfl (Keep.cons 15 rfl (Keep.cons 16 rfl (Keep.cons 17 rfl (Keep.cons 19 rfl (Keep.cons 20 rfl (Keep.nil _))))))))))) ?_
              rw [show 0 + d[j].length = d[j].length from Nat.zero_add _, show ([] ++ ints d[j]) = ints d[j] from rfl]
              refine CW.front (x := .acc (.slice a88 _ _) _ _ _ _) (by repeat (first | exact Pick.here _ | apply Pick.there)) ?_
              refine CW.matAPush [_, _, _] ((a88, c88), d[j]) ?_
              refine CW.region ?_
              refine RL.q (Y.move rfl) rfl ?_
              refine RL.q (Y.add rfl rfl (by omega)) rfl ?_
              refine RL.q (Y.assign rfl) rfl ?_
              refine RL.nil ?_
              refine ⟨d.length - (j + 1), [(19, _), (20, _)], ?_, (Keep.cons 19 rfl (Keep.cons 20 rfl (Keep.cons 3 rfl (Keep.cons 4 rfl (Keep.cons 11 rfl (Keep.cons 12 rfl (Keep.cons 14 rfl (Keep.cons 15 rfl (Keep.cons 16 rfl (Keep.cons 17 rfl (Keep.nil _))))))))))), ?_⟩
              · omega
              · exact Turn.drop ⟨.acc (.slice a90 (j + 1) c90) 22 1 (j + 1) (us ++ [.slice a88 d[j].length c88]) :: matA (l9 ++ [((a88, c88), d[j])]), rfl, hsub2, j + 1, _, _, a90, c90, rfl, by omega, rfl, rfl, rfl, by rw [List.length_append, hll]; rfl, by rw [List.map_append, hus]; rfl, by rw [List.map_append, hld, List.take_succ_eq_append_getElem hjd]; rfl, hc90⟩ (by repeat (first | exact List.Sublist.refl _ | apply List.Sublist.cons_cons | apply List.Sublist.cons))
            · refine CW.exit ?_
              refine hK18 _ _ _ ?_
              refine CW.seq fun K23 hK23 => ?_
              have hjd : j = d.length := by omega
              subst hjd
              rw [List.take_length] at hld
              have hlr : ∀ q ∈ l9, q.2.length ≤ lim := fun q hq => by have := hbest.fix.ok.row q.2 (by rw [← hld]; exact List.mem_map.2 ⟨q, hq, rfl⟩); unfold lim; omega
              obtain ⟨hρ0, hρ1⟩ := around_lt at0 d.length (by omega)
              obtain ⟨ρ, hρ⟩ := Int.eq_ofNat_of_zero_le hρ0
              have hρd : ρ < d.length := by omega
              have hul : us.length = d.length := by rw [← hus, List.length_map]; exact hll
              obtain ⟨p, hli2, hdp⟩ := rows_at hld (k := ρ) (by omega)
              have hpl : p.2.length = (pon b 0).length := hbest.fix.ok.row _ (List.mem_of_getElem? hdp)
              have hgi : us[ρ * 1]? = some (rowvA p) := by rw [Nat.mul_one, ← hus, List.getElem?_map, hli2]; rfl
              obtain ⟨hγ0, hγ1⟩ := around_lt (at0.tdiv 16) p.2.length (by omega)
              obtain ⟨γ, hγ⟩ := Int.eq_ofNat_of_zero_le hγ0
              have hγp : γ < p.2.length := by omega
              obtain ⟨z, hz1⟩ : ∃ z, p.2[γ]? = some z := ⟨p.2[γ], List.getElem?_eq_getElem hγp⟩
              have hzb := hbest.fix.ok.num _ (List.mem_of_getElem? hdp) z (List.mem_of_getElem? hz1)
              have hab := around_lt by0 3 (by omega)
              refine CW.region ?_
              refine RL.q (Y.move rfl) rfl ?_
              refine RL.q (Y.move rfl) rfl ?_
              refine RL.q (Y.len rfl Try.underlying35) rfl ?_
              refine RL.callv rfl func12 rfl rfl (around_ok _ _ _ at0 d.length hai (by omega)) ?_
              refine RL.q (Y.assign rfl) rfl ?_
              refine RL.nil ?_
              refine hK23 _ _ _ ?_
              refine CW.keep (Keep.cons 3 rfl (Keep.cons 4 rfl (Keep.cons 11 rfl (Keep.cons 12 rfl (Keep.cons 14 rfl (Keep.cons 16 rfl (Keep.cons 17 rfl (Keep.cons 19 rfl (Keep.cons 21 rfl (Keep.nil _)))))))))) ?_
              rw [hρ]
              refine CW.seq fun K24 hK24 => ?_
              refine CW.region ?_
              refine RL.q (Y.move rfl) rfl ?_
              refine RL.q (Y.quo rfl rfl (by omega) (tdiv_in _ hai)) rfl ?_
              refine RL.q (Y.move rfl) rfl ?_
              refine RL.q (Y.move rfl) rfl ?_
              refine RL.q (Y.indexAcc ρ rfl rfl rfl (by omega) slice35 (by repeat (first | exact List.Mem.head _ | apply List.Mem.tail)) hgi) rfl ?_
              refine RL.q (Y.loadAcc rfl (by repeat (first | exact List.Mem.head _ | apply List.Mem.tail)) hgi flat22) rfl ?_
              refine RL.q (Y.len rfl Try.underlying22) rfl ?_
              refine RL.callv rfl func12 rfl rfl (around_ok _ _ _ _ p.2.length (tdiv_in _ hai) (by omega)) ?_
              refine RL.q (Y.assign rfl) rfl ?_
              refine RL.nil ?_
              refine hK24 _ _ _ ?_
              refine CW.keep (Keep.cons 4 rfl (Keep.cons 11 rfl (Keep.cons 12 rfl (Keep.cons 14 rfl (Keep.cons 16 rfl (Keep.cons 17 rfl (Keep.cons 19 rfl (Keep.cons 21 rfl (Keep.cons 22 rfl (Keep.nil _)))))))))) ?_
              rw [hγ]
              refine CW.seq fun K25 hK25 => ?_
              refine CW.perm (List.Perm.cons _ ((matA_perm hli2 p).1.append_right _)) ?_
              refine CW.know (F := p.2.length ≤ p.1.2 ∧ (0 < p.2.length * 1 → p.1.1.isSome = true)) (fun w hw => acc_le (sz := 1) (e := 3) (us := ints p.2) hw (List.mem_cons_of_mem _ (List.mem_cons_self ..))) ?_
              rintro ⟨hpc, hps⟩
              have hsome := hps (by omega)
              clear hps
              refine CW.regionH mix _ [.acc (.slice a20 d.length c20) 22 1 d.length us] (fun _ hw => hw.sub sub_head) ?_
              refine HL.take 0 rfl (by kernel_rfl) (by kernel_rfl) (by kernel_rfl) rfl (Y.move rfl) rfl ?_
              refine HL.take 1 rfl (by kernel_rfl) (by kernel_rfl) (by kernel_rfl) rfl (Y.move rfl) rfl ?_
              refine HL.take 2 rfl (by kernel_rfl) (by kernel_rfl) (by kernel_rfl) rfl (Y.indexAcc ρ rfl rfl rfl (by omega) slice35 (by repeat (first | exact List.Mem.head _ | apply List.Mem.tail)) hgi) rfl ?_
              refine HL.take 3 rfl (by kernel_rfl) (by kernel_rfl) (by kernel_rfl) rfl (Y.loadAcc rfl (by repeat (first | exact List.Mem.head _ | apply List.Mem.tail)) hgi flat22) rfl ?_
              refine HL.take 4 rfl (by kernel_rfl) (by kernel_rfl) (by kernel_rfl) rfl (Y.move rfl) rfl ?_
              refine HL.take 5 rfl (by kernel_rfl) (by kernel_rfl) (by kernel_rfl) rfl (Y.move rfl) rfl ?_
              refine HL.take 6 rfl (by kernel_rfl) (by kernel_rfl) (by kernel_rfl) rfl (Y.move rfl) rfl ?_
              refine HL.take 7 rfl (by kernel_rfl) (by kernel_rfl) (by kernel_rfl) rfl (Y.indexAcc ρ rfl rfl rfl (by omega) slice35 (by repeat (first | exact List.Mem.head _ | apply List.Mem.tail)) hgi) rfl ?_
              refine HL.take 8 rfl (by kernel_rfl) (by kernel_rfl) (by kernel_rfl) rfl (Y.loadAcc rfl (by repeat (first | exact List.Mem.head _ | apply List.Mem.tail)) hgi flat22) rfl ?_
              refine HL.take 9 rfl (by kernel_rfl) (by kernel_rfl) (by kernel_rfl) rfl (Y.move rfl) rfl ?_
              refine HL.take 10 rfl (by kernel_rfl) (by kernel_rfl) (by kernel_rfl) rfl (Y.index γ rfl rfl rfl hγp slice22 (fun _ _ => hsome)) rfl ?_
              refine HL.take 12 rfl (by kernel_rfl) (by kernel_rfl) (by kernel_rfl) rfl (Y.move rfl) rfl ?_
              refine HL.step2 11 13 rfl rfl (by kernel_rfl) ?_ ?_
              · refine RL.q (Y.loadAcc rfl (by repeat (first | exact List.Mem.head _ | apply List.Mem.tail)) (ints_get (k := γ) hz1 (by omega)) flat3) rfl ?_
                refine RL.nil ⟨keep_same (by repeat (first | exact List.Sublist.refl _ | exact List.nil_sublist _ | apply List.Sublist.cons_cons | apply List.Sublist.cons)), ?_⟩
                refine HL.step 13 rfl (by kernel_rfl) ?_
                refine RL.callv rfl func12 rfl rfl (around_ok _ _ _ by0 3 hbi (by omega)) ?_
                refine RL.nil ⟨keep_same (by repeat (first | exact List.Sublist.refl _ | exact List.nil_sublist _ | apply List.Sublist.cons_cons | apply List.Sublist.cons)), ?_⟩
                refine HL.take 14 rfl (by kernel_rfl) (by kernel_rfl) (by kernel_rfl) rfl (Y.sub rfl rfl (by omega)) rfl ?_
                refine HL.take 15 rfl (by kernel_rfl) (by kernel_rfl) (by kernel_rfl) rfl (Y.max2 rfl rfl) rfl ?_
                refine HL.take 16 rfl (by kernel_rfl) (by kernel_rfl) (by kernel_rfl) rfl (Y.index γ rfl rfl rfl hγp slice22 (fun _ _ => hsome)) rfl ?_
                refine HL.step 17 rfl (by kernel_rfl) ?_
                refine RL.perm (List.Perm.swap _ _ _) ?_
                refine RL.storeAcc (ints (p.2.set γ (max 0 (z - around by0 3)))) rfl rfl (ints_set _ _ γ _ (by omega)) (by rw [ints_len]; omega) (by rfl) size3 ?_
                refine RL.nil ⟨keep_same (by repeat (first | exact List.Sublist.refl _ | exact List.nil_sublist _ | apply List.Sublist.cons_cons | apply List.Sublist.cons)), ?_⟩
                refine HL.done (by kernel_rfl) ?_
                refine hK25 _ _ _ ?_
                refine CW.keep (Keep.cons 11 rfl (Keep.cons 12 rfl (Keep.cons 14 rfl (Keep.cons 16 rfl (Keep.cons 17 rfl (Keep.cons 19 rfl (Keep.nil _))))))) ?_
                refine CW.sealT (xs := ((l9.set ρ (p.1, p.2.set γ (max 0 (z - around by0 3)))).map (·.2))) (u := .slice a20 d.length c20) (B := .own b12 31 us26 :: .own b11 31 us24 :: Γ) (sealT_pre ?_ (sealT_set (p := p) (R := .own b12 31 us26 :: .own b11 31 us24 :: Γ) (p.1, p.2.set γ (max 0 (z - around by0 3))) hli2 (us := us) (by rw [rowvA_set hli2 (by simp [rowvA])]; exact hus.symm) hlr (by rw [List.length_set]; unfold lim; omega) (by unfold lim; omega) hll.symm (List.Sublist.refl _))) fun M10 hs10 hx10 => ?_
                · intro w hw
                  simpa [rowA, rowvA] using hw
                generalize ((l9.set ρ (p.1, p.2.set γ (max 0 (z - around by0 3)))).map (·.2)) = xs at *
                refine CW.seq fun K26 hK26 => ?_
                refine CW.region ?_
                refine RL.q (Y.loadAll rfl (by repeat (first | exact List.Mem.head _ | apply List.Mem.tail)) hul24 agg31) rfl ?_
                refine RL.q (Y.loadAll rfl (by repeat (first | exact List.Mem.head _ | apply List.Mem.tail)) hul26 agg31) rfl ?_
                refine RL.q (Y.move rfl) rfl ?_
                refine RL.q (Y.move rfl) rfl ?_
                refine RL.q (Y.move rfl) rfl ?_
                refine RL.callv rfl func25 rfl rfl (mCheck_ok _ _ _ a b us24 us26 l0 _ cst xs _ (hu24.mono (hs26.trans (hs30.trans (hs49.trans (hs10))))) (hu26.mono (hs30.trans (hs49.trans (hs10)))) (Rd.mono hs10 _ _ hL0) (by omega) hx10) ?_
                refine RL.qs (Y.neq rfl rfl) rfl (fun g126 => ?_) (fun g126 => ?_)
                · refine RL.q (Y.move rfl) rfl ?_
                  refine RL.no ⟨_, _, rfl, rfl, rfl⟩ rfl ?_
                  refine RL.no ⟨_, _, rfl, rfl, rfl⟩ rfl ?_
                  refine RL.no ⟨_, _, rfl, rfl, rfl⟩ rfl ?_
                  refine RL.q (Y.pickT rfl rfl) rfl ?_
                  refine RL.q (Y.move rfl) rfl ?_
                  refine RL.callv ⟨_, _, rfl, rfl, rfl⟩ func21 rfl rfl (lives_ok _ _ _) ?_
                  refine RL.q (Y.pickT rfl rfl) rfl ?_
                  refine RL.q (Y.assign rfl) rfl ?_
                  refine RL.nil ?_
                  refine hK26 _ _ _ ?_
                  refine CW.keep (Keep.cons 10 rfl (Keep.nil _)) ?_
                  refine CW.ret ?_
                  refine ⟨_, rfl, ?_⟩
                  exact Turn.back hw1 (hs24.trans (hs26.trans (hs30.trans (hs49.trans (hs10))))) ⟨rfl, rfl, rfl⟩ (by repeat (first | exact List.Sublist.refl _ | apply List.Sublist.cons_cons | apply List.Sublist.cons))
                · refine RL.q (Y.move rfl) rfl ?_
                  refine RL.qg ⟨_, _, rfl, rfl, rfl⟩ (Y.move rfl) rfl ?_
                  refine RL.qg ⟨_, _, rfl, rfl, rfl⟩ (Y.move rfl) rfl ?_
                  refine RL.qgs ⟨_, _, rfl, rfl, rfl⟩ (Y.eql rfl rfl) rfl (fun g130 => ?_) (fun g130 => ?_)
                  · refine RL.q (Y.pickF rfl rfl) rfl ?_
                    refine RL.q (Y.move rfl) rfl ?_
                    refine RL.callv ⟨_, _, rfl, rfl, rfl⟩ func21 rfl rfl (lives_ok _ _ _) ?_
                    refine RL.q (Y.pickT rfl rfl) rfl ?_
                    refine RL.q (Y.assign rfl) rfl ?_
                    refine RL.nil ?_
                    refine hK26 _ _ _ ?_
                    refine CW.keep (Keep.cons 10 rfl (Keep.nil _)) ?_
                    refine CW.ret ?_
                    refine ⟨_, rfl, ?_⟩
                    exact Turn.back hw1 (hs24.trans (hs26.trans (hs30.trans (hs49.trans (hs10))))) ⟨rfl, rfl, rfl⟩ (by repeat (first | exact List.Sublist.refl _ | apply List.Sublist.cons_cons | apply List.Sublist.cons))
                  · refine RL.q (Y.pickF rfl rfl) rfl ?_
                    refine RL.q (Y.move rfl) rfl ?_
                    refine RL.no ⟨_, _, rfl, rfl, rfl⟩ rfl ?_
                    refine RL.q (Y.pickF rfl rfl) rfl ?_
                    refine RL.q (Y.assign rfl) rfl ?_
                    refine RL.nil ?_
                    refine hK26 _ _ _ ?_
                    refine CW.keep (Keep.cons 10 rfl (Keep.nil _)) ?_
                    refine CW.ret ?_
                    exact absurd (check_least (CheckR_zero hg (Decidable.not_not.1 g126)) hbest) g130
              · refine RL.callv rfl func12 rfl rfl (around_ok _ _ _ by0 3 hbi (by omega)) ?_
                refine RL.nil ⟨keep_same (by repeat (first | exact List.Sublist.refl _ | exact List.nil_sublist _ | apply List.Sublist.cons_cons | apply List.Sublist.cons)), ?_⟩
                refine HL.step 11 rfl (by kernel_rfl) ?_
                refine RL.q (Y.loadAcc rfl (by repeat (first | exact List.Mem.head _ | apply List.Mem.tail)) (ints_get (k := γ) hz1 (by omega)) flat3) rfl ?_
                refine RL.nil ⟨keep_same (by repeat (first | exact List.Sublist.refl _ | exact List.nil_sublist _ | apply List.Sublist.cons_cons | apply List.Sublist.cons)), ?_⟩
                refine HL.take 14 rfl (by kernel_rfl) (by kernel_rfl) (by kernel_rfl) rfl (Y.sub rfl rfl (by omega)) rfl ?_
                refine HL.take 15 rfl (by kernel_rfl) (by kernel_rfl) (by kernel_rfl) rfl (Y.max2 rfl rfl) rfl ?_
                refine HL.take 16 rfl (by kernel_rfl) (by kernel_rfl) (by kernel_rfl) rfl (Y.index γ rfl rfl rfl hγp slice22 (fun _ _ => hsome)) rfl ?_
                refine HL.step 17 rfl (by kernel_rfl) ?_
                refine RL.perm (List.Perm.swap _ _ _) ?_
                refine RL.storeAcc (ints (p.2.set γ (max 0 (z - around by0 3)))) rfl rfl (ints_set _ _ γ _ (by omega)) (by rw [ints_len]; omega) (by rfl) size3 ?_
                refine RL.nil ⟨keep_same (by repeat (first | exact List.Sublist.refl _ | exact List.nil_sublist _ | apply List.Sublist.cons_cons | apply List.Sublist.cons)), ?_⟩
                refine HL.done (by kernel_rfl) ?_
                refine hK25 _ _ _ ?_
                refine CW.keep (Keep.cons 11 rfl (Keep.cons 12 rfl (Keep.cons 14 rfl (Keep.cons 16 rfl (Keep.cons 17 rfl (Keep.cons 19 rfl (Keep.nil _))))))) ?_
                refine CW.sealT (xs := ((l9.set ρ (p.1, p.2.set γ (max 0 (z - around by0 3)))).map (·.2))) (u := .slice a20 d.length c20) (B := .own b12 31 us26 :: .own b11 31 us24 :: Γ) (sealT_pre ?_ (sealT_set (p := p) (R := .own b12 31 us26 :: .own b11 31 us24 :: Γ) (p.1, p.2.set γ (max 0 (z - around by0 3))) hli2 (us := us) (by rw [rowvA_set hli2 (by simp [rowvA])]; exact hus.symm) hlr (by rw [List.length_set]; unfold lim; omega) (by unfold lim; omega) hll.symm (List.Sublist.refl _))) fun M10 hs10 hx10 => ?_
                · intro w hw
                  simpa [rowA, rowvA] using hw
                generalize ((l9.set ρ (p.1, p.2.set γ (max 0 (z - around by0 3)))).map (·.2)) = xs at *
                refine CW.seq fun K27 hK27 => ?_
                refine CW.region ?_
                refine RL.q (Y.loadAll rfl (by repeat (first | exact List.Mem.head _ | apply List.Mem.tail)) hul24 agg31) rfl ?_
                refine RL.q (Y.loadAll rfl (by repeat (first | exact List.Mem.head _ | apply List.Mem.tail)) hul26 agg31) rfl ?_
                refine RL.q (Y.move rfl) rfl ?_
                refine RL.q (Y.move rfl) rfl ?_
                refine RL.q (Y.move rfl) rfl ?_
                refine RL.callv rfl func25 rfl rfl (mCheck_ok _ _ _ a b us24 us26 l0 _ cst xs _ (hu24.mono (hs26.trans (hs30.trans (hs49.trans (hs10))))) (hu26.mono (hs30.trans (hs49.trans (hs10)))) (Rd.mono hs10 _ _ hL0) (by omega) hx10) ?_
                refine RL.qs (Y.neq rfl rfl) rfl (fun g126 => ?_) (fun g126 => ?_)
                · refine RL.q (Y.move rfl) rfl ?_
                  refine RL.no ⟨_, _, rfl, rfl, rfl⟩ rfl ?_
                  refine RL.no ⟨_, _, rfl, rfl, rfl⟩ rfl ?_
                  refine RL.no ⟨_, _, rfl, rfl, rfl⟩ rfl ?_
                  refine RL.q (Y.pickT rfl rfl) rfl ?_
                  refine RL.q (Y.move rfl) rfl ?_
                  refine RL.callv ⟨_, _, rfl, rfl, rfl⟩ func21 rfl rfl (lives_ok _ _ _) ?_
                  refine RL.q (Y.pickT rfl rfl) rfl ?_
                  refine RL.q (Y.assign rfl) rfl ?_
                  refine RL.nil ?_
                  refine hK27 _ _ _ ?_
                  refine CW.keep (Keep.cons 10 rfl (Keep.nil _)) ?_
                  refine CW.ret ?_
                  refine ⟨_, rfl, ?_⟩
                  exact Turn.back hw1 (hs24.trans (hs26.trans (hs30.trans (hs49.trans (hs10))))) ⟨rfl, rfl, rfl⟩ (by repeat (first | exact List.Sublist.refl _ | apply List.Sublist.cons_cons | apply List.Sublist.cons))
                · refine RL.q (Y.move rfl) rfl ?_
                  refine RL.qg ⟨_, _, rfl, rfl, rfl⟩ (Y.move rfl) rfl ?_
                  refine RL.qg ⟨_, _, rfl, rfl, rfl⟩ (Y.move rfl) rfl ?_
                  refine RL.qgs ⟨_, _, rfl, rfl, rfl⟩ (Y.eql rfl rfl) rfl (fun g130 => ?_) (fun g130 => ?_)
                  · refine RL.q (Y.pickF rfl rfl) rfl ?_
                    refine RL.q (Y.move rfl) rfl ?_
                    refine RL.callv ⟨_, _, rfl, rfl, rfl⟩ func21 rfl rfl (lives_ok _ _ _) ?_
                    refine RL.q (Y.pickT rfl rfl) rfl ?_
                    refine RL.q (Y.assign rfl) rfl ?_
                    refine RL.nil ?_
                    refine hK27 _ _ _ ?_
                    refine CW.keep (Keep.cons 10 rfl (Keep.nil _)) ?_
                    refine CW.ret ?_
                    refine ⟨_, rfl, ?_⟩
                    exact Turn.back hw1 (hs24.trans (hs26.trans (hs30.trans (hs49.trans (hs10))))) ⟨rfl, rfl, rfl⟩ (by repeat (first | exact List.Sublist.refl _ | apply List.Sublist.cons_cons | apply List.Sublist.cons))
                  · refine RL.q (Y.pickF rfl rfl) rfl ?_
                    refine RL.q (Y.move rfl) rfl ?_
                    refine RL.no ⟨_, _, rfl, rfl, rfl⟩ rfl ?_
                    refine RL.q (Y.pickF rfl rfl) rfl ?_
                    refine RL.q (Y.assign rfl) rfl ?_
                    refine RL.nil ?_
                    refine hK27 _ _ _ ?_
                    refine CW.keep (Keep.cons 10 rfl (Keep.nil _)) ?_
                    refine CW.ret ?_
                    exact absurd (check_least (CheckR_zero hg (Decidable.not_not.1 g126)) hbest) g130
  · refine RL.q (Y.not rfl) rfl ?_
    refine RL.q (Y.move rfl) rfl ?_
    refine RL.no ⟨_, _, rfl, rfl, rfl⟩ rfl ?_
    refine RL.no ⟨_, _, rfl, rfl, rfl⟩ rfl ?_
    refine RL.no ⟨_, _, rfl, rfl, rfl⟩ rfl ?_
    refine RL.no ⟨_, _, rfl, rfl, rfl⟩ rfl ?_
    refine RL.no ⟨_, _, rfl, rfl, rfl⟩ rfl ?_
    refine RL.no ⟨_, _, rfl, rfl, rfl⟩ rfl ?_
    refine RL.no ⟨_, _, rfl, rfl, rfl⟩ rfl ?_
    refine RL.q (Y.pickT rfl rfl) rfl ?_
    refine RL.nil ?_
    refine hK6 _ _ _ ?_
    refine CW.keep (Keep.cons 2 rfl (Keep.cons 3 rfl (Keep.cons 4 rfl (Keep.cons 11 rfl (Keep.cons 12 rfl (Keep.cons 14 rfl (Keep.cons 15 rfl (Keep.cons 45 rfl (Keep.nil _))))))))) ?_
    refine CW.yes rfl ?_
    refine CW.seq fun K28 hK28 => ?_
    refine CW.region ?_
    refine RL.q (Y.assign rfl) rfl ?_
    refine RL.nil ?_
    refine hK28 _ _ _ ?_
    refine CW.keep (Keep.cons 10 rfl (Keep.nil _)) ?_
    refine CW.ret ?_
    exact absurd (even_of hbest.fix hA0 hB0) g35
end Go.Proofs.Ytjkcjbicleohkaa
