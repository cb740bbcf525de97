/- THE WALKS, law 5: MatchDistance. Printed by m16L5.py. -/
import Derived.Test.YtjkcjbicleohkaaWv
import Derived.Test.YtjkcjbicleohkaaTree
import Derived.Test.YtjkcjbicleohkaaXeN
import Derived.Test.YtjkcjbicleohkaaWL4
import Derived.Test.YtjkcjbicleohkaaDist
namespace Go.Proofs.Ytjkcjbicleohkaa
open Xe

set_option maxHeartbeats 4000000 in
theorem MatchDistance_ok (w0 : World) (M : Mem) (Γ : List As) (l m k : List Int) (ul um uk : Value) (hl : Rd M (dints l) ul) (hm : Rd M (dints m) um) (hk : Rd M (dints k) uk) (hli : ∀ x ∈ l, InI x) (hmi : ∀ x ∈ m, InI x) (hki : ∀ x ∈ k, InI x) :
    CallOk Try.prog w0 M Γ 7 #[ul, um, uk] (Is M Γ (.bool true)) := by
  obtain ⟨a, ha⟩ : ∃ a, a = tree l 10 0 := ⟨_, rfl⟩
  obtain ⟨b, hb⟩ : ∃ b, b = tree m 10 4 := ⟨_, rfl⟩
  have hga : good a := ha ▸ tree_good l 10 0 (by omega) (by omega)
  have hgb : good b := hb ▸ tree_good m 10 4 (by omega) (by omega)
  have hg := And.intro hga hgb
  have hla := pon_le hga
  have hlb := pon_le hgb
  have hA0 := (pon_whole a).pos
  have hB0 := (pon_whole b).pos
  have hsa := tree_size l 10 0 (by omega)
  rw [← ha] at hsa
  have hsb := tree_size m 10 4 (by omega)
  rw [← hb] at hsb
  obtain ⟨c, hc⟩ : ∃ c, c = tree k 10 8 := ⟨_, rfl⟩
  have hgc : good c := hc ▸ tree_good k 10 8 (by omega) (by omega)
  have hlc := pon_le hgc
  have hsc := tree_size k 10 8 (by omega)
  rw [← hc] at hsc
  have hv1 := leastV_nonneg ⟨hga, hgb⟩
  have hv2 := leastV_up ⟨hga, hgb⟩
  have hv3 := leastV_symm ⟨hga, hgb⟩
  have hv4 := leastV_tri hga hgb hgc
  have hv5 := leastV_up ⟨hga, hgc⟩
  have hv6 := leastV_up ⟨hgc, hgb⟩
  have hv7 := leastV_nonneg ⟨hga, hgc⟩
  have hv8 := leastV_nonneg ⟨hgc, hgb⟩
  refine enter (f := 7) Try.func7 rfl Try.ntmps7 rfl rfl fun w1 hw1 => ?_
  refine CW.seq fun K1 hK1 => ?_
  refine CW.region ?_
  refine RL.q (Y.assign rfl) rfl ?_
  refine RL.nil ?_
  refine hK1 _ _ _ ?_
  refine CW.keep (Keep.cons 0 rfl (Keep.cons 1 rfl (Keep.cons 2 rfl (Keep.nil _)))) ?_
  refine CW.seq fun K2 hK2 => ?_
  refine CW.region ?_
  refine RL.q (Y.move rfl) rfl ?_
  refine RL.call rfl func11 rfl rfl (ha ▸ tree_ok _ _ _ l _ 10 0 (hl) hli (by omega) (by omega)) ?_
  rintro _ M18 Γ ⟨hs18, rfl, us18, rfl, hu18⟩
  have hul18 : us18.length = 15 := hu18.1.trans (Ex.enc_len _)
  refine RL.alloc _ zero31 rfl rfl fun b7 => ?_
  refine RL.storeAgg us18 rfl rfl (by repeat (first | exact Repl.here _ | apply Repl.there)) (by simp [hul18]) (by simp [hul18]) (fun _ _ => hu18.one) (by rw [hul18]; exact size31) ?_
  refine RL.nil ?_
  refine hK2 _ _ _ ?_
  refine CW.keep (Keep.cons 1 rfl (Keep.cons 2 rfl (Keep.cons 7 rfl (Keep.nil _)))) ?_
  refine CW.seq fun K3 hK3 => ?_
  refine CW.region ?_
  refine RL.q (Y.move rfl) rfl ?_
  refine RL.call rfl func11 rfl rfl (hb ▸ tree_ok _ _ _ m _ 10 4 (Rd.mono hs18 _ _ hm) hmi (by omega) (by omega)) ?_
  rintro _ M20 Γ ⟨hs20, rfl, us20, rfl, hu20⟩
  have hul20 : us20.length = 15 := hu20.1.trans (Ex.enc_len _)
  refine RL.alloc _ zero31 rfl rfl fun b8 => ?_
  refine RL.storeAgg us20 rfl rfl (by repeat (first | exact Repl.here _ | apply Repl.there)) (by simp [hul20]) (by simp [hul20]) (fun _ _ => hu20.one) (by rw [hul20]; exact size31) ?_
  refine RL.nil ?_
  refine hK3 _ _ _ ?_
  refine CW.keep (Keep.cons 2 rfl (Keep.cons 7 rfl (Keep.cons 8 rfl (Keep.nil _)))) ?_
  refine CW.seq fun K4 hK4 => ?_
  refine CW.region ?_
  refine RL.q (Y.move rfl) rfl ?_
  refine RL.call rfl func11 rfl rfl (hc ▸ tree_ok _ _ _ k _ 10 8 (Rd.mono (hs18.trans (hs20)) _ _ hk) hki (by omega) (by omega)) ?_
  rintro _ M22 Γ ⟨hs22, rfl, us22, rfl, hu22⟩
  have hul22 : us22.length = 15 := hu22.1.trans (Ex.enc_len _)
  refine RL.alloc _ zero31 rfl rfl fun b9 => ?_
  refine RL.storeAgg us22 rfl rfl (by repeat (first | exact Repl.here _ | apply Repl.there)) (by simp [hul22]) (by simp [hul22]) (fun _ _ => hu22.one) (by rw [hul22]; exact size31) ?_
  refine RL.nil ?_
  refine hK4 _ _ _ ?_
  refine CW.keep (Keep.cons 7 rfl (Keep.cons 8 rfl (Keep.cons 9 rfl (Keep.nil _)))) ?_
  refine CW.seq fun K5 hK5 => ?_
  refine CW.region ?_
  refine RL.q (Y.loadAll rfl (by repeat (first | exact List.Mem.head _ | apply List.Mem.tail)) hul18 agg31) rfl ?_
  refine RL.q (Y.loadAll rfl (by repeat (first | exact List.Mem.head _ | apply List.Mem.tail)) hul18 agg31) rfl ?_
  refine RL.call rfl func13 rfl rfl (match_ok _ _ _ a a us18 us18 (hu18.mono (hs20.trans (hs22))) (hu18.mono (hs20.trans (hs22)))) ?_
  rintro v26 M26 _ ⟨hs26, rfl, hR⟩
  obtain ⟨d, n, Q, up, ud, rfl, hbest, hup, hud⟩ := hR.1 ⟨hga, hga⟩
  obtain ⟨ap, cp, rfl, hcp, hlimp, _⟩ := hup.slice
  obtain ⟨ad, cd, rfl, hcd, _, _⟩ := hud.slice
  have hQl := hbest.mt.len
  have hdl := hbest.fix.ok.len
  refine RL.q (Y.move rfl) rfl ?_
  refine RL.q (Y.extract rfl rfl) rfl ?_
  refine RL.q (Y.extract rfl rfl) rfl ?_
  refine RL.q (Y.extract rfl rfl) rfl ?_
  refine RL.q (Y.assign rfl) rfl ?_
  refine RL.q (Y.assign rfl) rfl ?_
  refine RL.q (Y.assign rfl) rfl ?_
  refine RL.nil ?_
  refine hK5 _ _ _ ?_
  refine CW.keep (Keep.cons 7 rfl (Keep.cons 8 rfl (Keep.cons 9 rfl (Keep.cons 10 rfl (Keep.cons 11 rfl (Keep.nil _)))))) ?_
  refine CW.seq fun K6 hK6 => ?_
  refine CW.region ?_
  refine RL.q (Y.loadAll rfl (by repeat (first | exact List.Mem.head _ | apply List.Mem.tail)) hul18 agg31) rfl ?_
  refine RL.callv rfl func19 rfl rfl (msize_ok _ _ _ _ a us18 rfl (hu18.mono (hs20.trans (hs22.trans (hs26)))) (by omega)) ?_
  refine RL.q (Y.assign rfl) rfl ?_
  refine RL.nil ?_
  refine hK6 _ _ _ ?_
  refine CW.keep (Keep.cons 7 rfl (Keep.cons 8 rfl (Keep.cons 9 rfl (Keep.cons 10 rfl (Keep.cons 11 rfl (Keep.cons 13 rfl (Keep.nil _))))))) ?_
  refine CW.seq fun K7 hK7 => ?_
  refine CW.region ?_
  refine RL.q (Y.loadAll rfl (by repeat (first | exact List.Mem.head _ | apply List.Mem.tail)) hul20 agg31) rfl ?_
  refine RL.callv rfl func19 rfl rfl (msize_ok _ _ _ _ b us20 rfl (hu20.mono (hs22.trans (hs26))) (by omega)) ?_
  refine RL.q (Y.assign rfl) rfl ?_
  refine RL.nil ?_
  refine hK7 _ _ _ ?_
  refine CW.keep (Keep.cons 7 rfl (Keep.cons 8 rfl (Keep.cons 9 rfl (Keep.cons 10 rfl (Keep.cons 11 rfl (Keep.cons 13 rfl (Keep.cons 14 rfl (Keep.nil _)))))))) ?_
  refine CW.seq fun K8 hK8 => ?_
  refine CW.region ?_
  refine RL.q (Y.loadAll rfl (by repeat (first | exact List.Mem.head _ | apply List.Mem.tail)) hul18 agg31) rfl ?_
  refine RL.q (Y.loadAll rfl (by repeat (first | exact List.Mem.head _ | apply List.Mem.tail)) hul20 agg31) rfl ?_
  refine RL.callv rfl func27 rfl rfl (least_is _ _ _ a b us18 us20 (hu18.mono (hs20.trans (hs22.trans (hs26)))) (hu20.mono (hs22.trans (hs26)))) ?_
  refine RL.q (Y.assign rfl) rfl ?_
  refine RL.nil ?_
  refine hK8 _ _ _ ?_
  refine CW.keep (Keep.cons 7 rfl (Keep.cons 8 rfl (Keep.cons 9 rfl (Keep.cons 10 rfl (Keep.cons 11 rfl (Keep.cons 13 rfl (Keep.cons 14 rfl (Keep.cons 15 rfl (Keep.nil _))))))))) ?_
  refine CW.seq fun K9 hK9 => ?_
  refine CW.seq fun K10 hK10 => ?_
  have hself := best_self hbest
  have hlenQ : (Q.map (pairOf (pon a 0) (pon a 0))).length = a.size := by rw [List.length_map]; exact hself.2.1
  have hn0 := hself.1
  refine CW.regionQ mix (by kernel_rfl) ?_
  refine QL.q (Y.move rfl) rfl ?_
  refine QL.qs (Y.neq rfl rfl) rfl (fun g38 => ?_) (fun g38 => ?_)
  · refine QL.q (Y.move rfl) rfl ?_
    refine QL.no ⟨_, _, rfl, rfl, rfl⟩ rfl ?_
    refine QL.no ⟨_, _, rfl, rfl, rfl⟩ rfl ?_
    refine QL.no ⟨_, _, rfl, rfl, rfl⟩ rfl ?_
    refine QL.no ⟨_, _, rfl, rfl, rfl⟩ rfl ?_
    refine QL.q (Y.pickT rfl rfl) rfl ?_
    refine QL.q (Y.move rfl) rfl ?_
    refine QL.no ⟨_, _, rfl, rfl, rfl⟩ rfl ?_
    refine QL.no ⟨_, _, rfl, rfl, rfl⟩ rfl ?_
    refine QL.no ⟨_, _, rfl, rfl, rfl⟩ rfl ?_
    refine QL.no ⟨_, _, rfl, rfl, rfl⟩ rfl ?_
    refine QL.no ⟨_, _, rfl, rfl, rfl⟩ rfl ?_
    refine QL.q (Y.pickT rfl rfl) rfl ?_
    refine QL.q (Y.move rfl) rfl ?_
    refine QL.no ⟨_, _, rfl, rfl, rfl⟩ rfl ?_
    refine QL.no ⟨_, _, rfl, rfl, rfl⟩ rfl ?_
    refine QL.no ⟨_, _, rfl, rfl, rfl⟩ rfl ?_
    refine QL.no ⟨_, _, rfl, rfl, rfl⟩ rfl ?_
    refine QL.no ⟨_, _, rfl, rfl, rfl⟩ rfl ?_
    refine QL.no ⟨_, _, rfl, rfl, rfl⟩ rfl ?_
    refine QL.no ⟨_, _, rfl, rfl, rfl⟩ rfl ?_
    refine QL.no ⟨_, _, rfl, rfl, rfl⟩ rfl ?_
    refine QL.no ⟨_, _, rfl, rfl, rfl⟩ rfl ?_
    refine QL.q (Y.pickT rfl rfl) rfl ?_
    refine QL.q (Y.move rfl) rfl ?_
    refine QL.no ⟨_, _, rfl, rfl, rfl⟩ rfl ?_
    refine QL.no ⟨_, _, rfl, rfl, rfl⟩ rfl ?_
    refine QL.no ⟨_, _, rfl, rfl, rfl⟩ rfl ?_
    refine QL.no ⟨_, _, rfl, rfl, rfl⟩ rfl ?_
    refine QL.no ⟨_, _, rfl, rfl, rfl⟩ rfl ?_
    refine QL.no ⟨_, _, rfl, rfl, rfl⟩ rfl ?_
    refine QL.no ⟨_, _, rfl, rfl, rfl⟩ rfl ?_
    refine QL.no ⟨_, _, rfl, rfl, rfl⟩ rfl ?_
    refine QL.no ⟨_, _, rfl, rfl, rfl⟩ rfl ?_
    refine QL.q (Y.pickT rfl rfl) rfl ?_
    refine QL.q (Y.move rfl) rfl ?_
    refine QL.no ⟨_, _, rfl, rfl, rfl⟩ rfl ?_
    refine QL.no ⟨_, _, rfl, rfl, rfl⟩ rfl ?_
    refine QL.no ⟨_, _, rfl, rfl, rfl⟩ rfl ?_
    refine QL.no ⟨_, _, rfl, rfl, rfl⟩ rfl ?_
    refine QL.no ⟨_, _, rfl, rfl, rfl⟩ rfl ?_
    refine QL.no ⟨_, _, rfl, rfl, rfl⟩ rfl ?_
    refine QL.q (Y.pickT rfl rfl) rfl ?_
    refine QL.nil ?_
    refine hK10 _ _ _ ?_
    refine CW.keep (Keep.cons 10 rfl (Keep.cons 81 rfl (Keep.nil _))) ?_
    refine CW.yes rfl ?_
    refine CW.seq fun K11 hK11 => ?_
    refine CW.region ?_
    refine RL.q (Y.assign rfl) rfl ?_
    refine RL.nil ?_
    refine hK11 _ _ _ ?_
    refine CW.keep (Keep.cons 6 rfl (Keep.nil _)) ?_
    refine CW.ret ?_
    exact absurd hn0 g38
  · refine QL.q (Y.move rfl) rfl ?_
    refine QL.qg ⟨_, _, rfl, rfl, rfl⟩ (Y.move rfl) rfl ?_
    refine QL.qg ⟨_, _, rfl, rfl, rfl⟩ (Y.len rfl Try.underlying34) rfl ?_
    refine QL.qg ⟨_, _, rfl, rfl, rfl⟩ (Y.move rfl) rfl ?_
    refine QL.qgs ⟨_, _, rfl, rfl, rfl⟩ (Y.neq rfl rfl) rfl (fun g43 => ?_) (fun g43 => ?_)
    · refine QL.q (Y.pickF rfl rfl) rfl ?_
      refine QL.q (Y.move rfl) rfl ?_
      refine QL.no ⟨_, _, rfl, rfl, rfl⟩ rfl ?_
      refine QL.no ⟨_, _, rfl, rfl, rfl⟩ rfl ?_
      refine QL.no ⟨_, _, rfl, rfl, rfl⟩ rfl ?_
      refine QL.no ⟨_, _, rfl, rfl, rfl⟩ rfl ?_
      refine QL.no ⟨_, _, rfl, rfl, rfl⟩ rfl ?_
      refine QL.q (Y.pickT rfl rfl) rfl ?_
      refine QL.q (Y.move rfl) rfl ?_
      refine QL.no ⟨_, _, rfl, rfl, rfl⟩ rfl ?_
      refine QL.no ⟨_, _, rfl, rfl, rfl⟩ rfl ?_
      refine QL.no ⟨_, _, rfl, rfl, rfl⟩ rfl ?_
      refine QL.no ⟨_, _, rfl, rfl, rfl⟩ rfl ?_
      refine QL.no ⟨_, _, rfl, rfl, rfl⟩ rfl ?_
      refine QL.no ⟨_, _, rfl, rfl, rfl⟩ rfl ?_
      refine QL.no ⟨_, _, rfl, rfl, rfl⟩ rfl ?_
      refine QL.no ⟨_, _, rfl, rfl, rfl⟩ rfl ?_
      refine QL.no ⟨_, _, rfl, rfl, rfl⟩ rfl ?_
      refine QL.q (Y.pickT rfl rfl) rfl ?_
      refine QL.q (Y.move rfl) rfl ?_
      refine QL.no ⟨_, _, rfl, rfl, rfl⟩ rfl ?_
      refine QL.no ⟨_, _, rfl, rfl, rfl⟩ rfl ?_
      refine QL.no ⟨_, _, rfl, rfl, rfl⟩ rfl ?_
      refine QL.no ⟨_, _, rfl, rfl, rfl⟩ rfl ?_
      refine QL.no ⟨_, _, rfl, rfl, rfl⟩ rfl ?_
      refine QL.no ⟨_, _, rfl, rfl, rfl⟩ rfl ?_
      refine QL.no ⟨_, _, rfl, rfl, rfl⟩ rfl ?_
      refine QL.no ⟨_, _, rfl, rfl, rfl⟩ rfl ?_
      refine QL.no ⟨_, _, rfl, rfl, rfl⟩ rfl ?_
      refine QL.q (Y.pickT rfl rfl) rfl ?_
      refine QL.q (Y.move rfl) rfl ?_
      refine QL.no ⟨_, _, rfl, rfl, rfl⟩ rfl ?_
      refine QL.no ⟨_, _, rfl, rfl, rfl⟩ rfl ?_
      refine QL.no ⟨_, _, rfl, rfl, rfl⟩ rfl ?_
      refine QL.no ⟨_, _, rfl, rfl, rfl⟩ rfl ?_
      refine QL.no ⟨_, _, rfl, rfl, rfl⟩ rfl ?_
      refine QL.no ⟨_, _, rfl, rfl, rfl⟩ rfl ?_
      refine QL.q (Y.pickT rfl rfl) rfl ?_
      refine QL.nil ?_
      refine hK10 _ _ _ ?_
      refine CW.keep (Keep.cons 10 rfl (Keep.cons 81 rfl (Keep.nil _))) ?_
      refine CW.yes rfl ?_
      refine CW.seq fun K12 hK12 => ?_
      refine CW.region ?_
      refine RL.q (Y.assign rfl) rfl ?_
      refine RL.nil ?_
      refine hK12 _ _ _ ?_
      refine CW.keep (Keep.cons 6 rfl (Keep.nil _)) ?_
      refine CW.ret ?_
      exact absurd (by omega) g43
    · refine QL.q (Y.pickF rfl rfl) rfl ?_
      refine QL.q (Y.move rfl) rfl ?_
      refine QL.qg ⟨_, _, rfl, rfl, rfl⟩ (Y.move rfl) rfl ?_
      refine QL.qg ⟨_, _, rfl, rfl, rfl⟩ (Y.loadAll rfl (by repeat (first | exact List.Mem.head _ | apply List.Mem.tail)) hul20 agg31) rfl ?_
      refine QL.qg ⟨_, _, rfl, rfl, rfl⟩ (Y.loadAll rfl (by repeat (first | exact List.Mem.head _ | apply List.Mem.tail)) hul18 agg31) rfl ?_
      refine QL.callv ⟨_, _, rfl, rfl, rfl⟩ func27 rfl rfl (fun _ _ => least_is _ _ _ b a us20 us18 (hu20.mono (hs22.trans (hs26))) (hu18.mono (hs20.trans (hs22.trans (hs26))))) ?_
      refine QL.qgs ⟨_, _, rfl, rfl, rfl⟩ (Y.neq rfl rfl) rfl (fun g50 => ?_) (fun g50 => ?_)
      · refine QL.q (Y.pickF rfl rfl) rfl ?_
        refine QL.q (Y.move rfl) rfl ?_
        refine QL.no ⟨_, _, rfl, rfl, rfl⟩ rfl ?_
        refine QL.no ⟨_, _, rfl, rfl, rfl⟩ rfl ?_
        refine QL.no ⟨_, _, rfl, rfl, rfl⟩ rfl ?_
        refine QL.no ⟨_, _, rfl, rfl, rfl⟩ rfl ?_
        refine QL.no ⟨_, _, rfl, rfl, rfl⟩ rfl ?_
        refine QL.no ⟨_, _, rfl, rfl, rfl⟩ rfl ?_
        refine QL.no ⟨_, _, rfl, rfl, rfl⟩ rfl ?_
        refine QL.no ⟨_, _, rfl, rfl, rfl⟩ rfl ?_
        refine QL.no ⟨_, _, rfl, rfl, rfl⟩ rfl ?_
        refine QL.q (Y.pickT rfl rfl) rfl ?_
        refine QL.q (Y.move rfl) rfl ?_
        refine QL.no ⟨_, _, rfl, rfl, rfl⟩ rfl ?_
        refine QL.no ⟨_, _, rfl, rfl, rfl⟩ rfl ?_
        refine QL.no ⟨_, _, rfl, rfl, rfl⟩ rfl ?_
        refine QL.no ⟨_, _, rfl, rfl, rfl⟩ rfl ?_
        refine QL.no ⟨_, _, rfl, rfl, rfl⟩ rfl ?_
        refine QL.no ⟨_, _, rfl, rfl, rfl⟩ rfl ?_
        refine QL.no ⟨_, _, rfl, rfl, rfl⟩ rfl ?_
        refine QL.no ⟨_, _, rfl, rfl, rfl⟩ rfl ?_
        refine QL.no ⟨_, _, rfl, rfl, rfl⟩ rfl ?_
        refine QL.q (Y.pickT rfl rfl) rfl ?_
        refine QL.q (Y.move rfl) rfl ?_
        refine QL.no ⟨_, _, rfl, rfl, rfl⟩ rfl ?_
        refine QL.no ⟨_, _, rfl, rfl, rfl⟩ rfl ?_
        refine QL.no ⟨_, _, rfl, rfl, rfl⟩ rfl ?_
        refine QL.no ⟨_, _, rfl, rfl, rfl⟩ rfl ?_
        refine QL.no ⟨_, _, rfl, rfl, rfl⟩ rfl ?_
        refine QL.no ⟨_, _, rfl, rfl, rfl⟩ rfl ?_
        refine QL.q (Y.pickT rfl rfl) rfl ?_
        refine QL.nil ?_
        refine hK10 _ _ _ ?_
        refine CW.keep (Keep.cons 10 rfl (Keep.cons 81 rfl (Keep.nil _))) ?_
        refine CW.yes rfl ?_
        refine CW.seq fun K13 hK13 => ?_
        refine CW.region ?_
        refine RL.q (Y.assign rfl) rfl ?_
        refine RL.nil ?_
        refine hK13 _ _ _ ?_
        refine CW.keep (Keep.cons 6 rfl (Keep.nil _)) ?_
        refine CW.ret ?_
        exact absurd hv3 g50
      · refine QL.q (Y.pickF rfl rfl) rfl ?_
        refine QL.q (Y.move rfl) rfl ?_
        refine QL.qg ⟨_, _, rfl, rfl, rfl⟩ (Y.move rfl) rfl ?_
        refine QL.qg ⟨_, _, rfl, rfl, rfl⟩ (Y.loadAll rfl (by repeat (first | exact List.Mem.head _ | apply List.Mem.tail)) hul18 agg31) rfl ?_
        refine QL.qg ⟨_, _, rfl, rfl, rfl⟩ (Y.loadAll rfl (by repeat (first | exact List.Mem.head _ | apply List.Mem.tail)) hul22 agg31) rfl ?_
        refine QL.callv ⟨_, _, rfl, rfl, rfl⟩ func27 rfl rfl (fun _ _ => least_is _ _ _ a c us18 us22 (hu18.mono (hs20.trans (hs22.trans (hs26)))) (hu22.mono hs26)) ?_
        refine QL.qg ⟨_, _, rfl, rfl, rfl⟩ (Y.loadAll rfl (by repeat (first | exact List.Mem.head _ | apply List.Mem.tail)) hul22 agg31) rfl ?_
        refine QL.qg ⟨_, _, rfl, rfl, rfl⟩ (Y.loadAll rfl (by repeat (first | exact List.Mem.head _ | apply List.Mem.tail)) hul20 agg31) rfl ?_
        refine QL.callv ⟨_, _, rfl, rfl, rfl⟩ func27 rfl rfl (fun _ _ => least_is _ _ _ c b us22 us20 (hu22.mono hs26) (hu20.mono (hs22.trans (hs26)))) ?_
        refine QL.qg ⟨_, _, rfl, rfl, rfl⟩ (Y.add rfl rfl (by omega)) rfl ?_
        refine QL.qgs ⟨_, _, rfl, rfl, rfl⟩ (Y.gtr rfl rfl) rfl (fun g61 => ?_) (fun g61 => ?_)
        · refine QL.q (Y.pickF rfl rfl) rfl ?_
          refine QL.q (Y.move rfl) rfl ?_
          refine QL.no ⟨_, _, rfl, rfl, rfl⟩ rfl ?_
          refine QL.no ⟨_, _, rfl, rfl, rfl⟩ rfl ?_
          refine QL.no ⟨_, _, rfl, rfl, rfl⟩ rfl ?_
          refine QL.no ⟨_, _, rfl, rfl, rfl⟩ rfl ?_
          refine QL.no ⟨_, _, rfl, rfl, rfl⟩ rfl ?_
          refine QL.no ⟨_, _, rfl, rfl, rfl⟩ rfl ?_
          refine QL.no ⟨_, _, rfl, rfl, rfl⟩ rfl ?_
          refine QL.no ⟨_, _, rfl, rfl, rfl⟩ rfl ?_
          refine QL.no ⟨_, _, rfl, rfl, rfl⟩ rfl ?_
          refine QL.q (Y.pickT rfl rfl) rfl ?_
          refine QL.q (Y.move rfl) rfl ?_
          refine QL.no ⟨_, _, rfl, rfl, rfl⟩ rfl ?_
          refine QL.no ⟨_, _, rfl, rfl, rfl⟩ rfl ?_
          refine QL.no ⟨_, _, rfl, rfl, rfl⟩ rfl ?_
          refine QL.no ⟨_, _, rfl, rfl, rfl⟩ rfl ?_
          refine QL.no ⟨_, _, rfl, rfl, rfl⟩ rfl ?_
          refine QL.no ⟨_, _, rfl, rfl, rfl⟩ rfl ?_
          refine QL.q (Y.pickT rfl rfl) rfl ?_
          refine QL.nil ?_
          refine hK10 _ _ _ ?_
          refine CW.keep (Keep.cons 10 rfl (Keep.cons 81 rfl (Keep.nil _))) ?_
          refine CW.yes rfl ?_
          refine CW.seq fun K14 hK14 => ?_
          refine CW.region ?_
          refine RL.q (Y.assign rfl) rfl ?_
          refine RL.nil ?_
          refine hK14 _ _ _ ?_
          refine CW.keep (Keep.cons 6 rfl (Keep.nil _)) ?_
          refine CW.ret ?_
          exact absurd g61 (by omega)
        · refine QL.q (Y.pickF rfl rfl) rfl ?_
          refine QL.q (Y.move rfl) rfl ?_
          refine QL.qg ⟨_, _, rfl, rfl, rfl⟩ (Y.move rfl) rfl ?_
          refine QL.qg ⟨_, _, rfl, rfl, rfl⟩ (Y.move rfl) rfl ?_
          refine QL.qg ⟨_, _, rfl, rfl, rfl⟩ (Y.move rfl) rfl ?_
          refine QL.qg ⟨_, _, rfl, rfl, rfl⟩ (Y.sub rfl rfl (by omega)) rfl ?_
          refine QL.qg ⟨_, _, rfl, rfl, rfl⟩ (Y.move rfl) rfl ?_
          refine QL.qg ⟨_, _, rfl, rfl, rfl⟩ (Y.move rfl) rfl ?_
          refine QL.qg ⟨_, _, rfl, rfl, rfl⟩ (Y.sub rfl rfl (by omega)) rfl ?_
          refine QL.qg ⟨_, _, rfl, rfl, rfl⟩ (Y.max2 rfl rfl) rfl ?_
          refine QL.qgs ⟨_, _, rfl, rfl, rfl⟩ (Y.lss rfl rfl) rfl (fun g72 => ?_) (fun g72 => ?_)
          · refine QL.q (Y.pickF rfl rfl) rfl ?_
            refine QL.q (Y.move rfl) rfl ?_
            refine QL.no ⟨_, _, rfl, rfl, rfl⟩ rfl ?_
            refine QL.no ⟨_, _, rfl, rfl, rfl⟩ rfl ?_
            refine QL.no ⟨_, _, rfl, rfl, rfl⟩ rfl ?_
            refine QL.no ⟨_, _, rfl, rfl, rfl⟩ rfl ?_
            refine QL.no ⟨_, _, rfl, rfl, rfl⟩ rfl ?_
            refine QL.no ⟨_, _, rfl, rfl, rfl⟩ rfl ?_
            refine QL.q (Y.pickT rfl rfl) rfl ?_
            refine QL.nil ?_
            refine hK10 _ _ _ ?_
            refine CW.keep (Keep.cons 10 rfl (Keep.cons 81 rfl (Keep.nil _))) ?_
            refine CW.yes rfl ?_
            refine CW.seq fun K15 hK15 => ?_
            refine CW.region ?_
            refine RL.q (Y.assign rfl) rfl ?_
            refine RL.nil ?_
            refine hK15 _ _ _ ?_
            refine CW.keep (Keep.cons 6 rfl (Keep.nil _)) ?_
            refine CW.ret ?_
            exact absurd g72 (by omega)
          · refine QL.q (Y.pickF rfl rfl) rfl ?_
            refine QL.q (Y.move rfl) rfl ?_
            refine QL.qg ⟨_, _, rfl, rfl, rfl⟩ (Y.move rfl) rfl ?_
            refine QL.qg ⟨_, _, rfl, rfl, rfl⟩ (Y.move rfl) rfl ?_
            refine QL.qg ⟨_, _, rfl, rfl, rfl⟩ (Y.move rfl) rfl ?_
            refine QL.qg ⟨_, _, rfl, rfl, rfl⟩ (Y.add rfl rfl (by omega)) rfl ?_
            refine QL.qg ⟨_, _, rfl, rfl, rfl⟩ (Y.sub rfl rfl (by omega)) rfl ?_
            refine QL.qg ⟨_, _, rfl, rfl, rfl⟩ (Y.gtr rfl rfl) rfl ?_
            refine QL.q (Y.pickF rfl rfl) rfl ?_
            refine QL.nil ?_
            refine hK10 _ _ _ ?_
            refine CW.keep (Keep.cons 10 rfl (Keep.cons 81 rfl (Keep.nil _))) ?_
            refine CW.ite rfl (fun h6 => ?_) (fun h6 => ?_)
            · refine CW.seq fun K16 hK16 => ?_
              refine CW.region ?_
              refine RL.q (Y.assign rfl) rfl ?_
              refine RL.nil ?_
              refine hK16 _ _ _ ?_
              refine CW.keep (Keep.cons 6 rfl (Keep.nil _)) ?_
              refine CW.ret ?_
              exact absurd h6 (by omega)
            · refine CW.skip ?_
              refine hK9 _ _ _ ?_
              refine CW.seq fun K17 hK17 => ?_
              refine CW.seq fun K18 hK18 => ?_
              refine CW.region ?_
              refine RL.q (Y.assign rfl) rfl ?_
              refine RL.nil ?_
              refine hK18 _ _ _ ?_
              refine CW.keep (Keep.cons 10 rfl (Keep.cons 16 rfl (Keep.nil _))) ?_
              refine CW.block ?_
              -- LOOP 1: live [10, 16] changed [16]
              refine CW.keep (Keep.cons 16 rfl (Keep.cons 10 rfl (Keep.nil _))) ?_
              refine CW.loopF (fun mm Lc M3 Γc => ∃ i : Nat, mm = (Q.map (pairOf (pon a 0) (pon a 0))).length - i ∧ i ≤ (Q.map (pairOf (pon a 0) (pon a 0))).length ∧ Lc = [(16, vint i)] ∧ Γc = [] ∧ M3 = M26) (Q.map (pairOf (pon a 0) (pon a 0))).length [(16, _)] [] rfl rfl ⟨0, rfl, Nat.zero_le _, rfl, rfl, rfl⟩ ?_
              rintro mm Lc M3 Γc hsub ⟨i, rfl, hi, rfl, rfl, rfl⟩
              refine CW.seq fun K19 hK19 => ?_
              refine CW.seq fun K20 hK20 => ?_
              refine CW.region ?_
              refine RL.q (Y.move rfl) rfl ?_
              refine RL.q (Y.move rfl) rfl ?_
              refine RL.q (Y.len rfl Try.underlying34) rfl ?_
              refine RL.q (Y.lss rfl rfl) rfl ?_
              refine RL.nil ?_
              refine hK20 _ _ _ ?_
              refine CW.keep (Keep.cons 10 rfl (Keep.cons 16 rfl (Keep.cons 85 rfl (Keep.nil _)))) ?_
              refine CW.ite rfl (fun h7 => ?_) (fun h7 => ?_)
              · have hi7 : i < (Q.map (pairOf (pon a 0) (pon a 0))).length := by omega
                refine CW.skip ?_
                refine hK19 _ _ _ ?_
                refine CW.seq fun K21 hK21 => ?_
                refine CW.block ?_
                refine CW.seq fun K22 hK22 => ?_
                refine CW.regionQ mix (by kernel_rfl) ?_
                refine QL.q (Y.move rfl) rfl ?_
                refine QL.q (Y.move rfl) rfl ?_
                refine QL.q (Y.indexP i rfl rfl rfl (by omega) slice34 hup) rfl ?_
                refine QL.q (Y.field rfl field51_0) rfl ?_
                refine QL.q (Y.loadAggP ((Q.map (pairOf (pon a 0) (pon a 0)))[i].frm.vals) rfl hup (by exact (flat_sub PairD.enc_len _ i _ (List.getElem?_eq_getElem _) 0 3 (by decide)).trans rfl) agg24) rfl ?_
                refine QL.q (Y.move rfl) rfl ?_
                refine QL.q (Y.move rfl) rfl ?_
                refine QL.q (Y.indexP i rfl rfl rfl (by omega) slice34 hup) rfl ?_
                refine QL.q (Y.field rfl field51_1) rfl ?_
                refine QL.q (Y.loadAggP ((Q.map (pairOf (pon a 0) (pon a 0)))[i].to.vals) rfl hup (by exact (flat_sub PairD.enc_len _ i _ (List.getElem?_eq_getElem _) 3 3 (by decide)).trans rfl) agg24) rfl ?_
                refine QL.q (id24_neq rfl rfl) rfl ?_
                refine QL.nil ?_
                refine hK22 _ _ _ ?_
                refine CW.keep (Keep.cons 10 rfl (Keep.cons 16 rfl (Keep.cons 98 rfl (Keep.nil _)))) ?_
                refine CW.ite rfl (fun h8 => ?_) (fun h8 => ?_)
                · refine CW.seq fun K23 hK23 => ?_
                  refine CW.region ?_
                  refine RL.q (Y.assign rfl) rfl ?_
                  refine RL.nil ?_
                  refine hK23 _ _ _ ?_
                  refine CW.keep (Keep.cons 6 rfl (Keep.nil _)) ?_
                  refine CW.ret ?_
                  exact absurd (by rw [List.getElem_map]; have := hself.2.2 _ (List.getElem_mem (by rw [List.length_map] at hi7; exact hi7)); simp only [pairOf, this]) h8
                · refine CW.skip ?_
                  refine hK21 _ _ _ ?_
                  refine CW.region ?_
                  refine RL.q (Y.move rfl) rfl ?_
                  refine RL.q (Y.add rfl rfl (by omega)) rfl ?_
                  refine RL.q (Y.assign rfl) rfl ?_
                  refine RL.nil ?_
                  refine ⟨(Q.map (pairOf (pon a 0) (pon a 0))).length - (i + 1), [(16, _)], ?_, (Keep.cons 16 rfl (Keep.cons 10 rfl (Keep.nil _))), ?_⟩
                  · omega
                  · exact Turn.drop ⟨[], rfl, hsub, i + 1, rfl, by omega, rfl, rfl, rfl⟩ (by repeat (first | exact List.Sublist.refl _ | apply List.Sublist.cons_cons | apply List.Sublist.cons))
              · refine CW.exit ?_
                refine hK17 _ _ _ ?_
                refine CW.seq fun K24 hK24 => ?_
                refine CW.region ?_
                refine RL.callv rfl func21 rfl rfl (lives_ok _ _ _) ?_
                refine RL.q (Y.assign rfl) rfl ?_
                refine RL.nil ?_
                refine hK24 _ _ _ ?_
                refine CW.keep (Keep.cons 6 rfl (Keep.nil _)) ?_
                refine CW.ret ?_
                refine ⟨_, rfl, ?_⟩
                exact Turn.back hw1 (hs18.trans (hs20.trans (hs22.trans (hs26)))) ⟨rfl, rfl, rfl⟩ (by repeat (first | exact List.Sublist.refl _ | apply List.Sublist.cons_cons | apply List.Sublist.cons))
end Go.Proofs.Ytjkcjbicleohkaa
