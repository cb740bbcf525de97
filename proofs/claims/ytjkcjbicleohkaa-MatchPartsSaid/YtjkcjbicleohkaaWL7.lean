/- THE WALKS, law 7: MatchParts. Printed by m16L7.py. -/
import Derived.Test.YtjkcjbicleohkaaWv
import Derived.Test.YtjkcjbicleohkaaTree
import Derived.Test.YtjkcjbicleohkaaXeN
import Derived.Test.YtjkcjbicleohkaaWL4
import Derived.Test.YtjkcjbicleohkaaDist
import Derived.Test.YtjkcjbicleohkaaForest
namespace Go.Proofs.Ytjkcjbicleohkaa
open Xe

set_option maxHeartbeats 4000000 in
theorem MatchParts_ok (w0 : World) (M : Mem) (Γ : List As) (l m : List Int) (how : Int) (ul um : Value) (hl : Rd M (dints l) ul) (hm : Rd M (dints m) um) (hli : ∀ x ∈ l, InI x) (hmi : ∀ x ∈ m, InI x) (hhi : InI how) :
    CallOk Try.prog w0 M Γ 9 #[ul, um, vint how] (Is M Γ (.bool true)) := by
  obtain ⟨a, ha⟩ : ∃ a, a = tree l 10 0 := ⟨_, rfl⟩
  obtain ⟨b, hb⟩ : ∃ b, b = tree m 10 4 := ⟨_, rfl⟩
  have hga : good a := ha ▸ tree_good l 10 0 (by omega) (by omega)
  have hgb : good b := hb ▸ tree_good m 10 4 (by omega) (by omega)
  have hg := And.intro hga hgb
  have hla := pon_le hga
  have hlb := pon_le hgb
  have hA0 := (pon_whole a).pos
  have hB0 := (pon_whole b).pos
  have hsa := tree_size l 10 0 (by omega)
  rw [← ha] at hsa
  have hsb := tree_size m 10 4 (by omega)
  rw [← hb] at hsb
  refine enter (f := 9) Try.func9 rfl Try.ntmps9 rfl rfl fun w1 hw1 => ?_
  refine CW.seq fun K1 hK1 => ?_
  refine CW.region ?_
  refine RL.q (Y.assign rfl) rfl ?_
  refine RL.nil ?_
  refine hK1 _ _ _ ?_
  refine CW.keep (Keep.cons 0 rfl (Keep.cons 1 rfl (Keep.cons 2 rfl (Keep.nil _)))) ?_
  refine CW.seq fun K2 hK2 => ?_
  refine CW.region ?_
  refine RL.q (Y.move rfl) rfl ?_
  refine RL.call rfl func11 rfl rfl (ha ▸ tree_ok _ _ _ l _ 10 0 (hl) hli (by omega) (by omega)) ?_
  rintro _ M14 Γ ⟨hs14, rfl, us14, rfl, hu14⟩
  have hul14 : us14.length = 15 := hu14.1.trans (Ex.enc_len _)
  refine RL.alloc _ zero31 rfl rfl fun b7 => ?_
  refine RL.storeAgg us14 rfl rfl (by repeat (first | exact Repl.here _ | apply Repl.there)) (by simp [hul14]) (by simp [hul14]) (fun _ _ => hu14.one) (by rw [hul14]; exact size31) ?_
  refine RL.nil ?_
  refine hK2 _ _ _ ?_
  refine CW.keep (Keep.cons 1 rfl (Keep.cons 2 rfl (Keep.cons 7 rfl (Keep.nil _)))) ?_
  refine CW.seq fun K3 hK3 => ?_
  refine CW.region ?_
  refine RL.q (Y.move rfl) rfl ?_
  refine RL.call rfl func11 rfl rfl (hb ▸ tree_ok _ _ _ m _ 10 4 (Rd.mono hs14 _ _ hm) hmi (by omega) (by omega)) ?_
  rintro _ M16 Γ ⟨hs16, rfl, us16, rfl, hu16⟩
  have hul16 : us16.length = 15 := hu16.1.trans (Ex.enc_len _)
  refine RL.alloc _ zero31 rfl rfl fun b8 => ?_
  refine RL.storeAgg us16 rfl rfl (by repeat (first | exact Repl.here _ | apply Repl.there)) (by simp [hul16]) (by simp [hul16]) (fun _ _ => hu16.one) (by rw [hul16]; exact size31) ?_
  refine RL.nil ?_
  refine hK3 _ _ _ ?_
  refine CW.keep (Keep.cons 2 rfl (Keep.cons 7 rfl (Keep.cons 8 rfl (Keep.nil _)))) ?_
  refine CW.cut (fun L' M' Γ' => ∃ (b2 : Ex) (us2 : List Value), Keep L' [(7, .pointer (some (adr (some ⟨b7, 0, none⟩) 0))), (8, .pointer (some (adr (some ⟨b8, 0, none⟩) 0)))] ∧ M' = M16 ∧ RdL M16 b2.enc us2 ∧ good b2 ∧ b2.size ≤ 20 ∧ ∀ w, St w0 M' Γ' w → St w0 M16 (.own b8 31 us2 :: .own b7 31 us14 :: Γ) w) ?_ ?_
  · refine CW.seq fun K4 hK4 => ?_
    refine CW.region ?_
    refine RL.q (Y.move rfl) rfl ?_
    refine RL.callv rfl func12 rfl rfl (around_ok _ _ _ how 2 hhi (by omega)) ?_
    refine RL.q (Y.eql rfl rfl) rfl ?_
    refine RL.nil ?_
    refine hK4 _ _ _ ?_
    refine CW.keep (Keep.cons 7 rfl (Keep.cons 8 rfl (Keep.cons 19 rfl (Keep.nil _)))) ?_
    refine CW.ite rfl (fun h1 => ?_) (fun h1 => ?_)
    · refine CW.seq fun K5 hK5 => ?_
      refine CW.addRds (by have h := hu14.mono hs16; rw [Ex.enc_eq] at h; exact h) ?_
      refine CW.region ?_
      refine RL.q (Y.field rfl field31_1) rfl ?_
      first | refine RL.q (Y.loadOwnV rfl (by repeat (first | exact List.Mem.head _ | apply List.Mem.tail)) (by repeat (first | exact List.Mem.head _ | apply List.Mem.tail)) (by rfl) flat3) rfl ?_ | refine RL.q (Y.loadOwn rfl (by repeat (first | exact List.Mem.head _ | apply List.Mem.tail)) (by rfl) flat3) rfl ?_ | refine RL.loadOwnSl rfl rfl (by repeat (first | exact List.Mem.head _ | apply List.Mem.tail)) (by repeat (first | exact List.Mem.head _ | apply List.Mem.tail)) (by rfl) flat3 rfl fun a21 c21 hu21 hc21 hl21 => ?_
      refine RL.q (Y.field rfl field31_1) rfl ?_
      refine RL.store _ rfl rfl (by repeat (first | exact Repl.here _ | apply Repl.there)) (by rfl) (by simp [hul16]) (by rfl) size3 ?_
      refine RL.nil ?_
      refine hK5 _ _ _ ?_
      refine CW.keep (Keep.cons 7 rfl (Keep.cons 8 rfl (Keep.nil _))) ?_
      refine CW.seq fun K6 hK6 => ?_
      refine CW.region ?_
      refine RL.q (Y.field rfl field31_2) rfl ?_
      first | refine RL.q (Y.loadOwnV rfl (by repeat (first | exact List.Mem.head _ | apply List.Mem.tail)) (by repeat (first | exact List.Mem.head _ | apply List.Mem.tail)) (by rfl) flat3) rfl ?_ | refine RL.q (Y.loadOwn rfl (by repeat (first | exact List.Mem.head _ | apply List.Mem.tail)) (by rfl) flat3) rfl ?_ | refine RL.loadOwnSl rfl rfl (by repeat (first | exact List.Mem.head _ | apply List.Mem.tail)) (by repeat (first | exact List.Mem.head _ | apply List.Mem.tail)) (by rfl) flat3 rfl fun a24 c24 hu24 hc24 hl24 => ?_
      refine RL.q (Y.field rfl field31_2) rfl ?_
      refine RL.store _ rfl rfl (by repeat (first | exact Repl.here _ | apply Repl.there)) (by rfl) (by simp [hul16]) (by rfl) size3 ?_
      refine RL.nil ?_
      refine hK6 _ _ _ ?_
      refine CW.keep (Keep.cons 7 rfl (Keep.cons 8 rfl (Keep.nil _))) ?_
      refine CW.seq fun K7 hK7 => ?_
      refine CW.region ?_
      refine RL.q (Y.field rfl field31_3) rfl ?_
      first | refine RL.q (Y.loadAggV [_, _, _] rfl (by repeat (first | exact List.Mem.head _ | apply List.Mem.tail)) (by repeat (first | exact List.Mem.head _ | apply List.Mem.tail)) (by rfl) agg24) rfl ?_ | refine RL.q (Y.loadAll rfl (by repeat (first | exact List.Mem.head _ | apply List.Mem.tail)) (by rfl) agg24) rfl ?_
      refine RL.q (Y.field rfl field31_3) rfl ?_
      refine RL.storeAgg _ rfl rfl (by repeat (first | exact Repl.here _ | apply Repl.there)) (by rfl) (by simp [hul16]) (by simp [Value.oneCell']) size24 ?_
      refine RL.nil ?_
      refine hK7 _ _ _ ?_
      refine CW.keep (Keep.cons 7 rfl (Keep.cons 8 rfl (Keep.nil _))) ?_
      refine CW.region ?_
      refine RL.q (Y.field rfl field31_4) rfl ?_
      refine RL.loadPart rfl rfl (by repeat (first | exact List.Mem.head _ | apply List.Mem.tail)) (by repeat (first | exact List.Mem.head _ | apply List.Mem.tail)) (by exact Eq.trans rfl (Ty.enc_eq a.ty).symm) (by first | rfl | exact Ex.enc_len _ | exact Ty.enc_len _ | exact MNode.enc_len _ | exact RNode.enc_len _) agg27 rfl fun us30 hul30 hur30 => ?_
      refine RL.q (Y.field rfl field31_4) rfl ?_
      refine RL.storeAgg _ rfl rfl (by repeat (first | exact Repl.here _ | apply Repl.there)) (by rfl) (by simp [hul16, hul30]) (fun _ _ => hur30.one) (by rw [hul30]; exact size27) ?_
      refine RL.nil ?_
      show (fun L' M' Γ' => ∃ (b2 : Ex) (us2 : List Value), Keep L' [(7, .pointer (some (adr (some ⟨b7, 0, none⟩) 0))), (8, .pointer (some (adr (some ⟨b8, 0, none⟩) 0)))] ∧ M' = M16 ∧ RdL M16 b2.enc us2 ∧ good b2 ∧ b2.size ≤ 20 ∧ ∀ w, St w0 M' Γ' w → St w0 M16 (.own b8 31 us2 :: .own b7 31 us14 :: Γ) w) _ _ _
      exact ⟨asLike a b, _, (by repeat (first | exact Keep.nil _ | refine Keep.cons _ rfl ?_)), rfl, asLike_rd (hu16) hur30, asLike_good hgb, by have := Ex.size_eq b; have := Ex.size_eq (asLike a b); have e : (asLike a b).kids = b.kids := rfl; rw [e] at this; omega, fun _ hw => hw.sub (by repeat (first | exact List.Sublist.refl _ | exact List.nil_sublist _ | apply List.Sublist.cons_cons | apply List.Sublist.cons))⟩
    · refine CW.skip ?_
      show (fun L' M' Γ' => ∃ (b2 : Ex) (us2 : List Value), Keep L' [(7, .pointer (some (adr (some ⟨b7, 0, none⟩) 0))), (8, .pointer (some (adr (some ⟨b8, 0, none⟩) 0)))] ∧ M' = M16 ∧ RdL M16 b2.enc us2 ∧ good b2 ∧ b2.size ≤ 20 ∧ ∀ w, St w0 M' Γ' w → St w0 M16 (.own b8 31 us2 :: .own b7 31 us14 :: Γ) w) _ _ _
      exact ⟨b, us16, (by repeat (first | exact Keep.nil _ | refine Keep.cons _ rfl ?_)), rfl, hu16, hgb, by omega, fun _ hw => hw.sub (by repeat (first | exact List.Sublist.refl _ | exact List.nil_sublist _ | apply List.Sublist.cons_cons | apply List.Sublist.cons))⟩
  · rintro _ M16 Γ8 ⟨b2, us2, hk8, rfl, hu2, hgb2, hsb2, hG8⟩
    refine CW.pre ?_ hk8 hG8
    have hul2 : us2.length = 15 := hu2.1.trans (Ex.enc_len _)
    have hv1 := leastV_nonneg ⟨hga, hgb2⟩
    have hza := Ex.size_eq a
    have hzb := Ex.size_eq b2
    refine CW.addRds (by have h := hu14.mono hs16; rw [Ex.enc_eq] at h; exact h) ?_
    refine CW.addRds (by have h := hu2; rw [Ex.enc_eq] at h; exact h) ?_
    refine CW.seq fun K8 hK8 => ?_
    refine CW.regionM1 9 (.bool (decide (a.like b2))) ?_ ?_
    · refine RL.q (Y.field rfl field31_1) rfl ?_
      first | refine RL.q (Y.loadOwnV rfl (by repeat (first | exact List.Mem.head _ | apply List.Mem.tail)) (by repeat (first | exact List.Mem.head _ | apply List.Mem.tail)) (by rfl) flat3) rfl ?_ | refine RL.q (Y.loadOwn rfl (by repeat (first | exact List.Mem.head _ | apply List.Mem.tail)) (by rfl) flat3) rfl ?_ | refine RL.loadOwnSl rfl rfl (by repeat (first | exact List.Mem.head _ | apply List.Mem.tail)) (by repeat (first | exact List.Mem.head _ | apply List.Mem.tail)) (by rfl) flat3 rfl fun a33 c33 hu33 hc33 hl33 => ?_
      refine RL.q (Y.field rfl field31_1) rfl ?_
      first | refine RL.q (Y.loadOwnV rfl (by repeat (first | exact List.Mem.head _ | apply List.Mem.tail)) (by repeat (first | exact List.Mem.head _ | apply List.Mem.tail)) (by rfl) flat3) rfl ?_ | refine RL.q (Y.loadOwn rfl (by repeat (first | exact List.Mem.head _ | apply List.Mem.tail)) (by rfl) flat3) rfl ?_ | refine RL.loadOwnSl rfl rfl (by repeat (first | exact List.Mem.head _ | apply List.Mem.tail)) (by repeat (first | exact List.Mem.head _ | apply List.Mem.tail)) (by rfl) flat3 rfl fun a35 c35 hu35 hc35 hl35 => ?_
      refine RL.qs (Y.eql rfl rfl) rfl (fun g36 => ?_) (fun g36 => ?_)
      · refine RL.q (Y.move rfl) rfl ?_
        refine RL.qg ⟨_, _, rfl, rfl, rfl⟩ (Y.field rfl field31_2) rfl ?_
        first | refine RL.qg ⟨_, _, rfl, rfl, rfl⟩ (Y.loadOwnV rfl (by repeat (first | exact List.Mem.head _ | apply List.Mem.tail)) (by repeat (first | exact List.Mem.head _ | apply List.Mem.tail)) (by rfl) flat3) rfl ?_ | refine RL.qg ⟨_, _, rfl, rfl, rfl⟩ (Y.loadOwn rfl (by repeat (first | exact List.Mem.head _ | apply List.Mem.tail)) (by rfl) flat3) rfl ?_ | refine RL.loadOwnSl ⟨_, _, rfl, rfl, rfl⟩ rfl (by repeat (first | exact List.Mem.head _ | apply List.Mem.tail)) (by repeat (first | exact List.Mem.head _ | apply List.Mem.tail)) (by rfl) flat3 rfl fun a39 c39 hu39 hc39 hl39 => ?_
        refine RL.qg ⟨_, _, rfl, rfl, rfl⟩ (Y.field rfl field31_2) rfl ?_
        first | refine RL.qg ⟨_, _, rfl, rfl, rfl⟩ (Y.loadOwnV rfl (by repeat (first | exact List.Mem.head _ | apply List.Mem.tail)) (by repeat (first | exact List.Mem.head _ | apply List.Mem.tail)) (by rfl) flat3) rfl ?_ | refine RL.qg ⟨_, _, rfl, rfl, rfl⟩ (Y.loadOwn rfl (by repeat (first | exact List.Mem.head _ | apply List.Mem.tail)) (by rfl) flat3) rfl ?_ | refine RL.loadOwnSl ⟨_, _, rfl, rfl, rfl⟩ rfl (by repeat (first | exact List.Mem.head _ | apply List.Mem.tail)) (by repeat (first | exact List.Mem.head _ | apply List.Mem.tail)) (by rfl) flat3 rfl fun a41 c41 hu41 hc41 hl41 => ?_
        refine RL.qgs ⟨_, _, rfl, rfl, rfl⟩ (Y.eql rfl rfl) rfl (fun g42 => ?_) (fun g42 => ?_)
        · refine RL.q (Y.pickT rfl rfl) rfl ?_
          refine RL.q (Y.move rfl) rfl ?_
          refine RL.qg ⟨_, _, rfl, rfl, rfl⟩ (Y.field rfl field31_3) rfl ?_
          first | refine RL.qg ⟨_, _, rfl, rfl, rfl⟩ (Y.loadAggV [_, _, _] rfl (by repeat (first | exact List.Mem.head _ | apply List.Mem.tail)) (by repeat (first | exact List.Mem.head _ | apply List.Mem.tail)) (by rfl) agg24) rfl ?_ | refine RL.qg ⟨_, _, rfl, rfl, rfl⟩ (Y.loadAll rfl (by repeat (first | exact List.Mem.head _ | apply List.Mem.tail)) (by rfl) agg24) rfl ?_
          refine RL.qg ⟨_, _, rfl, rfl, rfl⟩ (Y.field rfl field31_3) rfl ?_
          first | refine RL.qg ⟨_, _, rfl, rfl, rfl⟩ (Y.loadAggV [_, _, _] rfl (by repeat (first | exact List.Mem.head _ | apply List.Mem.tail)) (by repeat (first | exact List.Mem.head _ | apply List.Mem.tail)) (by rfl) agg24) rfl ?_ | refine RL.qg ⟨_, _, rfl, rfl, rfl⟩ (Y.loadAll rfl (by repeat (first | exact List.Mem.head _ | apply List.Mem.tail)) (by rfl) agg24) rfl ?_
          refine RL.qgs ⟨_, _, rfl, rfl, rfl⟩ (id24_eql rfl rfl) rfl (fun g49 => ?_) (fun g49 => ?_)
          · refine RL.q (Y.pickT rfl rfl) rfl ?_
            refine RL.q (Y.move rfl) rfl ?_
            refine RL.qg ⟨_, _, rfl, rfl, rfl⟩ (Y.field rfl field31_4) rfl ?_
            refine RL.loadPart ⟨_, _, rfl, rfl, rfl⟩ rfl (by repeat (first | exact List.Mem.head _ | apply List.Mem.tail)) (by repeat (first | exact List.Mem.head _ | apply List.Mem.tail)) (by exact Eq.trans rfl (Ty.enc_eq a.ty).symm) (by first | rfl | exact Ex.enc_len _ | exact Ty.enc_len _ | exact MNode.enc_len _ | exact RNode.enc_len _) agg27 rfl fun us53 hul53 hur53 => ?_
            refine RL.qg ⟨_, _, rfl, rfl, rfl⟩ (Y.field rfl field31_4) rfl ?_
            refine RL.loadPart ⟨_, _, rfl, rfl, rfl⟩ rfl (by repeat (first | exact List.Mem.head _ | apply List.Mem.tail)) (by repeat (first | exact List.Mem.head _ | apply List.Mem.tail)) (by exact Eq.trans rfl (Ty.enc_eq b2.ty).symm) (by first | rfl | exact Ex.enc_len _ | exact Ty.enc_len _ | exact MNode.enc_len _ | exact RNode.enc_len _) agg27 rfl fun us55 hul55 hur55 => ?_
            refine RL.callv ⟨_, _, rfl, rfl, rfl⟩ func31 rfl rfl (same_ok _ _ _ _ a.ty b2.ty _ _ rfl hur53 hur55) ?_
            refine RL.q (Y.pickT rfl rfl) rfl ?_
            refine RL.q (Y.assign rfl) rfl ?_
            refine RL.nil ?_
            exact ⟨gl rfl (by first | exact vb ⟨fun e => ⟨g36, g42, g49, e⟩, fun e => e.2.2.2⟩ | exact vbF (fun e => g49 e.2.2.1) | exact vbF (fun e => g42 e.2.1) | exact vbF (fun e => g36 e.1)), (by repeat (first | exact Keep.nil _ | refine Keep.cons _ rfl ?_)), fun _ hw => hw.sub (by repeat (first | exact List.Sublist.refl _ | apply List.Sublist.cons_cons | apply List.Sublist.cons))⟩
          · refine RL.q (Y.pickT rfl rfl) rfl ?_
            refine RL.q (Y.move rfl) rfl ?_
            refine RL.no ⟨_, _, rfl, rfl, rfl⟩ rfl ?_
            refine RL.no ⟨_, _, rfl, rfl, rfl⟩ rfl ?_
            refine RL.no ⟨_, _, rfl, rfl, rfl⟩ rfl ?_
            refine RL.no ⟨_, _, rfl, rfl, rfl⟩ rfl ?_
            refine RL.no ⟨_, _, rfl, rfl, rfl⟩ rfl ?_
            refine RL.q (Y.pickF rfl rfl) rfl ?_
            refine RL.q (Y.assign rfl) rfl ?_
            refine RL.nil ?_
            exact ⟨gl rfl (by first | exact vb ⟨fun e => ⟨g36, g42, g49, e⟩, fun e => e.2.2.2⟩ | exact vbF (fun e => g49 e.2.2.1) | exact vbF (fun e => g42 e.2.1) | exact vbF (fun e => g36 e.1)), (by repeat (first | exact Keep.nil _ | refine Keep.cons _ rfl ?_)), fun _ hw => hw.sub (by repeat (first | exact List.Sublist.refl _ | apply List.Sublist.cons_cons | apply List.Sublist.cons))⟩
        · refine RL.q (Y.pickT rfl rfl) rfl ?_
          refine RL.q (Y.move rfl) rfl ?_
          refine RL.no ⟨_, _, rfl, rfl, rfl⟩ rfl ?_
          refine RL.no ⟨_, _, rfl, rfl, rfl⟩ rfl ?_
          refine RL.no ⟨_, _, rfl, rfl, rfl⟩ rfl ?_
          refine RL.no ⟨_, _, rfl, rfl, rfl⟩ rfl ?_
          refine RL.no ⟨_, _, rfl, rfl, rfl⟩ rfl ?_
          refine RL.q (Y.pickF rfl rfl) rfl ?_
          refine RL.q (Y.move rfl) rfl ?_
          refine RL.no ⟨_, _, rfl, rfl, rfl⟩ rfl ?_
          refine RL.no ⟨_, _, rfl, rfl, rfl⟩ rfl ?_
          refine RL.no ⟨_, _, rfl, rfl, rfl⟩ rfl ?_
          refine RL.no ⟨_, _, rfl, rfl, rfl⟩ rfl ?_
          refine RL.no ⟨_, _, rfl, rfl, rfl⟩ rfl ?_
          refine RL.q (Y.pickF rfl rfl) rfl ?_
          refine RL.q (Y.assign rfl) rfl ?_
          refine RL.nil ?_
          exact ⟨gl rfl (by first | exact vb ⟨fun e => ⟨g36, g42, g49, e⟩, fun e => e.2.2.2⟩ | exact vbF (fun e => g49 e.2.2.1) | exact vbF (fun e => g42 e.2.1) | exact vbF (fun e => g36 e.1)), (by repeat (first | exact Keep.nil _ | refine Keep.cons _ rfl ?_)), fun _ hw => hw.sub (by repeat (first | exact List.Sublist.refl _ | apply List.Sublist.cons_cons | apply List.Sublist.cons))⟩
      · refine RL.q (Y.move rfl) rfl ?_
        refine RL.no ⟨_, _, rfl, rfl, rfl⟩ rfl ?_
        refine RL.no ⟨_, _, rfl, rfl, rfl⟩ rfl ?_
        refine RL.no ⟨_, _, rfl, rfl, rfl⟩ rfl ?_
        refine RL.no ⟨_, _, rfl, rfl, rfl⟩ rfl ?_
        refine RL.no ⟨_, _, rfl, rfl, rfl⟩ rfl ?_
        refine RL.q (Y.pickF rfl rfl) rfl ?_
        refine RL.q (Y.move rfl) rfl ?_
        refine RL.no ⟨_, _, rfl, rfl, rfl⟩ rfl ?_
        refine RL.no ⟨_, _, rfl, rfl, rfl⟩ rfl ?_
        refine RL.no ⟨_, _, rfl, rfl, rfl⟩ rfl ?_
        refine RL.no ⟨_, _, rfl, rfl, rfl⟩ rfl ?_
        refine RL.no ⟨_, _, rfl, rfl, rfl⟩ rfl ?_
        refine RL.q (Y.pickF rfl rfl) rfl ?_
        refine RL.q (Y.move rfl) rfl ?_
        refine RL.no ⟨_, _, rfl, rfl, rfl⟩ rfl ?_
        refine RL.no ⟨_, _, rfl, rfl, rfl⟩ rfl ?_
        refine RL.no ⟨_, _, rfl, rfl, rfl⟩ rfl ?_
        refine RL.no ⟨_, _, rfl, rfl, rfl⟩ rfl ?_
        refine RL.no ⟨_, _, rfl, rfl, rfl⟩ rfl ?_
        refine RL.q (Y.pickF rfl rfl) rfl ?_
        refine RL.q (Y.assign rfl) rfl ?_
        refine RL.nil ?_
        exact ⟨gl rfl (by first | exact vb ⟨fun e => ⟨g36, g42, g49, e⟩, fun e => e.2.2.2⟩ | exact vbF (fun e => g49 e.2.2.1) | exact vbF (fun e => g42 e.2.1) | exact vbF (fun e => g36 e.1)), (by repeat (first | exact Keep.nil _ | refine Keep.cons _ rfl ?_)), fun _ hw => hw.sub (by repeat (first | exact List.Sublist.refl _ | apply List.Sublist.cons_cons | apply List.Sublist.cons))⟩
    refine hK8 _ _ _ ?_
    refine CW.seq fun K9 hK9 => ?_
    refine CW.seq fun K10 hK10 => ?_
    refine CW.region ?_
    refine RL.qs (Y.move rfl) rfl (fun g58 => ?_) (fun g58 => ?_)
    · refine RL.q (Y.not rfl) rfl ?_
      refine RL.q (Y.move rfl) rfl ?_
      refine RL.qg ⟨_, _, rfl, rfl, rfl⟩ (Y.field rfl field31_5) rfl ?_
      first | refine RL.qg ⟨_, _, rfl, rfl, rfl⟩ (Y.loadOwnV rfl (by repeat (first | exact List.Mem.head _ | apply List.Mem.tail)) (by repeat (first | exact List.Mem.head _ | apply List.Mem.tail)) (by rfl) flat28) rfl ?_ | refine RL.qg ⟨_, _, rfl, rfl, rfl⟩ (Y.loadOwn rfl (by repeat (first | exact List.Mem.head _ | apply List.Mem.tail)) (by rfl) flat28) rfl ?_ | refine RL.loadOwnSl ⟨_, _, rfl, rfl, rfl⟩ rfl (by repeat (first | exact List.Mem.head _ | apply List.Mem.tail)) (by repeat (first | exact List.Mem.head _ | apply List.Mem.tail)) (by rfl) flat28 rfl fun a62 c62 hu62 hc62 hl62 => ?_
      refine RL.qg ⟨_, _, rfl, rfl, rfl⟩ (Y.len rfl Try.underlying28) rfl ?_
      refine RL.qg ⟨_, _, rfl, rfl, rfl⟩ (Y.field rfl field31_5) rfl ?_
      first | refine RL.qg ⟨_, _, rfl, rfl, rfl⟩ (Y.loadOwnV rfl (by repeat (first | exact List.Mem.head _ | apply List.Mem.tail)) (by repeat (first | exact List.Mem.head _ | apply List.Mem.tail)) (by rfl) flat28) rfl ?_ | refine RL.qg ⟨_, _, rfl, rfl, rfl⟩ (Y.loadOwn rfl (by repeat (first | exact List.Mem.head _ | apply List.Mem.tail)) (by rfl) flat28) rfl ?_ | refine RL.loadOwnSl ⟨_, _, rfl, rfl, rfl⟩ rfl (by repeat (first | exact List.Mem.head _ | apply List.Mem.tail)) (by repeat (first | exact List.Mem.head _ | apply List.Mem.tail)) (by rfl) flat28 rfl fun a65 c65 hu65 hc65 hl65 => ?_
      refine RL.qg ⟨_, _, rfl, rfl, rfl⟩ (Y.len rfl Try.underlying28) rfl ?_
      refine RL.qg ⟨_, _, rfl, rfl, rfl⟩ (Y.neq rfl rfl) rfl ?_
      refine RL.q (Y.pickF rfl rfl) rfl ?_
      refine RL.nil ?_
      refine hK10 _ _ _ ?_
      refine CW.keep (Keep.cons 7 rfl (Keep.cons 8 rfl (Keep.cons 68 rfl (Keep.nil _)))) ?_
      refine CW.ite rfl (fun h2 => ?_) (fun h2 => ?_)
      · refine CW.seq fun K11 hK11 => ?_
        refine CW.region ?_
        refine RL.callv rfl func21 rfl rfl (lives_ok _ _ _) ?_
        refine RL.q (Y.assign rfl) rfl ?_
        refine RL.nil ?_
        refine hK11 _ _ _ ?_
        refine CW.keep (Keep.cons 6 rfl (Keep.nil _)) ?_
        refine CW.ret ?_
        refine ⟨_, rfl, ?_⟩
        exact Turn.back hw1 (hs14.trans (hs16)) ⟨rfl, rfl, rfl⟩ (by repeat (first | exact List.Sublist.refl _ | apply List.Sublist.cons_cons | apply List.Sublist.cons))
      · have hkk : a.kids.length = b2.kids.length := by omega
        refine CW.skip ?_
        refine hK9 _ _ _ ?_
        refine CW.seq fun K12 hK12 => ?_
        refine CW.region ?_
        refine RL.q (Y.assign rfl) rfl ?_
        refine RL.nil ?_
        refine hK12 _ _ _ ?_
        refine CW.keep (Keep.cons 7 rfl (Keep.cons 8 rfl (Keep.cons 10 rfl (Keep.nil _)))) ?_
        refine CW.seq fun K13 hK13 => ?_
        refine CW.seq fun K14 hK14 => ?_
        refine CW.region ?_
        refine RL.q (Y.assign rfl) rfl ?_
        refine RL.nil ?_
        refine hK14 _ _ _ ?_
        refine CW.keep (Keep.cons 7 rfl (Keep.cons 8 rfl (Keep.cons 10 rfl (Keep.cons 11 rfl (Keep.nil _))))) ?_
        refine CW.block ?_
        -- LOOP 1: live [7, 8, 10, 11] changed [10, 11]
        refine CW.keep (Keep.cons 10 rfl (Keep.cons 11 rfl (Keep.cons 7 rfl (Keep.cons 8 rfl (Keep.nil _))))) ?_
        refine CW.loopF (fun mm Lc M3 Γc => ∃ i : Nat, mm = a.kids.length - i ∧ i ≤ a.kids.length ∧ Lc = [(10, vint (sumL (a.kids.take i) (b2.kids.take i))), (11, vint i)] ∧ Γc = [] ∧ M3 = M16) a.kids.length [(10, _), (11, _)] [] rfl rfl ⟨0, rfl, Nat.zero_le _, rfl, rfl, rfl⟩ ?_
        rintro mm Lc M3 Γc hsub ⟨i, rfl, hi, rfl, rfl, rfl⟩
        refine CW.seq fun K15 hK15 => ?_
        refine CW.seq fun K16 hK16 => ?_
        refine CW.region ?_
        refine RL.q (Y.move rfl) rfl ?_
        refine RL.q (Y.field rfl field31_5) rfl ?_
        first | refine RL.q (Y.loadOwnV rfl (by repeat (first | exact List.Mem.head _ | apply List.Mem.tail)) (by repeat (first | exact List.Mem.head _ | apply List.Mem.tail)) (by rfl) flat28) rfl ?_ | refine RL.q (Y.loadOwn rfl (by repeat (first | exact List.Mem.head _ | apply List.Mem.tail)) (by rfl) flat28) rfl ?_ | refine RL.loadOwnSl rfl rfl (by repeat (first | exact List.Mem.head _ | apply List.Mem.tail)) (by repeat (first | exact List.Mem.head _ | apply List.Mem.tail)) (by rfl) flat28 rfl fun a72 c72 hu72 hc72 hl72 => ?_
        refine RL.q (Y.len rfl Try.underlying28) rfl ?_
        refine RL.q (Y.lss rfl rfl) rfl ?_
        refine RL.nil ?_
        refine hK16 _ _ _ ?_
        refine CW.keep (Keep.cons 7 rfl (Keep.cons 8 rfl (Keep.cons 10 rfl (Keep.cons 11 rfl (Keep.cons 74 rfl (Keep.nil _)))))) ?_
        refine CW.ite rfl (fun h3 => ?_) (fun h3 => ?_)
        · have hka : i < a.kids.length := by omega
          have hkb : i < b2.kids.length := by omega
          have hsum := sumL_bds (a.kids.take i) (b2.kids.take i) (fun k hk => good_kid hga (mem_take hk)) (fun k hk => good_kid hgb2 (mem_take hk))
          have hta := sizes_take a.kids i
          have htb := sizes_take b2.kids i
          have hgk := And.intro (good_kid hga (List.getElem_mem hka)) (good_kid hgb2 (List.getElem_mem hkb))
          have hlk := leastV_nonneg hgk
          have hlu := leastV_up hgk
          have hsk := good_size hgk.1
          have hsl := good_size hgk.2
          refine CW.skip ?_
          refine hK15 _ _ _ ?_
          refine CW.seq fun K17 hK17 => ?_
          refine CW.block ?_
          refine CW.regionQ mix (by kernel_rfl) ?_
          refine QL.q (Y.move rfl) rfl ?_
          refine QL.q (Y.field rfl field31_5) rfl ?_
          first | refine QL.q (Y.loadOwnV rfl (by repeat (first | exact List.Mem.head _ | apply List.Mem.tail)) (by repeat (first | exact List.Mem.head _ | apply List.Mem.tail)) (by rfl) flat28) rfl ?_ | refine QL.q (Y.loadOwn rfl (by repeat (first | exact List.Mem.head _ | apply List.Mem.tail)) (by rfl) flat28) rfl ?_ | refine QL.loadOwnSl rfl rfl (by repeat (first | exact List.Mem.head _ | apply List.Mem.tail)) (by repeat (first | exact List.Mem.head _ | apply List.Mem.tail)) (by rfl) flat28 rfl fun a79 c79 hu79 hc79 hl79 => ?_
          refine QL.q (Y.move rfl) rfl ?_
          refine QL.q (Y.index i rfl rfl rfl (by omega) slice28 (fun _ hw => hw.rd_some (by repeat (first | exact List.Mem.head _ | apply List.Mem.tail)) (by omega))) rfl ?_
          refine QL.loadAgg rfl rfl (by repeat (first | exact List.Mem.head _ | apply List.Mem.tail)) (flat_take Ex.enc_len _ i _ (List.getElem?_eq_getElem hka)) (by first | rfl | exact Ex.enc_len _ | exact Ty.enc_len _ | exact MNode.enc_len _ | exact RNode.enc_len _) agg31 rfl fun us82 hul82 hur82 => ?_
          refine QL.q (Y.field rfl field31_5) rfl ?_
          first | refine QL.q (Y.loadOwnV rfl (by repeat (first | exact List.Mem.head _ | apply List.Mem.tail)) (by repeat (first | exact List.Mem.head _ | apply List.Mem.tail)) (by rfl) flat28) rfl ?_ | refine QL.q (Y.loadOwn rfl (by repeat (first | exact List.Mem.head _ | apply List.Mem.tail)) (by rfl) flat28) rfl ?_ | refine QL.loadOwnSl rfl rfl (by repeat (first | exact List.Mem.head _ | apply List.Mem.tail)) (by repeat (first | exact List.Mem.head _ | apply List.Mem.tail)) (by rfl) flat28 rfl fun a84 c84 hu84 hc84 hl84 => ?_
          refine QL.q (Y.move rfl) rfl ?_
          refine QL.q (Y.index i rfl rfl rfl (by omega) slice28 (fun _ hw => hw.rd_some (by repeat (first | exact List.Mem.head _ | apply List.Mem.tail)) (by omega))) rfl ?_
          refine QL.loadAgg rfl rfl (by repeat (first | exact List.Mem.head _ | apply List.Mem.tail)) (flat_take Ex.enc_len _ i _ (List.getElem?_eq_getElem hkb)) (by first | rfl | exact Ex.enc_len _ | exact Ty.enc_len _ | exact MNode.enc_len _ | exact RNode.enc_len _) agg31 rfl fun us87 hul87 hur87 => ?_
          refine QL.callv rfl func27 rfl rfl (fun _ _ => least_is _ _ _ a.kids[i] b2.kids[i] us82 us87 hur82 hur87) ?_
          refine QL.q (Y.add rfl rfl (by omega)) rfl ?_
          refine QL.q (Y.assign rfl) rfl ?_
          refine QL.nil ?_
          refine hK17 _ _ _ ?_
          refine CW.keep (Keep.cons 7 rfl (Keep.cons 8 rfl (Keep.cons 10 rfl (Keep.cons 11 rfl (Keep.nil _))))) ?_
          refine CW.region ?_
          refine RL.q (Y.move rfl) rfl ?_
          refine RL.q (Y.add rfl rfl (by omega)) rfl ?_
          refine RL.q (Y.assign rfl) rfl ?_
          refine RL.nil ?_
          refine ⟨a.kids.length - (i + 1), [(10, _), (11, _)], ?_, (Keep.cons 10 rfl (Keep.cons 11 rfl (Keep.cons 7 rfl (Keep.cons 8 rfl (Keep.nil _))))), ?_⟩
          · omega
          · exact Turn.drop ⟨[], rfl, hsub, i + 1, rfl, by omega, by rw [sumL_snoc _ _ i _ _ (List.getElem?_eq_getElem hka) (List.getElem?_eq_getElem hkb)]; rfl, rfl, rfl⟩ (by repeat (first | exact List.Sublist.refl _ | apply List.Sublist.cons_cons | apply List.Sublist.cons))
        · refine CW.exit ?_
          refine hK13 _ _ _ ?_
          refine CW.seq fun K18 hK18 => ?_
          refine CW.region ?_
          refine RL.q (Y.loadAll rfl (by repeat (first | exact List.Mem.head _ | apply List.Mem.tail)) hul14 agg31) rfl ?_
          refine RL.q (Y.loadAll rfl (by repeat (first | exact List.Mem.head _ | apply List.Mem.tail)) hul2 agg31) rfl ?_
          refine RL.callv rfl func27 rfl rfl (least_is _ _ _ a b2 us14 us2 (hu14.mono hs16) hu2) ?_
          refine RL.q (Y.assign rfl) rfl ?_
          refine RL.nil ?_
          refine hK18 _ _ _ ?_
          refine CW.keep (Keep.cons 10 rfl (Keep.cons 12 rfl (Keep.nil _))) ?_
          refine CW.seq fun K19 hK19 => ?_
          refine CW.region ?_
          refine RL.q (Y.move rfl) rfl ?_
          refine RL.qs (Y.geq rfl rfl) rfl (fun g94 => ?_) (fun g94 => ?_)
          · refine RL.q (Y.move rfl) rfl ?_
            refine RL.qg ⟨_, _, rfl, rfl, rfl⟩ (Y.move rfl) rfl ?_
            refine RL.qg ⟨_, _, rfl, rfl, rfl⟩ (Y.move rfl) rfl ?_
            refine RL.qgs ⟨_, _, rfl, rfl, rfl⟩ (Y.leq rfl rfl) rfl (fun g98 => ?_) (fun g98 => ?_)
            · refine RL.q (Y.pickT rfl rfl) rfl ?_
              refine RL.q (Y.move rfl) rfl ?_
              refine RL.callv ⟨_, _, rfl, rfl, rfl⟩ func21 rfl rfl (lives_ok _ _ _) ?_
              refine RL.q (Y.pickT rfl rfl) rfl ?_
              refine RL.q (Y.assign rfl) rfl ?_
              refine RL.nil ?_
              refine hK19 _ _ _ ?_
              refine CW.keep (Keep.cons 6 rfl (Keep.nil _)) ?_
              refine CW.ret ?_
              refine ⟨_, rfl, ?_⟩
              exact Turn.back hw1 (hs14.trans (hs16)) ⟨rfl, rfl, rfl⟩ (by repeat (first | exact List.Sublist.refl _ | apply List.Sublist.cons_cons | apply List.Sublist.cons))
            · refine RL.q (Y.pickT rfl rfl) rfl ?_
              refine RL.q (Y.move rfl) rfl ?_
              refine RL.no ⟨_, _, rfl, rfl, rfl⟩ rfl ?_
              refine RL.q (Y.pickF rfl rfl) rfl ?_
              refine RL.q (Y.assign rfl) rfl ?_
              refine RL.nil ?_
              refine hK19 _ _ _ ?_
              refine CW.keep (Keep.cons 6 rfl (Keep.nil _)) ?_
              refine CW.ret ?_
              have hie : i = a.kids.length := by omega
              have hpp := least_parts ⟨hga, hgb2⟩ g58 hkk
              exact absurd (by rw [hie, List.take_length, hkk, List.take_length]; exact hpp) g98
          · refine RL.q (Y.move rfl) rfl ?_
            refine RL.no ⟨_, _, rfl, rfl, rfl⟩ rfl ?_
            refine RL.no ⟨_, _, rfl, rfl, rfl⟩ rfl ?_
            refine RL.no ⟨_, _, rfl, rfl, rfl⟩ rfl ?_
            refine RL.q (Y.pickF rfl rfl) rfl ?_
            refine RL.q (Y.move rfl) rfl ?_
            refine RL.no ⟨_, _, rfl, rfl, rfl⟩ rfl ?_
            refine RL.q (Y.pickF rfl rfl) rfl ?_
            refine RL.q (Y.assign rfl) rfl ?_
            refine RL.nil ?_
            refine hK19 _ _ _ ?_
            refine CW.keep (Keep.cons 6 rfl (Keep.nil _)) ?_
            refine CW.ret ?_
            exact absurd hv1.1 g94
    · refine RL.q (Y.not rfl) rfl ?_
      refine RL.q (Y.move rfl) rfl ?_
      refine RL.no ⟨_, _, rfl, rfl, rfl⟩ rfl ?_
      refine RL.no ⟨_, _, rfl, rfl, rfl⟩ rfl ?_
      refine RL.no ⟨_, _, rfl, rfl, rfl⟩ rfl ?_
      refine RL.no ⟨_, _, rfl, rfl, rfl⟩ rfl ?_
      refine RL.no ⟨_, _, rfl, rfl, rfl⟩ rfl ?_
      refine RL.no ⟨_, _, rfl, rfl, rfl⟩ rfl ?_
      refine RL.no ⟨_, _, rfl, rfl, rfl⟩ rfl ?_
      refine RL.q (Y.pickT rfl rfl) rfl ?_
      refine RL.nil ?_
      refine hK10 _ _ _ ?_
      refine CW.keep (Keep.cons 7 rfl (Keep.cons 8 rfl (Keep.cons 68 rfl (Keep.nil _)))) ?_
      refine CW.yes rfl ?_
      refine CW.seq fun K20 hK20 => ?_
      refine CW.region ?_
      refine RL.callv rfl func21 rfl rfl (lives_ok _ _ _) ?_
      refine RL.q (Y.assign rfl) rfl ?_
      refine RL.nil ?_
      refine hK20 _ _ _ ?_
      refine CW.keep (Keep.cons 6 rfl (Keep.nil _)) ?_
      refine CW.ret ?_
      refine ⟨_, rfl, ?_⟩
      exact Turn.back hw1 (hs14.trans (hs16)) ⟨rfl, rfl, rfl⟩ (by repeat (first | exact List.Sublist.refl _ | apply List.Sublist.cons_cons | apply List.Sublist.cons))
end Go.Proofs.Ytjkcjbicleohkaa
