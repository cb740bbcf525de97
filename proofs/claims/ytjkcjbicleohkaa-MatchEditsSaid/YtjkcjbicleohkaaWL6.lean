/- THE WALKS, law 6: MatchEdits. Printed by m16L6.py. -/
import Derived.Test.YtjkcjbicleohkaaWv
import Derived.Test.YtjkcjbicleohkaaTree
import Derived.Test.YtjkcjbicleohkaaXeN
import Derived.Test.YtjkcjbicleohkaaWL4
import Derived.Test.YtjkcjbicleohkaaDist
import Derived.Test.YtjkcjbicleohkaaEdit
import Derived.Test.YtjkcjbicleohkaaWw
namespace Go.Proofs.Ytjkcjbicleohkaa
open Xe

set_option maxHeartbeats 4000000 in
theorem MatchEdits_ok (w0 : World) (M : Mem) (Γ : List As) (l m k : List Int) (how : Int) (ul um uk : Value) (hl : Rd M (dints l) ul) (hm : Rd M (dints m) um) (hk : Rd M (dints k) uk) (hli : ∀ x ∈ l, InI x) (hmi : ∀ x ∈ m, InI x) (hki : ∀ x ∈ k, InI x) (hhi : InI how) :
    CallOk Try.prog w0 M Γ 8 #[ul, um, uk, vint how] (Is M Γ (.bool true)) := by
  obtain ⟨a, ha⟩ : ∃ a, a = tree l 10 0 := ⟨_, rfl⟩
  obtain ⟨b, hb⟩ : ∃ b, b = tree m 10 4 := ⟨_, rfl⟩
  have hga : good a := ha ▸ tree_good l 10 0 (by omega) (by omega)
  have hgb : good b := hb ▸ tree_good m 10 4 (by omega) (by omega)
  have hg := And.intro hga hgb
  have hla := pon_le hga
  have hlb := pon_le hgb
  have hA0 := (pon_whole a).pos
  have hB0 := (pon_whole b).pos
  have hsa := tree_size l 10 0 (by omega)
  rw [← ha] at hsa
  have hsb := tree_size m 10 4 (by omega)
  rw [← hb] at hsb
  have har := around_lt how 5 (by omega)
  obtain ⟨kn, hkn⟩ := Int.eq_ofNat_of_zero_le har.1
  refine enter (f := 8) Try.func8 rfl Try.ntmps8 rfl rfl fun w1 hw1 => ?_
  refine CW.seq fun K1 hK1 => ?_
  refine CW.region ?_
  refine RL.q (Y.assign rfl) rfl ?_
  refine RL.nil ?_
  refine hK1 _ _ _ ?_
  refine CW.keep (Keep.cons 0 rfl (Keep.cons 1 rfl (Keep.cons 2 rfl (Keep.cons 3 rfl (Keep.nil _))))) ?_
  refine CW.seq fun K2 hK2 => ?_
  refine CW.region ?_
  refine RL.q (Y.move rfl) rfl ?_
  refine RL.call rfl func11 rfl rfl (ha ▸ tree_ok _ _ _ l _ 10 0 (hl) hli (by omega) (by omega)) ?_
  rintro _ M17 Γ ⟨hs17, rfl, us17, rfl, hu17⟩
  have hul17 : us17.length = 15 := hu17.1.trans (Ex.enc_len _)
  refine RL.alloc _ zero31 rfl rfl fun b9 => ?_
  refine RL.storeAgg us17 rfl rfl (by repeat (first | exact Repl.here _ | apply Repl.there)) (by simp [hul17]) (by simp [hul17]) (fun _ _ => hu17.one) (by rw [hul17]; exact size31) ?_
  refine RL.nil ?_
  refine hK2 _ _ _ ?_
  refine CW.keep (Keep.cons 1 rfl (Keep.cons 2 rfl (Keep.cons 3 rfl (Keep.cons 9 rfl (Keep.nil _))))) ?_
  refine CW.seq fun K3 hK3 => ?_
  refine CW.region ?_
  refine RL.q (Y.move rfl) rfl ?_
  refine RL.call rfl func11 rfl rfl (hb ▸ tree_ok _ _ _ m _ 10 4 (Rd.mono hs17 _ _ hm) hmi (by omega) (by omega)) ?_
  rintro _ M19 Γ ⟨hs19, rfl, us19, rfl, hu19⟩
  have hul19 : us19.length = 15 := hu19.1.trans (Ex.enc_len _)
  refine RL.alloc _ zero31 rfl rfl fun b10 => ?_
  refine RL.storeAgg us19 rfl rfl (by repeat (first | exact Repl.here _ | apply Repl.there)) (by simp [hul19]) (by simp [hul19]) (fun _ _ => hu19.one) (by rw [hul19]; exact size31) ?_
  refine RL.nil ?_
  refine hK3 _ _ _ ?_
  refine CW.keep (Keep.cons 2 rfl (Keep.cons 3 rfl (Keep.cons 9 rfl (Keep.cons 10 rfl (Keep.nil _))))) ?_
  refine CW.seq fun K4 hK4 => ?_
  refine CW.region ?_
  refine RL.q (Y.loadAll rfl (by repeat (first | exact List.Mem.head _ | apply List.Mem.tail)) hul17 agg31) rfl ?_
  refine RL.alloc _ zero31 rfl rfl fun b11 => ?_
  refine RL.storeAgg us17 rfl rfl (by repeat (first | exact Repl.here _ | apply Repl.there)) (by simp [hul17]) (by simp [hul17]) (fun _ _ => (hu17.mono hs19).one) (by rw [hul17]; exact size31) ?_
  refine RL.nil ?_
  refine hK4 _ _ _ ?_
  refine CW.keep (Keep.cons 2 rfl (Keep.cons 3 rfl (Keep.cons 9 rfl (Keep.cons 10 rfl (Keep.cons 11 rfl (Keep.nil _)))))) ?_
  refine CW.seq fun K5 hK5 => ?_
  refine CW.region ?_
  refine RL.q (Y.move rfl) rfl ?_
  refine RL.callv rfl func12 rfl rfl (around_ok _ _ _ how 5 hhi (by omega)) ?_
  refine RL.q (Y.assign rfl) rfl ?_
  refine RL.nil ?_
  refine hK5 _ _ _ ?_
  refine CW.keep (Keep.cons 2 rfl (Keep.cons 9 rfl (Keep.cons 10 rfl (Keep.cons 11 rfl (Keep.cons 12 rfl (Keep.nil _)))))) ?_
  rw [hkn]
  refine CW.seq fun K6 hK6 => ?_
  refine CW.seq fun K7 hK7 => ?_
  refine CW.region ?_
  refine RL.q (Y.assign rfl) rfl ?_
  refine RL.nil ?_
  refine hK7 _ _ _ ?_
  refine CW.keep (Keep.cons 2 rfl (Keep.cons 9 rfl (Keep.cons 10 rfl (Keep.cons 11 rfl (Keep.cons 12 rfl (Keep.cons 13 rfl (Keep.nil _))))))) ?_
  refine CW.block ?_
  -- LOOP 1: live [2, 9, 10, 11, 12, 13] changed [13]
  refine CW.keep (Keep.cons 13 rfl (Keep.cons 2 rfl (Keep.cons 9 rfl (Keep.cons 10 rfl (Keep.cons 11 rfl (Keep.cons 12 rfl (Keep.nil _))))))) ?_
  refine CW.loopF (fun mm Lc M1 Γc => ∃ (i : Nat) (c : Ex) (usC : List Value), mm = kn - i ∧ i ≤ kn ∧ Lc = [(13, vint i)] ∧ Γc = [.own b11 31 usC] ∧ RdL M1 c.enc usC ∧ EdI a c i) kn [(13, _)] [.own b11 31 us17] rfl rfl ⟨0, a, us17, rfl, Nat.zero_le _, rfl, rfl, hu17.mono hs19, EdI.start ha hga⟩ ?_
  rintro mm Lc M1 Γc hsub ⟨i, c, usC, rfl, hi, rfl, rfl, hcR, hI⟩
  have hulC : usC.length = 15 := hcR.1.trans (Ex.enc_len _)
  refine CW.seq fun K8 hK8 => ?_
  refine CW.seq fun K9 hK9 => ?_
  refine CW.region ?_
  refine RL.q (Y.move rfl) rfl ?_
  refine RL.q (Y.move rfl) rfl ?_
  refine RL.q (Y.lss rfl rfl) rfl ?_
  refine RL.nil ?_
  refine hK9 _ _ _ ?_
  refine CW.keep (Keep.cons 2 rfl (Keep.cons 9 rfl (Keep.cons 10 rfl (Keep.cons 11 rfl (Keep.cons 12 rfl (Keep.cons 13 rfl (Keep.cons 25 rfl (Keep.nil _)))))))) ?_
  refine CW.ite rfl (fun h1 => ?_) (fun h1 => ?_)
  · refine CW.skip ?_
    refine hK8 _ _ _ ?_
    refine CW.seq fun K10 hK10 => ?_
    refine CW.block ?_
    have hx1 := atL_lt k (3 * (i : Int)) 1000 (by omega)
    have hx2 := atL_lt k (3 * (i : Int) + 1) 1000 (by omega)
    have hx3 := atL_lt k (3 * (i : Int) + 2) 10000 (by omega)
    refine CW.regionHP mix (x := .own _ _ _) (by repeat (first | exact Pick.here _ | apply Pick.there)) ?_
    refine HL.take 1 rfl (by kernel_rfl) (by kernel_rfl) (by kernel_rfl) rfl (Y.move rfl) rfl ?_
    refine HL.take 2 rfl (by kernel_rfl) (by kernel_rfl) (by kernel_rfl) rfl (Y.move rfl) rfl ?_
    refine HL.take 3 rfl (by kernel_rfl) (by kernel_rfl) (by kernel_rfl) rfl (Y.mul rfl rfl (by omega)) rfl ?_
    refine HL.take 5 rfl (by kernel_rfl) (by kernel_rfl) (by kernel_rfl) rfl (Y.move rfl) rfl ?_
    refine HL.take 6 rfl (by kernel_rfl) (by kernel_rfl) (by kernel_rfl) rfl (Y.move rfl) rfl ?_
    refine HL.take 7 rfl (by kernel_rfl) (by kernel_rfl) (by kernel_rfl) rfl (Y.mul rfl rfl (by omega)) rfl ?_
    refine HL.take 8 rfl (by kernel_rfl) (by kernel_rfl) (by kernel_rfl) rfl (Y.add rfl rfl (by omega)) rfl ?_
    refine HL.take 10 rfl (by kernel_rfl) (by kernel_rfl) (by kernel_rfl) rfl (Y.move rfl) rfl ?_
    refine HL.take 11 rfl (by kernel_rfl) (by kernel_rfl) (by kernel_rfl) rfl (Y.move rfl) rfl ?_
    refine HL.take 12 rfl (by kernel_rfl) (by kernel_rfl) (by kernel_rfl) rfl (Y.mul rfl rfl (by omega)) rfl ?_
    refine HL.take 13 rfl (by kernel_rfl) (by kernel_rfl) (by kernel_rfl) rfl (Y.add rfl rfl (by omega)) rfl ?_
    refine HL.take 15 rfl (by kernel_rfl) (by kernel_rfl) (by kernel_rfl) rfl (Y.move rfl) rfl ?_
    refine HL.take 16 rfl (by kernel_rfl) (by kernel_rfl) (by kernel_rfl) rfl (Y.add rfl rfl (by omega)) rfl ?_
    refine HL.step2 0 4 rfl rfl (by kernel_rfl) ?_ ?_
    · refine RL.q (Y.loadAll rfl (by repeat (first | exact List.Mem.head _ | apply List.Mem.tail)) hulC agg31) rfl ?_
      refine RL.nil ⟨(by first | exact keep_same (by repeat (first | exact List.Sublist.refl _ | exact List.nil_sublist _ | apply List.Sublist.cons_cons | apply List.Sublist.cons)) | exact keep_more hs9 (by repeat (first | exact List.Sublist.refl _ | exact List.nil_sublist _ | apply List.Sublist.cons_cons | apply List.Sublist.cons))), ?_⟩
      refine HL.step 4 rfl (by kernel_rfl) ?_
      refine RL.callv rfl func29 rfl rfl (at_ok _ _ _ k _ (3 * (i : Int)) 1000 (Rd.mono (hs17.trans (hs19.trans (hsub))) _ _ hk) hki (by omega)) ?_
      refine RL.nil ⟨(by first | exact keep_same (by repeat (first | exact List.Sublist.refl _ | exact List.nil_sublist _ | apply List.Sublist.cons_cons | apply List.Sublist.cons)) | exact keep_more hs9 (by repeat (first | exact List.Sublist.refl _ | exact List.nil_sublist _ | apply List.Sublist.cons_cons | apply List.Sublist.cons))), ?_⟩
      refine HL.step 9 rfl (by kernel_rfl) ?_
      refine RL.callv rfl func29 rfl rfl (at_ok _ _ _ k _ (3 * (i : Int) + 1) 1000 (Rd.mono (hs17.trans (hs19.trans (hsub))) _ _ hk) hki (by omega)) ?_
      refine RL.nil ⟨(by first | exact keep_same (by repeat (first | exact List.Sublist.refl _ | exact List.nil_sublist _ | apply List.Sublist.cons_cons | apply List.Sublist.cons)) | exact keep_more hs9 (by repeat (first | exact List.Sublist.refl _ | exact List.nil_sublist _ | apply List.Sublist.cons_cons | apply List.Sublist.cons))), ?_⟩
      refine HL.step 14 rfl (by kernel_rfl) ?_
      refine RL.callv rfl func29 rfl rfl (at_ok _ _ _ k _ (3 * (i : Int) + 2) 10000 (Rd.mono (hs17.trans (hs19.trans (hsub))) _ _ hk) hki (by omega)) ?_
      refine RL.nil ⟨(by first | exact keep_same (by repeat (first | exact List.Sublist.refl _ | exact List.nil_sublist _ | apply List.Sublist.cons_cons | apply List.Sublist.cons)) | exact keep_more hs9 (by repeat (first | exact List.Sublist.refl _ | exact List.nil_sublist _ | apply List.Sublist.cons_cons | apply List.Sublist.cons))), ?_⟩
      refine HL.step 17 rfl (by kernel_rfl) ?_
      refine RL.callv rfl func30 rfl rfl (idOf_ok _ _ _ (60 + (i : Int)) (by omega)) ?_
      refine RL.nil ⟨(by first | exact keep_same (by repeat (first | exact List.Sublist.refl _ | exact List.nil_sublist _ | apply List.Sublist.cons_cons | apply List.Sublist.cons)) | exact keep_more hs9 (by repeat (first | exact List.Sublist.refl _ | exact List.nil_sublist _ | apply List.Sublist.cons_cons | apply List.Sublist.cons))), ?_⟩
      refine HL.step 18 rfl (by kernel_rfl) ?_
      refine RL.call rfl func28 rfl rfl (edd_ok _ _ _ c (atL k (3 * (i : Int)) 1000) (atL k (3 * (i : Int) + 1) 1000) (atL k (3 * (i : Int) + 2) 10000) (idOf (60 + (i : Int))) usC ⟨by have := Ex.size_eq c; omega, by have := hI.sz; omega⟩ (by unfold InI; omega) (by unfold InI; omega) (by unfold InI; omega) hcR) ?_
      rintro _ M9 _ ⟨hs9, rfl, us46, rfl, hur46⟩
      have hul46 : us46.length = 15 := hur46.1.trans (Ex.enc_len _)
      refine RL.nil ⟨(by first | exact keep_same (by repeat (first | exact List.Sublist.refl _ | exact List.nil_sublist _ | apply List.Sublist.cons_cons | apply List.Sublist.cons)) | exact keep_more hs9 (by repeat (first | exact List.Sublist.refl _ | exact List.nil_sublist _ | apply List.Sublist.cons_cons | apply List.Sublist.cons))), ?_⟩
      refine HL.step 19 rfl (by kernel_rfl) ?_
      refine RL.storeAgg us46 rfl rfl (by repeat (first | exact Repl.here _ | apply Repl.there)) (by simp [hul46, hulC]) (by simp [hul46, hulC]) (fun _ _ => hur46.one) (by rw [hul46]; exact size31) ?_
      refine RL.nil ⟨(by first | exact keep_same (by repeat (first | exact List.Sublist.refl _ | exact List.nil_sublist _ | apply List.Sublist.cons_cons | apply List.Sublist.cons)) | exact keep_more hs9 (by repeat (first | exact List.Sublist.refl _ | exact List.nil_sublist _ | apply List.Sublist.cons_cons | apply List.Sublist.cons))), ?_⟩
      refine HL.done (by kernel_rfl) ?_
      refine hK10 _ _ _ ?_
      refine CW.keep (Keep.cons 2 rfl (Keep.cons 9 rfl (Keep.cons 10 rfl (Keep.cons 11 rfl (Keep.cons 12 rfl (Keep.cons 13 rfl (Keep.nil _))))))) ?_
      refine CW.region ?_
      refine RL.q (Y.move rfl) rfl ?_
      refine RL.q (Y.add rfl rfl (by omega)) rfl ?_
      refine RL.q (Y.assign rfl) rfl ?_
      refine RL.nil ?_
      refine ⟨kn - (i + 1), [(13, _)], ?_, (Keep.cons 13 rfl (Keep.cons 2 rfl (Keep.cons 9 rfl (Keep.cons 10 rfl (Keep.cons 11 rfl (Keep.cons 12 rfl (Keep.nil _))))))), ?_⟩
      · omega
      · exact Turn.drop ⟨[.own b11 31 us46], rfl, hsub.trans hs9, i + 1, _, us46, rfl, by omega, rfl, rfl, hur46, hI.step hga (by omega) _ _ _⟩ (by repeat (first | exact List.Sublist.refl _ | apply List.Sublist.cons_cons | apply List.Sublist.cons))
    · refine RL.callv rfl func29 rfl rfl (at_ok _ _ _ k _ (3 * (i : Int)) 1000 (Rd.mono (hs17.trans (hs19.trans (hsub))) _ _ hk) hki (by omega)) ?_
      refine RL.nil ⟨(by first | exact keep_same (by repeat (first | exact List.Sublist.refl _ | exact List.nil_sublist _ | apply List.Sublist.cons_cons | apply List.Sublist.cons)) | exact keep_more hs9 (by repeat (first | exact List.Sublist.refl _ | exact List.nil_sublist _ | apply List.Sublist.cons_cons | apply List.Sublist.cons))), ?_⟩
      refine HL.step2 0 9 rfl rfl (by kernel_rfl) ?_ ?_
      · refine RL.q (Y.loadAll rfl (by repeat (first | exact List.Mem.head _ | apply List.Mem.tail)) hulC agg31) rfl ?_
        refine RL.nil ⟨(by first | exact keep_same (by repeat (first | exact List.Sublist.refl _ | exact List.nil_sublist _ | apply List.Sublist.cons_cons | apply List.Sublist.cons)) | exact keep_more hs9 (by repeat (first | exact List.Sublist.refl _ | exact List.nil_sublist _ | apply List.Sublist.cons_cons | apply List.Sublist.cons))), ?_⟩
        refine HL.step 9 rfl (by kernel_rfl) ?_
        refine RL.callv rfl func29 rfl rfl (at_ok _ _ _ k _ (3 * (i : Int) + 1) 1000 (Rd.mono (hs17.trans (hs19.trans (hsub))) _ _ hk) hki (by omega)) ?_
        refine RL.nil ⟨(by first | exact keep_same (by repeat (first | exact List.Sublist.refl _ | exact List.nil_sublist _ | apply List.Sublist.cons_cons | apply List.Sublist.cons)) | exact keep_more hs9 (by repeat (first | exact List.Sublist.refl _ | exact List.nil_sublist _ | apply List.Sublist.cons_cons | apply List.Sublist.cons))), ?_⟩
        refine HL.step 14 rfl (by kernel_rfl) ?_
        refine RL.callv rfl func29 rfl rfl (at_ok _ _ _ k _ (3 * (i : Int) + 2) 10000 (Rd.mono (hs17.trans (hs19.trans (hsub))) _ _ hk) hki (by omega)) ?_
        refine RL.nil ⟨(by first | exact keep_same (by repeat (first | exact List.Sublist.refl _ | exact List.nil_sublist _ | apply List.Sublist.cons_cons | apply List.Sublist.cons)) | exact keep_more hs9 (by repeat (first | exact List.Sublist.refl _ | exact List.nil_sublist _ | apply List.Sublist.cons_cons | apply List.Sublist.cons))), ?_⟩
        refine HL.step 17 rfl (by kernel_rfl) ?_
        refine RL.callv rfl func30 rfl rfl (idOf_ok _ _ _ (60 + (i : Int)) (by omega)) ?_
        refine RL.nil ⟨(by first | exact keep_same (by repeat (first | exact List.Sublist.refl _ | exact List.nil_sublist _ | apply List.Sublist.cons_cons | apply List.Sublist.cons)) | exact keep_more hs9 (by repeat (first | exact List.Sublist.refl _ | exact List.nil_sublist _ | apply List.Sublist.cons_cons | apply List.Sublist.cons))), ?_⟩
        refine HL.step 18 rfl (by kernel_rfl) ?_
        refine RL.call rfl func28 rfl rfl (edd_ok _ _ _ c (atL k (3 * (i : Int)) 1000) (atL k (3 * (i : Int) + 1) 1000) (atL k (3 * (i : Int) + 2) 10000) (idOf (60 + (i : Int))) usC ⟨by have := Ex.size_eq c; omega, by have := hI.sz; omega⟩ (by unfold InI; omega) (by unfold InI; omega) (by unfold InI; omega) hcR) ?_
        rintro _ M9 _ ⟨hs9, rfl, us46, rfl, hur46⟩
        have hul46 : us46.length = 15 := hur46.1.trans (Ex.enc_len _)
        refine RL.nil ⟨(by first | exact keep_same (by repeat (first | exact List.Sublist.refl _ | exact List.nil_sublist _ | apply List.Sublist.cons_cons | apply List.Sublist.cons)) | exact keep_more hs9 (by repeat (first | exact List.Sublist.refl _ | exact List.nil_sublist _ | apply List.Sublist.cons_cons | apply List.Sublist.cons))), ?_⟩
        refine HL.step 19 rfl (by kernel_rfl) ?_
        refine RL.storeAgg us46 rfl rfl (by repeat (first | exact Repl.here _ | apply Repl.there)) (by simp [hul46, hulC]) (by simp [hul46, hulC]) (fun _ _ => hur46.one) (by rw [hul46]; exact size31) ?_
        refine RL.nil ⟨(by first | exact keep_same (by repeat (first | exact List.Sublist.refl _ | exact List.nil_sublist _ | apply List.Sublist.cons_cons | apply List.Sublist.cons)) | exact keep_more hs9 (by repeat (first | exact List.Sublist.refl _ | exact List.nil_sublist _ | apply List.Sublist.cons_cons | apply List.Sublist.cons))), ?_⟩
        refine HL.done (by kernel_rfl) ?_
        refine hK10 _ _ _ ?_
        refine CW.keep (Keep.cons 2 rfl (Keep.cons 9 rfl (Keep.cons 10 rfl (Keep.cons 11 rfl (Keep.cons 12 rfl (Keep.cons 13 rfl (Keep.nil _))))))) ?_
        refine CW.region ?_
        refine RL.q (Y.move rfl) rfl ?_
        refine RL.q (Y.add rfl rfl (by omega)) rfl ?_
        refine RL.q (Y.assign rfl) rfl ?_
        refine RL.nil ?_
        refine ⟨kn - (i + 1), [(13, _)], ?_, (Keep.cons 13 rfl (Keep.cons 2 rfl (Keep.cons 9 rfl (Keep.cons 10 rfl (Keep.cons 11 rfl (Keep.cons 12 rfl (Keep.nil _))))))), ?_⟩
        · omega
        · exact Turn.drop ⟨[.own b11 31 us46], rfl, hsub.trans hs9, i + 1, _, us46, rfl, by omega, rfl, rfl, hur46, hI.step hga (by omega) _ _ _⟩ (by repeat (first | exact List.Sublist.refl _ | apply List.Sublist.cons_cons | apply List.Sublist.cons))
      · refine RL.callv rfl func29 rfl rfl (at_ok _ _ _ k _ (3 * (i : Int) + 1) 1000 (Rd.mono (hs17.trans (hs19.trans (hsub))) _ _ hk) hki (by omega)) ?_
        refine RL.nil ⟨(by first | exact keep_same (by repeat (first | exact List.Sublist.refl _ | exact List.nil_sublist _ | apply List.Sublist.cons_cons | apply List.Sublist.cons)) | exact keep_more hs9 (by repeat (first | exact List.Sublist.refl _ | exact List.nil_sublist _ | apply List.Sublist.cons_cons | apply List.Sublist.cons))), ?_⟩
        refine HL.step2 0 14 rfl rfl (by kernel_rfl) ?_ ?_
        · refine RL.q (Y.loadAll rfl (by repeat (first | exact List.Mem.head _ | apply List.Mem.tail)) hulC agg31) rfl ?_
          refine RL.nil ⟨(by first | exact keep_same (by repeat (first | exact List.Sublist.refl _ | exact List.nil_sublist _ | apply List.Sublist.cons_cons | apply List.Sublist.cons)) | exact keep_more hs9 (by repeat (first | exact List.Sublist.refl _ | exact List.nil_sublist _ | apply List.Sublist.cons_cons | apply List.Sublist.cons))), ?_⟩
          refine HL.step 14 rfl (by kernel_rfl) ?_
          refine RL.callv rfl func29 rfl rfl (at_ok _ _ _ k _ (3 * (i : Int) + 2) 10000 (Rd.mono (hs17.trans (hs19.trans (hsub))) _ _ hk) hki (by omega)) ?_
          refine RL.nil ⟨(by first | exact keep_same (by repeat (first | exact List.Sublist.refl _ | exact List.nil_sublist _ | apply List.Sublist.cons_cons | apply List.Sublist.cons)) | exact keep_more hs9 (by repeat (first | exact List.Sublist.refl _ | exact List.nil_sublist _ | apply List.Sublist.cons_cons | apply List.Sublist.cons))), ?_⟩
          refine HL.step 17 rfl (by kernel_rfl) ?_
          refine RL.callv rfl func30 rfl rfl (idOf_ok _ _ _ (60 + (i : Int)) (by omega)) ?_
          refine RL.nil ⟨(by first | exact keep_same (by repeat (first | exact List.Sublist.refl _ | exact List.nil_sublist _ | apply List.Sublist.cons_cons | apply List.Sublist.cons)) | exact keep_more hs9 (by repeat (first | exact List.Sublist.refl _ | exact List.nil_sublist _ | apply List.Sublist.cons_cons | apply List.Sublist.cons))), ?_⟩
          refine HL.step 18 rfl (by kernel_rfl) ?_
          refine RL.call rfl func28 rfl rfl (edd_ok _ _ _ c (atL k (3 * (i : Int)) 1000) (atL k (3 * (i : Int) + 1) 1000) (atL k (3 * (i : Int) + 2) 10000) (idOf (60 + (i : Int))) usC ⟨by have := Ex.size_eq c; omega, by have := hI.sz; omega⟩ (by unfold InI; omega) (by unfold InI; omega) (by unfold InI; omega) hcR) ?_
          rintro _ M9 _ ⟨hs9, rfl, us46, rfl, hur46⟩
          have hul46 : us46.length = 15 := hur46.1.trans (Ex.enc_len _)
          refine RL.nil ⟨(by first | exact keep_same (by repeat (first | exact List.Sublist.refl _ | exact List.nil_sublist _ | apply List.Sublist.cons_cons | apply List.Sublist.cons)) | exact keep_more hs9 (by repeat (first | exact List.Sublist.refl _ | exact List.nil_sublist _ | apply List.Sublist.cons_cons | apply List.Sublist.cons))), ?_⟩
          refine HL.step 19 rfl (by kernel_rfl) ?_
          refine RL.storeAgg us46 rfl rfl (by repeat (first | exact Repl.here _ | apply Repl.there)) (by simp [hul46, hulC]) (by simp [hul46, hulC]) (fun _ _ => hur46.one) (by rw [hul46]; exact size31) ?_
          refine RL.nil ⟨(by first | exact keep_same (by repeat (first | exact List.Sublist.refl _ | exact List.nil_sublist _ | apply List.Sublist.cons_cons | apply List.Sublist.cons)) | exact keep_more hs9 (by repeat (first | exact List.Sublist.refl _ | exact List.nil_sublist _ | apply List.Sublist.cons_cons | apply List.Sublist.cons))), ?_⟩
          refine HL.done (by kernel_rfl) ?_
          refine hK10 _ _ _ ?_
          refine CW.keep (Keep.cons 2 rfl (Keep.cons 9 rfl (Keep.cons 10 rfl (Keep.cons 11 rfl (Keep.cons 12 rfl (Keep.cons 13 rfl (Keep.nil _))))))) ?_
          refine CW.region ?_
          refine RL.q (Y.move rfl) rfl ?_
          refine RL.q (Y.add rfl rfl (by omega)) rfl ?_
          refine RL.q (Y.assign rfl) rfl ?_
          refine RL.nil ?_
          refine ⟨kn - (i + 1), [(13, _)], ?_, (Keep.cons 13 rfl (Keep.cons 2 rfl (Keep.cons 9 rfl (Keep.cons 10 rfl (Keep.cons 11 rfl (Keep.cons 12 rfl (Keep.nil _))))))), ?_⟩
          · omega
          · exact Turn.drop ⟨[.own b11 31 us46], rfl, hsub.trans hs9, i + 1, _, us46, rfl, by omega, rfl, rfl, hur46, hI.step hga (by omega) _ _ _⟩ (by repeat (first | exact List.Sublist.refl _ | apply List.Sublist.cons_cons | apply List.Sublist.cons))
        · refine RL.callv rfl func29 rfl rfl (at_ok _ _ _ k _ (3 * (i : Int) + 2) 10000 (Rd.mono (hs17.trans (hs19.trans (hsub))) _ _ hk) hki (by omega)) ?_
          refine RL.nil ⟨(by first | exact keep_same (by repeat (first | exact List.Sublist.refl _ | exact List.nil_sublist _ | apply List.Sublist.cons_cons | apply List.Sublist.cons)) | exact keep_more hs9 (by repeat (first | exact List.Sublist.refl _ | exact List.nil_sublist _ | apply List.Sublist.cons_cons | apply List.Sublist.cons))), ?_⟩
          refine HL.step2 0 17 rfl rfl (by kernel_rfl) ?_ ?_
          · refine RL.q (Y.loadAll rfl (by repeat (first | exact List.Mem.head _ | apply List.Mem.tail)) hulC agg31) rfl ?_
            refine RL.nil ⟨(by first | exact keep_same (by repeat (first | exact List.Sublist.refl _ | exact List.nil_sublist _ | apply List.Sublist.cons_cons | apply List.Sublist.cons)) | exact keep_more hs9 (by repeat (first | exact List.Sublist.refl _ | exact List.nil_sublist _ | apply List.Sublist.cons_cons | apply List.Sublist.cons))), ?_⟩
            refine HL.step 17 rfl (by kernel_rfl) ?_
            refine RL.callv rfl func30 rfl rfl (idOf_ok _ _ _ (60 + (i : Int)) (by omega)) ?_
            refine RL.nil ⟨(by first | exact keep_same (by repeat (first | exact List.Sublist.refl _ | exact List.nil_sublist _ | apply List.Sublist.cons_cons | apply List.Sublist.cons)) | exact keep_more hs9 (by repeat (first | exact List.Sublist.refl _ | exact List.nil_sublist _ | apply List.Sublist.cons_cons | apply List.Sublist.cons))), ?_⟩
            refine HL.step 18 rfl (by kernel_rfl) ?_
            refine RL.call rfl func28 rfl rfl (edd_ok _ _ _ c (atL k (3 * (i : Int)) 1000) (atL k (3 * (i : Int) + 1) 1000) (atL k (3 * (i : Int) + 2) 10000) (idOf (60 + (i : Int))) usC ⟨by have := Ex.size_eq c; omega, by have := hI.sz; omega⟩ (by unfold InI; omega) (by unfold InI; omega) (by unfold InI; omega) hcR) ?_
            rintro _ M9 _ ⟨hs9, rfl, us46, rfl, hur46⟩
            have hul46 : us46.length = 15 := hur46.1.trans (Ex.enc_len _)
            refine RL.nil ⟨(by first | exact keep_same (by repeat (first | exact List.Sublist.refl _ | exact List.nil_sublist _ | apply List.Sublist.cons_cons | apply List.Sublist.cons)) | exact keep_more hs9 (by repeat (first | exact List.Sublist.refl _ | exact List.nil_sublist _ | apply List.Sublist.cons_cons | apply List.Sublist.cons))), ?_⟩
            refine HL.step 19 rfl (by kernel_rfl) ?_
            refine RL.storeAgg us46 rfl rfl (by repeat (first | exact Repl.here _ | apply Repl.there)) (by simp [hul46, hulC]) (by simp [hul46, hulC]) (fun _ _ => hur46.one) (by rw [hul46]; exact size31) ?_
            refine RL.nil ⟨(by first | exact keep_same (by repeat (first | exact List.Sublist.refl _ | exact List.nil_sublist _ | apply List.Sublist.cons_cons | apply List.Sublist.cons)) | exact keep_more hs9 (by repeat (first | exact List.Sublist.refl _ | exact List.nil_sublist _ | apply List.Sublist.cons_cons | apply List.Sublist.cons))), ?_⟩
            refine HL.done (by kernel_rfl) ?_
            refine hK10 _ _ _ ?_
            refine CW.keep (Keep.cons 2 rfl (Keep.cons 9 rfl (Keep.cons 10 rfl (Keep.cons 11 rfl (Keep.cons 12 rfl (Keep.cons 13 rfl (Keep.nil _))))))) ?_
            refine CW.region ?_
            refine RL.q (Y.move rfl) rfl ?_
            refine RL.q (Y.add rfl rfl (by omega)) rfl ?_
            refine RL.q (Y.assign rfl) rfl ?_
            refine RL.nil ?_
            refine ⟨kn - (i + 1), [(13, _)], ?_, (Keep.cons 13 rfl (Keep.cons 2 rfl (Keep.cons 9 rfl (Keep.cons 10 rfl (Keep.cons 11 rfl (Keep.cons 12 rfl (Keep.nil _))))))), ?_⟩
            · omega
            · exact Turn.drop ⟨[.own b11 31 us46], rfl, hsub.trans hs9, i + 1, _, us46, rfl, by omega, rfl, rfl, hur46, hI.step hga (by omega) _ _ _⟩ (by repeat (first | exact List.Sublist.refl _ | apply List.Sublist.cons_cons | apply List.Sublist.cons))
          · refine RL.callv rfl func30 rfl rfl (idOf_ok _ _ _ (60 + (i : Int)) (by omega)) ?_
            refine RL.nil ⟨(by first | exact keep_same (by repeat (first | exact List.Sublist.refl _ | exact List.nil_sublist _ | apply List.Sublist.cons_cons | apply List.Sublist.cons)) | exact keep_more hs9 (by repeat (first | exact List.Sublist.refl _ | exact List.nil_sublist _ | apply List.Sublist.cons_cons | apply List.Sublist.cons))), ?_⟩
            refine HL.step 0 rfl (by kernel_rfl) ?_
            refine RL.q (Y.loadAll rfl (by repeat (first | exact List.Mem.head _ | apply List.Mem.tail)) hulC agg31) rfl ?_
            refine RL.nil ⟨(by first | exact keep_same (by repeat (first | exact List.Sublist.refl _ | exact List.nil_sublist _ | apply List.Sublist.cons_cons | apply List.Sublist.cons)) | exact keep_more hs9 (by repeat (first | exact List.Sublist.refl _ | exact List.nil_sublist _ | apply List.Sublist.cons_cons | apply List.Sublist.cons))), ?_⟩
            refine HL.step 18 rfl (by kernel_rfl) ?_
            refine RL.call rfl func28 rfl rfl (edd_ok _ _ _ c (atL k (3 * (i : Int)) 1000) (atL k (3 * (i : Int) + 1) 1000) (atL k (3 * (i : Int) + 2) 10000) (idOf (60 + (i : Int))) usC ⟨by have := Ex.size_eq c; omega, by have := hI.sz; omega⟩ (by unfold InI; omega) (by unfold InI; omega) (by unfold InI; omega) hcR) ?_
            rintro _ M9 _ ⟨hs9, rfl, us46, rfl, hur46⟩
            have hul46 : us46.length = 15 := hur46.1.trans (Ex.enc_len _)
            refine RL.nil ⟨(by first | exact keep_same (by repeat (first | exact List.Sublist.refl _ | exact List.nil_sublist _ | apply List.Sublist.cons_cons | apply List.Sublist.cons)) | exact keep_more hs9 (by repeat (first | exact List.Sublist.refl _ | exact List.nil_sublist _ | apply List.Sublist.cons_cons | apply List.Sublist.cons))), ?_⟩
            refine HL.step 19 rfl (by kernel_rfl) ?_
            refine RL.storeAgg us46 rfl rfl (by repeat (first | exact Repl.here _ | apply Repl.there)) (by simp [hul46, hulC]) (by simp [hul46, hulC]) (fun _ _ => hur46.one) (by rw [hul46]; exact size31) ?_
            refine RL.nil ⟨(by first | exact keep_same (by repeat (first | exact List.Sublist.refl _ | exact List.nil_sublist _ | apply List.Sublist.cons_cons | apply List.Sublist.cons)) | exact keep_more hs9 (by repeat (first | exact List.Sublist.refl _ | exact List.nil_sublist _ | apply List.Sublist.cons_cons | apply List.Sublist.cons))), ?_⟩
            refine HL.done (by kernel_rfl) ?_
            refine hK10 _ _ _ ?_
            refine CW.keep (Keep.cons 2 rfl (Keep.cons 9 rfl (Keep.cons 10 rfl (Keep.cons 11 rfl (Keep.cons 12 rfl (Keep.cons 13 rfl (Keep.nil _))))))) ?_
            refine CW.region ?_
            refine RL.q (Y.move rfl) rfl ?_
            refine RL.q (Y.add rfl rfl (by omega)) rfl ?_
            refine RL.q (Y.assign rfl) rfl ?_
            refine RL.nil ?_
            refine ⟨kn - (i + 1), [(13, _)], ?_, (Keep.cons 13 rfl (Keep.cons 2 rfl (Keep.cons 9 rfl (Keep.cons 10 rfl (Keep.cons 11 rfl (Keep.cons 12 rfl (Keep.nil _))))))), ?_⟩
            · omega
            · exact Turn.drop ⟨[.own b11 31 us46], rfl, hsub.trans hs9, i + 1, _, us46, rfl, by omega, rfl, rfl, hur46, hI.step hga (by omega) _ _ _⟩ (by repeat (first | exact List.Sublist.refl _ | apply List.Sublist.cons_cons | apply List.Sublist.cons))
  · have hik : i = kn := by omega
    have hle := hI.le
    have hgc := hI.ok
    have t1 := leastV_tri hga hgb hgc
    have t2 := leastV_tri hgc hgb hga
    have t3 := leastV_symm ⟨hga, hgc⟩
    have t4 := leastV_nonneg ⟨hga, hgc⟩
    have t5 := leastV_up ⟨hga, hgb⟩
    have t6 := leastV_up ⟨hgc, hgb⟩
    have t7 := leastV_nonneg ⟨hga, hgb⟩
    have t8 := leastV_nonneg ⟨hgc, hgb⟩
    have t9 := hI.sz
    refine CW.exit ?_
    refine hK6 _ _ _ ?_
    refine CW.seq fun K11 hK11 => ?_
    refine CW.region ?_
    refine RL.q (Y.loadAll rfl (by repeat (first | exact List.Mem.head _ | apply List.Mem.tail)) hul17 agg31) rfl ?_
    refine RL.q (Y.loadAll rfl (by repeat (first | exact List.Mem.head _ | apply List.Mem.tail)) hul19 agg31) rfl ?_
    refine RL.callv rfl func27 rfl rfl (least_is _ _ _ a b us17 us19 (hu17.mono (hs19.trans (hsub))) (hu19.mono hsub)) ?_
    refine RL.q (Y.assign rfl) rfl ?_
    refine RL.nil ?_
    refine hK11 _ _ _ ?_
    refine CW.keep (Keep.cons 9 rfl (Keep.cons 10 rfl (Keep.cons 11 rfl (Keep.cons 12 rfl (Keep.cons 14 rfl (Keep.nil _)))))) ?_
    refine CW.seq fun K12 hK12 => ?_
    refine CW.region ?_
    refine RL.q (Y.loadAll rfl (by repeat (first | exact List.Mem.head _ | apply List.Mem.tail)) hulC agg31) rfl ?_
    refine RL.q (Y.loadAll rfl (by repeat (first | exact List.Mem.head _ | apply List.Mem.tail)) hul19 agg31) rfl ?_
    refine RL.callv rfl func27 rfl rfl (least_is _ _ _ c b usC us19 (hcR) (hu19.mono hsub)) ?_
    refine RL.q (Y.assign rfl) rfl ?_
    refine RL.nil ?_
    refine hK12 _ _ _ ?_
    refine CW.keep (Keep.cons 9 rfl (Keep.cons 11 rfl (Keep.cons 12 rfl (Keep.cons 14 rfl (Keep.cons 15 rfl (Keep.nil _)))))) ?_
    refine CW.seq fun K13 hK13 => ?_
    refine CW.region ?_
    refine RL.q (Y.loadAll rfl (by repeat (first | exact List.Mem.head _ | apply List.Mem.tail)) hul17 agg31) rfl ?_
    refine RL.q (Y.loadAll rfl (by repeat (first | exact List.Mem.head _ | apply List.Mem.tail)) hulC agg31) rfl ?_
    refine RL.callv rfl func27 rfl rfl (least_is _ _ _ a c us17 usC (hu17.mono (hs19.trans (hsub))) (hcR)) ?_
    refine RL.q (Y.move rfl) rfl ?_
    refine RL.qs (Y.leq rfl rfl) rfl (fun g57 => ?_) (fun g57 => ?_)
    · refine RL.q (Y.move rfl) rfl ?_
      refine RL.qg ⟨_, _, rfl, rfl, rfl⟩ (Y.loadAll rfl (by repeat (first | exact List.Mem.head _ | apply List.Mem.tail)) hul17 agg31) rfl ?_
      refine RL.qg ⟨_, _, rfl, rfl, rfl⟩ (Y.loadAll rfl (by repeat (first | exact List.Mem.head _ | apply List.Mem.tail)) hulC agg31) rfl ?_
      refine RL.callv ⟨_, _, rfl, rfl, rfl⟩ func27 rfl rfl (least_is _ _ _ a c us17 usC (hu17.mono (hs19.trans (hsub))) (hcR)) ?_
      refine RL.qgs ⟨_, _, rfl, rfl, rfl⟩ (Y.geq rfl rfl) rfl (fun g62 => ?_) (fun g62 => ?_)
      · refine RL.q (Y.pickT rfl rfl) rfl ?_
        refine RL.q (Y.move rfl) rfl ?_
        refine RL.qg ⟨_, _, rfl, rfl, rfl⟩ (Y.move rfl) rfl ?_
        refine RL.qg ⟨_, _, rfl, rfl, rfl⟩ (Y.move rfl) rfl ?_
        refine RL.qg ⟨_, _, rfl, rfl, rfl⟩ (Y.move rfl) rfl ?_
        refine RL.qg ⟨_, _, rfl, rfl, rfl⟩ (Y.add rfl rfl (by omega)) rfl ?_
        refine RL.qgs ⟨_, _, rfl, rfl, rfl⟩ (Y.leq rfl rfl) rfl (fun g69 => ?_) (fun g69 => ?_)
        · refine RL.q (Y.pickT rfl rfl) rfl ?_
          refine RL.q (Y.move rfl) rfl ?_
          refine RL.qg ⟨_, _, rfl, rfl, rfl⟩ (Y.move rfl) rfl ?_
          refine RL.qg ⟨_, _, rfl, rfl, rfl⟩ (Y.move rfl) rfl ?_
          refine RL.qg ⟨_, _, rfl, rfl, rfl⟩ (Y.move rfl) rfl ?_
          refine RL.qg ⟨_, _, rfl, rfl, rfl⟩ (Y.add rfl rfl (by omega)) rfl ?_
          refine RL.qgs ⟨_, _, rfl, rfl, rfl⟩ (Y.leq rfl rfl) rfl (fun g76 => ?_) (fun g76 => ?_)
          · refine RL.q (Y.pickT rfl rfl) rfl ?_
            refine RL.q (Y.move rfl) rfl ?_
            refine RL.callv ⟨_, _, rfl, rfl, rfl⟩ func21 rfl rfl (lives_ok _ _ _) ?_
            refine RL.q (Y.pickT rfl rfl) rfl ?_
            refine RL.q (Y.assign rfl) rfl ?_
            refine RL.nil ?_
            refine hK13 _ _ _ ?_
            refine CW.keep (Keep.cons 8 rfl (Keep.nil _)) ?_
            refine CW.ret ?_
            refine ⟨_, rfl, ?_⟩
            exact Turn.back hw1 (hs17.trans (hs19.trans (hsub))) ⟨rfl, rfl, rfl⟩ (by repeat (first | exact List.Sublist.refl _ | apply List.Sublist.cons_cons | apply List.Sublist.cons))
          · refine RL.q (Y.pickT rfl rfl) rfl ?_
            refine RL.q (Y.move rfl) rfl ?_
            refine RL.no ⟨_, _, rfl, rfl, rfl⟩ rfl ?_
            refine RL.q (Y.pickF rfl rfl) rfl ?_
            refine RL.q (Y.assign rfl) rfl ?_
            refine RL.nil ?_
            refine hK13 _ _ _ ?_
            refine CW.keep (Keep.cons 8 rfl (Keep.nil _)) ?_
            refine CW.ret ?_
            exact absurd (by omega) g76
        · refine RL.q (Y.pickT rfl rfl) rfl ?_
          refine RL.q (Y.move rfl) rfl ?_
          refine RL.no ⟨_, _, rfl, rfl, rfl⟩ rfl ?_
          refine RL.no ⟨_, _, rfl, rfl, rfl⟩ rfl ?_
          refine RL.no ⟨_, _, rfl, rfl, rfl⟩ rfl ?_
          refine RL.no ⟨_, _, rfl, rfl, rfl⟩ rfl ?_
          refine RL.no ⟨_, _, rfl, rfl, rfl⟩ rfl ?_
          refine RL.q (Y.pickF rfl rfl) rfl ?_
          refine RL.q (Y.move rfl) rfl ?_
          refine RL.no ⟨_, _, rfl, rfl, rfl⟩ rfl ?_
          refine RL.q (Y.pickF rfl rfl) rfl ?_
          refine RL.q (Y.assign rfl) rfl ?_
          refine RL.nil ?_
          refine hK13 _ _ _ ?_
          refine CW.keep (Keep.cons 8 rfl (Keep.nil _)) ?_
          refine CW.ret ?_
          exact absurd (by omega) g69
      · refine RL.q (Y.pickT rfl rfl) rfl ?_
        refine RL.q (Y.move rfl) rfl ?_
        refine RL.no ⟨_, _, rfl, rfl, rfl⟩ rfl ?_
        refine RL.no ⟨_, _, rfl, rfl, rfl⟩ rfl ?_
        refine RL.no ⟨_, _, rfl, rfl, rfl⟩ rfl ?_
        refine RL.no ⟨_, _, rfl, rfl, rfl⟩ rfl ?_
        refine RL.no ⟨_, _, rfl, rfl, rfl⟩ rfl ?_
        refine RL.q (Y.pickF rfl rfl) rfl ?_
        refine RL.q (Y.move rfl) rfl ?_
        refine RL.no ⟨_, _, rfl, rfl, rfl⟩ rfl ?_
        refine RL.no ⟨_, _, rfl, rfl, rfl⟩ rfl ?_
        refine RL.no ⟨_, _, rfl, rfl, rfl⟩ rfl ?_
        refine RL.no ⟨_, _, rfl, rfl, rfl⟩ rfl ?_
        refine RL.no ⟨_, _, rfl, rfl, rfl⟩ rfl ?_
        refine RL.q (Y.pickF rfl rfl) rfl ?_
        refine RL.q (Y.move rfl) rfl ?_
        refine RL.no ⟨_, _, rfl, rfl, rfl⟩ rfl ?_
        refine RL.q (Y.pickF rfl rfl) rfl ?_
        refine RL.q (Y.assign rfl) rfl ?_
        refine RL.nil ?_
        refine hK13 _ _ _ ?_
        refine CW.keep (Keep.cons 8 rfl (Keep.nil _)) ?_
        refine CW.ret ?_
        exact absurd (by omega) g62
    · refine RL.q (Y.move rfl) rfl ?_
      refine RL.no ⟨_, _, rfl, rfl, rfl⟩ rfl ?_
      refine RL.no ⟨_, _, rfl, rfl, rfl⟩ rfl ?_
      refine RL.no ⟨_, _, rfl, rfl, rfl⟩ rfl ?_
      refine RL.no ⟨_, _, rfl, rfl, rfl⟩ rfl ?_
      refine RL.q (Y.pickF rfl rfl) rfl ?_
      refine RL.q (Y.move rfl) rfl ?_
      refine RL.no ⟨_, _, rfl, rfl, rfl⟩ rfl ?_
      refine RL.no ⟨_, _, rfl, rfl, rfl⟩ rfl ?_
      refine RL.no ⟨_, _, rfl, rfl, rfl⟩ rfl ?_
      refine RL.no ⟨_, _, rfl, rfl, rfl⟩ rfl ?_
      refine RL.no ⟨_, _, rfl, rfl, rfl⟩ rfl ?_
      refine RL.q (Y.pickF rfl rfl) rfl ?_
      refine RL.q (Y.move rfl) rfl ?_
      refine RL.no ⟨_, _, rfl, rfl, rfl⟩ rfl ?_
      refine RL.no ⟨_, _, rfl, rfl, rfl⟩ rfl ?_
      refine RL.no ⟨_, _, rfl, rfl, rfl⟩ rfl ?_
      refine RL.no ⟨_, _, rfl, rfl, rfl⟩ rfl ?_
      refine RL.no ⟨_, _, rfl, rfl, rfl⟩ rfl ?_
      refine RL.q (Y.pickF rfl rfl) rfl ?_
      refine RL.q (Y.move rfl) rfl ?_
      refine RL.no ⟨_, _, rfl, rfl, rfl⟩ rfl ?_
      refine RL.q (Y.pickF rfl rfl) rfl ?_
      refine RL.q (Y.assign rfl) rfl ?_
      refine RL.nil ?_
      refine hK13 _ _ _ ?_
      refine CW.keep (Keep.cons 8 rfl (Keep.nil _)) ?_
      refine CW.ret ?_
      exact absurd (by omega) g57
end Go.Proofs.Ytjkcjbicleohkaa
