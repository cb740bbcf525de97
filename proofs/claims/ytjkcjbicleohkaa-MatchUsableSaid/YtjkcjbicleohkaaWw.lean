/- THE WALKS, 23: one edit. Printed by m16w.py. -/
import Derived.Test.YtjkcjbicleohkaaWv
import Derived.Test.YtjkcjbicleohkaaTree
import Derived.Test.YtjkcjbicleohkaaEdit
namespace Go.Proofs.Ytjkcjbicleohkaa
open Xe

set_option maxHeartbeats 4000000 in
theorem edited_ok (N : Nat) : ∀ (w0 : World) (M : Mem) (Γ : List As) (e : Ex) (at0 how w : Int) (id : IdT) (vs : List Value), e.size = N → e.size ≤ 1000 → 0 ≤ at0 ∧ at0 ≤ 2000 → 0 ≤ how ∧ how < 3 → 0 ≤ w ∧ w < 10000 → RdL M e.enc vs →
    CallOk Try.prog w0 M Γ 49 #[.agg vs.toArray, vint at0, vint how, vint w, .agg id.vals.toArray] (Gives M Γ fun M' v => ∃ us, v = .tuple #[.agg us.toArray, vint (edE how w id e at0).2] ∧ RdL M' (edE how w id e at0).1.enc us) := by
  induction N using Nat.strongRecOn
  rename_i N ih
  intro w0 M Γ e at0 how w id vs he hes hat hhow hw hvs
  obtain ⟨a13, c13, h13, hc13, hl13, hk13⟩ := kids_at hvs
  have hvl : vs.length = 15 := hvs.1.trans (Ex.enc_len _)
  have hvs0 := hvs
  rw [Ex.enc_eq] at hvs
  have hszk := Ex.size_eq e
  have hlk := len_sizes e.kids
  obtain ⟨hf1, hf2⟩ := frmN_le (len := e.kids.length) hw.1
  obtain ⟨ht1, ht2, ht3⟩ := toN_le (len := e.kids.length) hw.1
  refine enterCell2 (f := 49) Try.func49 rfl Try.ntmps49 rfl rfl fun w1 hw1 => ?_
  refine CW.addRds hvs ?_
  refine CW.seq fun K1 hK1 => ?_
  refine CW.region ?_
  refine RL.box vs rfl rfl rfl fun b5 => ?_
  refine RL.box id.vals rfl rfl rfl fun b9 => ?_
  refine RL.alloc _ zero31 rfl rfl fun b10 => ?_
  refine RL.q (Y.assign rfl) rfl ?_
  refine RL.nil ?_
  refine hK1 _ _ _ ?_
  refine CW.keep (Keep.cons 1 rfl (Keep.cons 2 rfl (Keep.cons 3 rfl (Keep.cons 5 rfl (Keep.cons 9 rfl (Keep.cons 10 rfl (Keep.nil _))))))) ?_
  refine CW.seq fun K2 hK2 => ?_
  refine CW.seq fun K3 hK3 => ?_
  refine CW.regionM1 27 (.bool (decide (at0 = 0 ∧ how.tmod 3 = 0))) ?_ ?_
  · refine RL.q (Y.move rfl) rfl ?_
    refine RL.qs (Y.eql rfl rfl) rfl (fun g22 => ?_) (fun g22 => ?_)
    · refine RL.q (Y.move rfl) rfl ?_
      refine RL.qg ⟨_, _, rfl, rfl, rfl⟩ (Y.move rfl) rfl ?_
      refine RL.qg ⟨_, _, rfl, rfl, rfl⟩ (Y.rem rfl rfl (by omega)) rfl ?_
      refine RL.qg ⟨_, _, rfl, rfl, rfl⟩ (Y.eql rfl rfl) rfl ?_
      refine RL.q (Y.pickT rfl rfl) rfl ?_
      refine RL.nil ?_
      exact ⟨gl rfl (by first | exact vb ⟨fun e => ⟨g22, e⟩, fun e => e.2⟩ | exact vbF (fun e => g22 e.1)), (by repeat (first | exact Keep.nil _ | refine Keep.cons _ rfl ?_)), fun _ hw => hw.sub (by repeat (first | exact List.Sublist.refl _ | apply List.Sublist.cons_cons | apply List.Sublist.cons))⟩
    · refine RL.q (Y.move rfl) rfl ?_
      refine RL.no ⟨_, _, rfl, rfl, rfl⟩ rfl ?_
      refine RL.no ⟨_, _, rfl, rfl, rfl⟩ rfl ?_
      refine RL.no ⟨_, _, rfl, rfl, rfl⟩ rfl ?_
      refine RL.q (Y.pickF rfl rfl) rfl ?_
      refine RL.nil ?_
      exact ⟨gl rfl (by first | exact vb ⟨fun e => ⟨g22, e⟩, fun e => e.2⟩ | exact vbF (fun e => g22 e.1)), (by repeat (first | exact Keep.nil _ | refine Keep.cons _ rfl ?_)), fun _ hw => hw.sub (by repeat (first | exact List.Sublist.refl _ | apply List.Sublist.cons_cons | apply List.Sublist.cons))⟩
  refine hK3 _ _ _ ?_
  refine CW.ite rfl (fun h1 => ?_) (fun h1 => ?_)
  · refine CW.seq fun K4 hK4 => ?_
    refine CW.region ?_
    refine RL.q (Y.move rfl) rfl ?_
    refine RL.q (Y.field rfl field31_0) rfl ?_
    refine RL.q (Y.loadAggV e.id.vals rfl (by repeat (first | exact List.Mem.head _ | apply List.Mem.tail)) (by repeat (first | exact List.Mem.head _ | apply List.Mem.tail)) (by rfl) agg24) rfl ?_
    refine RL.call rfl func33 rfl rfl (content_ok _ _ _ w e.id (by unfold InI; omega)) ?_
    rintro _ M2 _ ⟨hs2, rfl, us31, rfl, hur31⟩
    have hul31 : us31.length = 15 := hur31.1.trans (Ex.enc_len _)
    refine RL.alloc _ zero31 rfl rfl fun b12 => ?_
    refine RL.storeAgg us31 rfl rfl (by repeat (first | exact Repl.here _ | apply Repl.there)) (by simp [hul31]) (by simp [hul31]) (fun _ _ => hur31.one) (by rw [hul31]; exact size31) ?_
    refine RL.nil ?_
    refine hK4 _ _ _ ?_
    refine CW.keep (Keep.cons 5 rfl (Keep.cons 10 rfl (Keep.cons 12 rfl (Keep.nil _)))) ?_
    refine CW.seq fun K5 hK5 => ?_
    refine CW.region ?_
    refine RL.q (Y.field rfl field31_5) rfl ?_
    refine RL.q (Y.loadOwn rfl (by repeat (first | exact List.Mem.head _ | apply List.Mem.tail)) h13 flat28) rfl ?_
    refine RL.q (Y.field rfl field31_5) rfl ?_
    refine RL.store _ rfl rfl (by repeat (first | exact Repl.here _ | apply Repl.there)) (by rfl) (by simp [hul31]) (by rfl) size28 ?_
    refine RL.nil ?_
    refine hK5 _ _ _ ?_
    refine CW.keep (Keep.cons 10 rfl (Keep.cons 12 rfl (Keep.nil _))) ?_
    have hr12 : RdL M2 (setKids (contentE w e.id) e.kids).enc (us31.set 13 (.slice a13 e.kids.length c13)) := by rw [setKids_enc]; exact hur31.set 13 (Rd.mono hs2 _ _ hk13)
    have hul12 : (us31.set 13 (.slice a13 e.kids.length c13)).length = 15 := by simp [hul31]
    generalize us31.set 13 (.slice a13 e.kids.length c13) = us12 at *
    refine CW.seq fun K6 hK6 => ?_
    refine CW.region ?_
    refine RL.q (Y.loadAll rfl (by repeat (first | exact List.Mem.head _ | apply List.Mem.tail)) hul12 agg31) rfl ?_
    refine RL.storeAgg us12 rfl rfl (by repeat (first | exact Repl.here _ | apply Repl.there)) (by simp [hul12]) (by simp [hul12]) (fun _ _ => hr12.one) (by rw [hul12]; exact size31) ?_
    refine RL.q (Y.assign rfl) rfl ?_
    refine RL.nil ?_
    refine hK6 _ _ _ ?_
    refine CW.keep (Keep.cons 10 rfl (Keep.cons 11 rfl (Keep.nil _))) ?_
    refine CW.ret ?_
    refine ⟨_, rfl, ?_⟩
    exact CellAt.mk rfl (by repeat (first | exact List.Mem.head _ | apply List.Mem.tail)) hul12 agg31 (Turn.drop ⟨hs2, rfl, us12, by rw [edE_eq, if_pos h1], by rw [edE_eq, if_pos h1]; exact hr12⟩ (by repeat (first | exact List.Sublist.refl _ | apply List.Sublist.cons_cons | apply List.Sublist.cons)))
  · refine CW.skip ?_
    refine hK2 _ _ _ ?_
    refine CW.seq fun K7 hK7 => ?_
    refine CW.seq fun K8 hK8 => ?_
    refine CW.regionM1 42 (.bool (decide (at0 = 0 ∧ how.tmod 3 = 1))) ?_ ?_
    · refine RL.q (Y.move rfl) rfl ?_
      refine RL.qs (Y.eql rfl rfl) rfl (fun g37 => ?_) (fun g37 => ?_)
      · refine RL.q (Y.move rfl) rfl ?_
        refine RL.qg ⟨_, _, rfl, rfl, rfl⟩ (Y.move rfl) rfl ?_
        refine RL.qg ⟨_, _, rfl, rfl, rfl⟩ (Y.rem rfl rfl (by omega)) rfl ?_
        refine RL.qg ⟨_, _, rfl, rfl, rfl⟩ (Y.eql rfl rfl) rfl ?_
        refine RL.q (Y.pickT rfl rfl) rfl ?_
        refine RL.nil ?_
        exact ⟨gl rfl (by first | exact vb ⟨fun e => ⟨g37, e⟩, fun e => e.2⟩ | exact vbF (fun e => g37 e.1)), (by repeat (first | exact Keep.nil _ | refine Keep.cons _ rfl ?_)), fun _ hw => hw.sub (by repeat (first | exact List.Sublist.refl _ | apply List.Sublist.cons_cons | apply List.Sublist.cons))⟩
      · refine RL.q (Y.move rfl) rfl ?_
        refine RL.no ⟨_, _, rfl, rfl, rfl⟩ rfl ?_
        refine RL.no ⟨_, _, rfl, rfl, rfl⟩ rfl ?_
        refine RL.no ⟨_, _, rfl, rfl, rfl⟩ rfl ?_
        refine RL.q (Y.pickF rfl rfl) rfl ?_
        refine RL.nil ?_
        exact ⟨gl rfl (by first | exact vb ⟨fun e => ⟨g37, e⟩, fun e => e.2⟩ | exact vbF (fun e => g37 e.1)), (by repeat (first | exact Keep.nil _ | refine Keep.cons _ rfl ?_)), fun _ hw => hw.sub (by repeat (first | exact List.Sublist.refl _ | apply List.Sublist.cons_cons | apply List.Sublist.cons))⟩
    refine hK8 _ _ _ ?_
    refine CW.ite rfl (fun h2 => ?_) (fun h2 => ?_)
    · refine CW.seq fun K9 hK9 => ?_
      refine CW.region ?_
      refine RL.q (Y.move rfl) rfl ?_
      first | refine RL.q (Y.loadAggV [_, _, _] rfl (by repeat (first | exact List.Mem.head _ | apply List.Mem.tail)) (by repeat (first | exact List.Mem.head _ | apply List.Mem.tail)) (by rfl) agg24) rfl ?_ | refine RL.q (Y.loadAll rfl (by repeat (first | exact List.Mem.head _ | apply List.Mem.tail)) (by rfl) agg24) rfl ?_
      refine RL.call rfl func33 rfl rfl (content_ok _ _ _ w id (by unfold InI; omega)) ?_
      rintro _ M3 _ ⟨hs6, rfl, us45, rfl, hur45⟩
      have hul45 : us45.length = 15 := hur45.1.trans (Ex.enc_len _)
      refine RL.alloc _ zero31 rfl rfl fun b13 => ?_
      refine RL.storeAgg us45 rfl rfl (by repeat (first | exact Repl.here _ | apply Repl.there)) (by simp [hul45]) (by simp [hul45]) (fun _ _ => hur45.one) (by rw [hul45]; exact size31) ?_
      refine RL.nil ?_
      refine hK9 _ _ _ ?_
      refine CW.keep (Keep.cons 3 rfl (Keep.cons 5 rfl (Keep.cons 10 rfl (Keep.cons 13 rfl (Keep.nil _))))) ?_
      refine CW.seq fun K10 hK10 => ?_
      refine CW.region ?_
      refine RL.q (Y.move rfl) rfl ?_
      refine RL.q (Y.field rfl field31_5) rfl ?_
      refine RL.q (Y.loadOwn rfl (by repeat (first | exact List.Mem.head _ | apply List.Mem.tail)) h13 flat28) rfl ?_
      refine RL.q (Y.len rfl Try.underlying28) rfl ?_
      refine RL.q (Y.add rfl rfl (by omega)) rfl ?_
      refine RL.q (Y.rem rfl rfl (by omega)) rfl ?_
      refine RL.q (Y.assign rfl) rfl ?_
      refine RL.nil ?_
      refine hK10 _ _ _ ?_
      refine CW.keep (Keep.cons 3 rfl (Keep.cons 5 rfl (Keep.cons 10 rfl (Keep.cons 13 rfl (Keep.cons 14 rfl (Keep.nil _)))))) ?_
      rw [← hf1]
      refine CW.seq fun K11 hK11 => ?_
      refine CW.region ?_
      refine RL.q (Y.move rfl) rfl ?_
      refine RL.q (Y.move rfl) rfl ?_
      refine RL.q (Y.quo rfl rfl (by omega) (by rw [Int.tdiv_eq_ediv_of_nonneg hw.1]; omega)) rfl ?_
      refine RL.q (Y.field rfl field31_5) rfl ?_
      refine RL.q (Y.loadOwn rfl (by repeat (first | exact List.Mem.head _ | apply List.Mem.tail)) h13 flat28) rfl ?_
      refine RL.q (Y.len rfl Try.underlying28) rfl ?_
      refine RL.q (Y.move rfl) rfl ?_
      refine RL.q (Y.sub rfl rfl (by omega)) rfl ?_
      refine RL.q (Y.add rfl rfl (by omega)) rfl ?_
      refine RL.q (Y.rem rfl rfl (by omega)) rfl ?_
      refine RL.q (Y.add rfl rfl (by omega)) rfl ?_
      refine RL.q (Y.assign rfl) rfl ?_
      refine RL.nil ?_
      refine hK11 _ _ _ ?_
      refine CW.keep (Keep.cons 5 rfl (Keep.cons 10 rfl (Keep.cons 13 rfl (Keep.cons 14 rfl (Keep.cons 15 rfl (Keep.nil _)))))) ?_
      rw [← ht1]
      refine CW.seq fun K12 hK12 => ?_
      refine CW.region ?_
      refine RL.buildSlice [] elem28 rfl (by decide) fill0 rfl fun b63 => ?_
      refine RL.q (Y.field rfl field31_5) rfl ?_
      refine RL.q (Y.loadOwn rfl (by repeat (first | exact List.Mem.head _ | apply List.Mem.tail)) h13 flat28) rfl ?_
      refine RL.q (Y.move rfl) rfl ?_
      refine RL.q (Y.move rfl) rfl ?_
      refine RL.q (Y.slice (frmN w e.kids.length) (toN w e.kids.length) c13 rfl ⟨_, rfl, (by omega)⟩ ⟨_, rfl, (by omega)⟩ rfl (by simp) (by omega) (by omega) (by omega) slice28) rfl ?_
      refine RL.ownAcc (b := b63) (k := 0) (e := 31) (sz := 15) (us := []) (by repeat (first | exact Pick.here _ | apply Pick.there)) rfl (by unfold maxLen; omega) ?_
      refine RL.addRd (Rd.cut (Rd.mono hs6 _ _ hk13) (frmN w e.kids.length) (toN w e.kids.length) c13 (by omega) (by omega) (by omega) (by omega)) ?_
      refine RL.appendRd elem28 rfl rfl (by repeat (first | exact Pick.here _ | apply Pick.there)) (by repeat (first | exact List.Mem.head _ | apply List.Mem.tail)) (by first | omega | (unfold lim; omega)) (by first | omega | (unfold lim; omega)) rfl fun a69 c69 n69 hc69 hn69 => ?_
      refine RL.q (Y.field rfl field31_5) rfl ?_
      refine RL.store _ rfl rfl (by repeat (first | exact Repl.here _ | apply Repl.there)) (by rfl) (by simp [hul45]) (by rfl) size28 ?_
      refine RL.nil ?_
      refine hK12 _ _ _ ?_
      refine CW.keep (Keep.cons 5 rfl (Keep.cons 10 rfl (Keep.cons 13 rfl (Keep.cons 14 rfl (Keep.cons 15 rfl (Keep.nil _)))))) ?_
      refine CW.sealAcc (u := .slice a69 _ c69) (by repeat (first | exact Pick.here _ | apply Pick.there)) (show RdL _ _ ([] ++ n69) from hn69) (by unfold lim; omega) ?_
      intro M4 a9 c9 hs4 h9 hc9 hr9
      cases h9
      rw [cut_mid _ _ _ ⟨ht2, ht3⟩] at hr9
      have hr46 : RdL M4 (setKids (contentE w id) (midKids w e.kids)).enc (us45.set 13 (.slice a69 (0 + ((toN w e.kids.length) - (frmN w e.kids.length))) c69)) := by rw [setKids_enc]; exact (hur45.mono hs4).set 13 hr9
      have hul46 : (us45.set 13 (.slice a69 (0 + ((toN w e.kids.length) - (frmN w e.kids.length))) c69)).length = 15 := by simp [hul45]
      generalize us45.set 13 (.slice a69 (0 + ((toN w e.kids.length) - (frmN w e.kids.length))) c69) = us46 at *
      refine CW.seq fun K13 hK13 => ?_
      refine CW.region ?_
      refine RL.buildSlice [] elem28 rfl (by decide) fill0 rfl fun b71 => ?_
      refine RL.q (Y.field rfl field31_5) rfl ?_
      refine RL.q (Y.loadOwn rfl (by repeat (first | exact List.Mem.head _ | apply List.Mem.tail)) h13 flat28) rfl ?_
      refine RL.q (Y.move rfl) rfl ?_
      refine RL.q (Y.slice 0 (frmN w e.kids.length) c13 rfl rfl ⟨_, rfl, (by omega)⟩ rfl (by simp) (by omega) (by omega) (by omega) slice28) rfl ?_
      refine RL.ownAcc (b := b71) (k := 0) (e := 31) (sz := 15) (us := []) (by repeat (first | exact Pick.here _ | apply Pick.there)) rfl (by unfold maxLen; omega) ?_
      refine RL.addRd (Rd.cut (Rd.mono (hs6.trans hs4) _ _ hk13) 0 (frmN w e.kids.length) c13 (by omega) (by omega) (by omega) (by omega)) ?_
      refine RL.appendRd elem28 rfl rfl (by repeat (first | exact Pick.here _ | apply Pick.there)) (by repeat (first | exact List.Mem.head _ | apply List.Mem.tail)) (by first | omega | (unfold lim; omega)) (by first | omega | (unfold lim; omega)) rfl fun a76 c76 n76 hc76 hn76 => ?_
      refine RL.q (Y.assign rfl) rfl ?_
      refine RL.nil ?_
      refine hK13 _ _ _ ?_
      refine CW.keep (Keep.cons 5 rfl (Keep.cons 10 rfl (Keep.cons 13 rfl (Keep.cons 15 rfl (Keep.cons 16 rfl (Keep.nil _)))))) ?_
      refine CW.seq fun K14 hK14 => ?_
      refine CW.region ?_
      refine RL.q (Y.move rfl) rfl ?_
      refine RL.q (Y.loadAll rfl (by repeat (first | exact List.Mem.head _ | apply List.Mem.tail)) hul46 agg31) rfl ?_
      refine RL.buildSlice _ elem28 rfl (by decide) (fill1 rfl (by exact hul46)) rfl fun b79 => ?_
      refine RL.append elem28 rfl rfl (by repeat (first | exact Pick.here _ | apply Pick.there)) (SrcOk.own (by repeat (first | exact List.Mem.head _ | apply List.Mem.tail)) (by exact hul46) hr46.one) (by first | omega | (unfold lim; omega)) (by first | omega | (unfold lim; omega)) rfl fun a80 c80 hc80 => ?_
      refine RL.q (Y.assign rfl) rfl ?_
      refine RL.nil ?_
      refine hK14 _ _ _ ?_
      refine CW.keep (Keep.cons 5 rfl (Keep.cons 10 rfl (Keep.cons 15 rfl (Keep.cons 16 rfl (Keep.nil _))))) ?_
      refine CW.seq fun K15 hK15 => ?_
      refine CW.region ?_
      refine RL.q (Y.move rfl) rfl ?_
      refine RL.q (Y.field rfl field31_5) rfl ?_
      refine RL.q (Y.loadOwn rfl (by repeat (first | exact List.Mem.head _ | apply List.Mem.tail)) h13 flat28) rfl ?_
      refine RL.q (Y.move rfl) rfl ?_
      refine RL.q (Y.slice (toN w e.kids.length) e.kids.length c13 rfl ⟨_, rfl, (by omega)⟩ rfl rfl (by simp) (by omega) (by omega) (by omega) slice28) rfl ?_
      refine RL.addRd (Rd.cut (Rd.mono (hs6.trans hs4) _ _ hk13) (toN w e.kids.length) e.kids.length c13 (by omega) (by omega) (by omega) (by omega)) ?_
      refine RL.appendRd elem28 rfl rfl (by repeat (first | exact Pick.here _ | apply Pick.there)) (by repeat (first | exact List.Mem.head _ | apply List.Mem.tail)) (by first | omega | (unfold lim; omega)) (by first | omega | (unfold lim; omega)) rfl fun a86 c86 n86 hc86 hn86 => ?_
      refine RL.q (Y.field rfl field31_5) rfl ?_
      refine RL.store _ rfl rfl (by repeat (first | exact Repl.here _ | apply Repl.there)) (by rfl) (by simp [hvl]) (by rfl) size28 ?_
      refine RL.nil ?_
      refine hK15 _ _ _ ?_
      refine CW.keep (Keep.cons 5 rfl (Keep.cons 10 rfl (Keep.nil _))) ?_
      have hln := insKids_len hw.1 id e.kids
      rw [show 0 + ((frmN w e.kids.length) - 0) + 1 + (e.kids.length - (toN w e.kids.length)) = (insKids w id e.kids).length from by omega]
      refine CW.sealAcc (u := .slice a86 _ c86) (ds := (insKids w id e.kids).flatMap Ex.enc) (by repeat (first | exact Pick.here _ | apply Pick.there)) (by rw [insKids, List.flatMap_append, List.flatMap_append, List.flatMap_cons, List.flatMap_nil, List.append_nil]; exact ((show RdL _ _ ([] ++ n76) from by rw [← cut_to]; exact hn76).append hr46).append (by rw [← cut_from]; exact hn86)) (by unfold lim; omega) ?_
      intro M5 a10 c10 hs5 h10 hc10 hr10
      cases h10
      have hr5 : RdL M5 (setKids e (insKids w id e.kids)).enc (vs.set 13 (.slice a86 (insKids w id e.kids).length c86)) := by rw [setKids_enc]; exact (hvs0.mono (hs6.trans (hs4.trans hs5))).set 13 hr10
      have hul5 : (vs.set 13 (.slice a86 (insKids w id e.kids).length c86)).length = 15 := by simp [hvl]
      generalize vs.set 13 (.slice a86 (insKids w id e.kids).length c86) = us5 at *
      refine CW.seq fun K16 hK16 => ?_
      refine CW.region ?_
      refine RL.q (Y.loadAll rfl (by repeat (first | exact List.Mem.head _ | apply List.Mem.tail)) hul5 agg31) rfl ?_
      refine RL.storeAgg us5 rfl rfl (by repeat (first | exact Repl.here _ | apply Repl.there)) (by simp [hul5]) (by simp [hul5]) (fun _ _ => hr5.one) (by rw [hul5]; exact size31) ?_
      refine RL.q (Y.assign rfl) rfl ?_
      refine RL.nil ?_
      refine hK16 _ _ _ ?_
      refine CW.keep (Keep.cons 10 rfl (Keep.cons 11 rfl (Keep.nil _))) ?_
      refine CW.ret ?_
      refine ⟨_, rfl, ?_⟩
      exact CellAt.mk rfl (by repeat (first | exact List.Mem.head _ | apply List.Mem.tail)) hul5 agg31 (Turn.drop ⟨hs6.trans (hs4.trans hs5), rfl, us5, by rw [edE_eq, if_neg h1, if_pos h2], by rw [edE_eq, if_neg h1, if_pos h2]; exact hr5⟩ (by repeat (first | exact List.Sublist.refl _ | apply List.Sublist.cons_cons | apply List.Sublist.cons)))
    · refine CW.skip ?_
      refine hK7 _ _ _ ?_
      refine CW.seq fun K17 hK17 => ?_
      refine CW.region ?_
      refine RL.q (Y.assign rfl) rfl ?_
      refine RL.nil ?_
      refine hK17 _ _ _ ?_
      refine CW.keep (Keep.cons 1 rfl (Keep.cons 2 rfl (Keep.cons 3 rfl (Keep.cons 5 rfl (Keep.cons 9 rfl (Keep.cons 10 rfl (Keep.cons 17 rfl (Keep.nil _)))))))) ?_
      refine CW.seq fun K18 hK18 => ?_
      refine CW.region ?_
      refine RL.q (Y.move rfl) rfl ?_
      refine RL.q (Y.sub rfl rfl (by omega)) rfl ?_
      refine RL.q (Y.assign rfl) rfl ?_
      refine RL.nil ?_
      refine hK18 _ _ _ ?_
      refine CW.keep (Keep.cons 1 rfl (Keep.cons 2 rfl (Keep.cons 3 rfl (Keep.cons 5 rfl (Keep.cons 9 rfl (Keep.cons 10 rfl (Keep.cons 17 rfl (Keep.nil _)))))))) ?_
      refine CW.seq fun K19 hK19 => ?_
      refine CW.seq fun K20 hK20 => ?_
      refine CW.region ?_
      refine RL.q (Y.assign rfl) rfl ?_
      refine RL.nil ?_
      refine hK20 _ _ _ ?_
      refine CW.keep (Keep.cons 1 rfl (Keep.cons 2 rfl (Keep.cons 3 rfl (Keep.cons 5 rfl (Keep.cons 9 rfl (Keep.cons 10 rfl (Keep.cons 17 rfl (Keep.cons 18 rfl (Keep.nil _))))))))) ?_
      refine CW.block ?_
      -- LOOP 1: live [1, 2, 3, 5, 9, 10, 17, 18] changed [1, 17, 18]
      refine CW.keep (Keep.cons 1 rfl (Keep.cons 17 rfl (Keep.cons 18 rfl (Keep.cons 2 rfl (Keep.cons 3 rfl (Keep.cons 5 rfl (Keep.cons 9 rfl (Keep.cons 10 rfl (Keep.nil _))))))))) ?_
      refine CW.accNil 31 15 ?_
      refine CW.loopF (fun mm Lc M1 Γc => ∃ (i : Nat) (a17 : Option Addr) (c17 : Nat) (us17 : List Value), mm = e.kids.length - i ∧ i ≤ e.kids.length ∧ Lc = [(1, vint (edK how w id (e.kids.take i) (at0 - 1)).2), (17, .slice a17 (edK how w id (e.kids.take i) (at0 - 1)).1.length c17), (18, vint i)] ∧ Γc = [.acc (.slice a17 (edK how w id (e.kids.take i) (at0 - 1)).1.length c17) 31 15 (edK how w id (e.kids.take i) (at0 - 1)).1.length us17] ∧ RdL M1 ((edK how w id (e.kids.take i) (at0 - 1)).1.flatMap Ex.enc) us17) e.kids.length [(1, _), (17, _), (18, _)] [.acc (.slice none 0 0) 31 15 0 []] rfl rfl ⟨0, none, 0, [], rfl, Nat.zero_le _, by rw [List.take_zero, edK]; rfl, by rw [List.take_zero, edK]; rfl, by rw [List.take_zero, edK]; exact RdL.nil _⟩ ?_
      rintro mm Lc M1 Γc hsub ⟨i, a17, c17, us17, rfl, hi, rfl, rfl, hus17⟩
      have hbd := edK_bd how w id (e.kids.take i) (at0 - 1) (by omega)
      have hln := edK_len how w hw.1 id e i (at0 - 1)
      generalize hq : edK how w id (e.kids.take i) (at0 - 1) = q at *
      refine CW.seq fun K21 hK21 => ?_
      refine CW.seq fun K22 hK22 => ?_
      refine CW.region ?_
      refine RL.q (Y.move rfl) rfl ?_
      refine RL.q (Y.field rfl field31_5) rfl ?_
      refine RL.q (Y.loadOwn rfl (by repeat (first | exact List.Mem.head _ | apply List.Mem.tail)) h13 flat28) rfl ?_
      refine RL.q (Y.len rfl Try.underlying28) rfl ?_
      refine RL.q (Y.lss rfl rfl) rfl ?_
      refine RL.nil ?_
      refine hK22 _ _ _ ?_
      refine CW.keep (Keep.cons 1 rfl (Keep.cons 2 rfl (Keep.cons 3 rfl (Keep.cons 5 rfl (Keep.cons 9 rfl (Keep.cons 10 rfl (Keep.cons 17 rfl (Keep.cons 18 rfl (Keep.cons 95 rfl (Keep.nil _)))))))))) ?_
      refine CW.ite rfl (fun h3 => ?_) (fun h3 => ?_)
      · have hia : i < e.kids.length := by omega
        refine CW.skip ?_
        refine hK21 _ _ _ ?_
        refine CW.seq fun K23 hK23 => ?_
        refine CW.block ?_
        refine CW.seq fun K24 hK24 => ?_
        refine CW.seq fun K25 hK25 => ?_
        refine CW.regionM1 104 (.bool (decide (q.2 = 0 ∧ how.tmod 3 = 2))) ?_ ?_
        · refine RL.q (Y.move rfl) rfl ?_
          refine RL.qs (Y.eql rfl rfl) rfl (fun g99 => ?_) (fun g99 => ?_)
          · refine RL.q (Y.move rfl) rfl ?_
            refine RL.qg ⟨_, _, rfl, rfl, rfl⟩ (Y.move rfl) rfl ?_
            refine RL.qg ⟨_, _, rfl, rfl, rfl⟩ (Y.rem rfl rfl (by omega)) rfl ?_
            refine RL.qg ⟨_, _, rfl, rfl, rfl⟩ (Y.eql rfl rfl) rfl ?_
            refine RL.q (Y.pickT rfl rfl) rfl ?_
            refine RL.nil ?_
            exact ⟨gl rfl (by first | exact vb ⟨fun e => ⟨g99, e⟩, fun e => e.2⟩ | exact vbF (fun e => g99 e.1)), (by repeat (first | exact Keep.nil _ | refine Keep.cons _ rfl ?_)), fun _ hw => hw.sub (by repeat (first | exact List.Sublist.refl _ | apply List.Sublist.cons_cons | apply List.Sublist.cons))⟩
          · refine RL.q (Y.move rfl) rfl ?_
            refine RL.no ⟨_, _, rfl, rfl, rfl⟩ rfl ?_
            refine RL.no ⟨_, _, rfl, rfl, rfl⟩ rfl ?_
            refine RL.no ⟨_, _, rfl, rfl, rfl⟩ rfl ?_
            refine RL.q (Y.pickF rfl rfl) rfl ?_
            refine RL.nil ?_
            exact ⟨gl rfl (by first | exact vb ⟨fun e => ⟨g99, e⟩, fun e => e.2⟩ | exact vbF (fun e => g99 e.1)), (by repeat (first | exact Keep.nil _ | refine Keep.cons _ rfl ?_)), fun _ hw => hw.sub (by repeat (first | exact List.Sublist.refl _ | apply List.Sublist.cons_cons | apply List.Sublist.cons))⟩
        refine hK25 _ _ _ ?_
        refine CW.ite rfl (fun h4 => ?_) (fun h4 => ?_)
        · have hkl := len_sizes e.kids[i].kids
          have hks := Ex.size_eq e.kids[i]
          have hkk := kids_size (List.getElem_mem hia)
          refine CW.seq fun K26 hK26 => ?_
          refine CW.addRd (Rd.mono hsub _ _ hk13) ?_
          refine CW.region ?_
          refine RL.q (Y.move rfl) rfl ?_
          refine RL.q (Y.field rfl field31_5) rfl ?_
          refine RL.q (Y.loadOwn rfl (by repeat (first | exact List.Mem.head _ | apply List.Mem.tail)) h13 flat28) rfl ?_
          refine RL.q (Y.move rfl) rfl ?_
          refine RL.q (Y.indexP i rfl rfl rfl hia slice28 (Rd.mono hsub _ _ hk13)) rfl ?_
          refine RL.q (Y.field rfl field31_5) rfl ?_
          refine RL.loadSl rfl rfl (by repeat (first | exact List.Mem.head _ | apply List.Mem.tail)) (kid_kids hia) flat28 rfl fun a111 c111 hc111 hl111 => ?_
          refine RL.appendRd elem28 rfl rfl (by repeat (first | exact Pick.here _ | apply Pick.there)) (by repeat (first | exact List.Mem.head _ | apply List.Mem.tail)) (by first | omega | (unfold lim; omega)) (by first | omega | (unfold lim; omega)) rfl fun a112 c112 n112 hc112 hn112 => ?_
          refine RL.q (Y.assign rfl) rfl ?_
          refine RL.nil ?_
          refine hK26 _ _ _ ?_
          refine CW.keep (Keep.cons 2 rfl (Keep.cons 3 rfl (Keep.cons 5 rfl (Keep.cons 9 rfl (Keep.cons 10 rfl (Keep.cons 17 rfl (Keep.cons 18 rfl (Keep.nil _)))))))) ?_
          refine CW.seq fun K27 hK27 => ?_
          refine CW.region ?_
          refine RL.q (Y.assign rfl) rfl ?_
          refine RL.nil ?_
          refine hK27 _ _ _ ?_
          refine CW.keep (Keep.cons 1 rfl (Keep.cons 2 rfl (Keep.cons 3 rfl (Keep.cons 5 rfl (Keep.cons 9 rfl (Keep.cons 10 rfl (Keep.cons 17 rfl (Keep.cons 18 rfl (Keep.nil _))))))))) ?_
          refine CW.exit ?_
          refine hK23 _ _ _ ?_
          refine CW.region ?_
          refine RL.q (Y.move rfl) rfl ?_
          refine RL.q (Y.add rfl rfl (by omega)) rfl ?_
          refine RL.q (Y.assign rfl) rfl ?_
          refine RL.nil ?_
          have hq1 : edK how w id (e.kids.take (i + 1)) (at0 - 1) = (q.1 ++ e.kids[i].kids, -1) := by rw [edK_step how w id e.kids _ hia, hq, edK_del h4]
          refine ⟨e.kids.length - (i + 1), [(1, _), (17, _), (18, _)], ?_, (Keep.cons 1 rfl (Keep.cons 17 rfl (Keep.cons 18 rfl (Keep.cons 2 rfl (Keep.cons 3 rfl (Keep.cons 5 rfl (Keep.cons 9 rfl (Keep.cons 10 rfl (Keep.nil _))))))))), ?_⟩
          · omega
          · exact Turn.drop ⟨[.acc (.slice a112 _ c112) 31 15 _ (us17 ++ n112)], rfl, hsub, i + 1, a112, c112, _, rfl, by omega, by first | (rw [hq1, List.length_append]; done) | (rw [hq1, List.length_append]; rfl), by first | (rw [hq1, List.length_append]; done) | (rw [hq1, List.length_append]; rfl), by rw [hq1, List.flatMap_append]; exact hus17.append hn112⟩ (by repeat (first | exact List.Sublist.refl _ | apply List.Sublist.cons_cons | apply List.Sublist.cons))
        · refine CW.skip ?_
          refine hK24 _ _ _ ?_
          refine CW.seq fun K28 hK28 => ?_
          refine CW.seq fun K29 hK29 => ?_
          refine CW.region ?_
          refine RL.q (Y.move rfl) rfl ?_
          refine RL.q (Y.lss rfl rfl) rfl ?_
          refine RL.nil ?_
          refine hK29 _ _ _ ?_
          refine CW.keep (Keep.cons 1 rfl (Keep.cons 2 rfl (Keep.cons 3 rfl (Keep.cons 5 rfl (Keep.cons 9 rfl (Keep.cons 10 rfl (Keep.cons 17 rfl (Keep.cons 18 rfl (Keep.cons 114 rfl (Keep.nil _)))))))))) ?_
          refine CW.ite rfl (fun h5 => ?_) (fun h5 => ?_)
          · refine CW.seq fun K30 hK30 => ?_
            refine CW.addRd (Rd.mono hsub _ _ hk13) ?_
            refine CW.region ?_
            refine RL.q (Y.move rfl) rfl ?_
            refine RL.q (Y.field rfl field31_5) rfl ?_
            refine RL.q (Y.loadOwn rfl (by repeat (first | exact List.Mem.head _ | apply List.Mem.tail)) h13 flat28) rfl ?_
            refine RL.q (Y.move rfl) rfl ?_
            refine RL.q (Y.indexP i rfl rfl rfl hia slice28 (Rd.mono hsub _ _ hk13)) rfl ?_
            refine RL.loadAgg rfl rfl (by repeat (first | exact List.Mem.head _ | apply List.Mem.tail)) (flat_take Ex.enc_len _ i _ (List.getElem?_eq_getElem hia)) (by first | rfl | exact Ex.enc_len _ | exact Ty.enc_len _ | exact MNode.enc_len _ | exact RNode.enc_len _) agg31 rfl fun us120 hul120 hur120 => ?_
            refine RL.buildSlice _ elem28 rfl (by decide) (fill1 rfl (by exact hul120)) rfl fun b121 => ?_
            refine RL.append elem28 rfl rfl (by repeat (first | exact Pick.here _ | apply Pick.there)) (SrcOk.own (by repeat (first | exact List.Mem.head _ | apply List.Mem.tail)) (by exact hul120) hur120.one) (by first | omega | (unfold lim; omega)) (by first | omega | (unfold lim; omega)) rfl fun a122 c122 hc122 => ?_
            refine RL.q (Y.assign rfl) rfl ?_
            refine RL.nil ?_
            refine hK30 _ _ _ ?_
            refine CW.keep (Keep.cons 1 rfl (Keep.cons 2 rfl (Keep.cons 3 rfl (Keep.cons 5 rfl (Keep.cons 9 rfl (Keep.cons 10 rfl (Keep.cons 17 rfl (Keep.cons 18 rfl (Keep.nil _))))))))) ?_
            refine CW.exit ?_
            refine hK23 _ _ _ ?_
            refine CW.region ?_
            refine RL.q (Y.move rfl) rfl ?_
            refine RL.q (Y.add rfl rfl (by omega)) rfl ?_
            refine RL.q (Y.assign rfl) rfl ?_
            refine RL.nil ?_
            have hq1 : edK how w id (e.kids.take (i + 1)) (at0 - 1) = (q.1 ++ [e.kids[i]], q.2) := by rw [edK_step how w id e.kids _ hia, hq, edK_same h4 h5]
            refine ⟨e.kids.length - (i + 1), [(1, _), (17, _), (18, _)], ?_, (Keep.cons 1 rfl (Keep.cons 17 rfl (Keep.cons 18 rfl (Keep.cons 2 rfl (Keep.cons 3 rfl (Keep.cons 5 rfl (Keep.cons 9 rfl (Keep.cons 10 rfl (Keep.nil _))))))))), ?_⟩
            · omega
            · exact Turn.drop ⟨[.acc (.slice a122 _ c122) 31 15 _ (us17 ++ us120)], rfl, hsub, i + 1, a122, c122, _, rfl, by omega, by first | (rw [hq1, List.length_append]; done) | (rw [hq1, List.length_append]; rfl), by first | (rw [hq1, List.length_append]; done) | (rw [hq1, List.length_append]; rfl), by rw [hq1, List.flatMap_append]; exact hus17.append (by rw [List.flatMap_cons, List.flatMap_nil, List.append_nil]; exact hur120)⟩ (by repeat (first | exact List.Sublist.refl _ | apply List.Sublist.cons_cons | apply List.Sublist.cons))
          · refine CW.skip ?_
            refine hK28 _ _ _ ?_
            refine CW.seq fun K31 hK31 => ?_
            refine CW.addRd (Rd.mono hsub _ _ hk13) ?_
            refine CW.regionH mix _ _ (fun _ hw => hw) ?_
            refine HL.take 0 rfl (by kernel_rfl) (by kernel_rfl) (by kernel_rfl) rfl (Y.field rfl field31_5) rfl ?_
            refine HL.take 1 rfl (by kernel_rfl) (by kernel_rfl) (by kernel_rfl) rfl (Y.loadOwn rfl (by repeat (first | exact List.Mem.head _ | apply List.Mem.tail)) h13 flat28) rfl ?_
            refine HL.take 2 rfl (by kernel_rfl) (by kernel_rfl) (by kernel_rfl) rfl (Y.move rfl) rfl ?_
            refine HL.take 3 rfl (by kernel_rfl) (by kernel_rfl) (by kernel_rfl) rfl (Y.indexP i rfl rfl rfl hia slice28 (Rd.mono hsub _ _ hk13)) rfl ?_
            refine HL.loadAgg 4 rfl (by kernel_rfl) (by kernel_rfl) (by kernel_rfl) rfl rfl (by repeat (first | exact List.Mem.head _ | apply List.Mem.tail)) (flat_take Ex.enc_len _ i _ (List.getElem?_eq_getElem hia)) (by first | rfl | exact Ex.enc_len _ | exact Ty.enc_len _ | exact MNode.enc_len _ | exact RNode.enc_len _) agg31 rfl fun us128 hul128 hur128 => ?_
            refine HL.take 5 rfl (by kernel_rfl) (by kernel_rfl) (by kernel_rfl) rfl (Y.move rfl) rfl ?_
            refine HL.take 6 rfl (by kernel_rfl) (by kernel_rfl) (by kernel_rfl) rfl (Y.move rfl) rfl ?_
            refine HL.take 7 rfl (by kernel_rfl) (by kernel_rfl) (by kernel_rfl) rfl (Y.move rfl) rfl ?_
            first | refine HL.take 8 rfl (by kernel_rfl) (by kernel_rfl) (by kernel_rfl) rfl (Y.loadAggV [_, _, _] rfl (by repeat (first | exact List.Mem.head _ | apply List.Mem.tail)) (by repeat (first | exact List.Mem.head _ | apply List.Mem.tail)) (by rfl) agg24) rfl ?_ | refine HL.take 8 rfl (by kernel_rfl) (by kernel_rfl) (by kernel_rfl) rfl (Y.loadAll rfl (by repeat (first | exact List.Mem.head _ | apply List.Mem.tail)) (by rfl) agg24) rfl ?_
            refine HL.step2 9 13 rfl rfl (by kernel_rfl) ?_ ?_
            · refine RL.call rfl func49 rfl rfl (ih e.kids[i].size (by have := kids_size (List.getElem_mem hia); omega) _ _ _ e.kids[i] q.2 how w id us128 rfl (by have := kids_size (List.getElem_mem hia); omega) (by omega) hhow hw hur128) ?_
              rintro _ M9 _ ⟨hs9, rfl, us133, rfl, hur133⟩
              have hul133 : us133.length = 15 := hur133.1.trans (Ex.enc_len _)
              refine RL.nil ⟨keep_more hs9 (by repeat (first | exact List.Sublist.refl _ | exact List.nil_sublist _ | apply List.Sublist.cons_cons | apply List.Sublist.cons)), ?_⟩
              refine HL.take 10 rfl (by kernel_rfl) (by kernel_rfl) (by kernel_rfl) rfl (Y.move rfl) rfl ?_
              refine HL.take 11 rfl (by kernel_rfl) (by kernel_rfl) (by kernel_rfl) rfl (Y.extract rfl rfl) rfl ?_
              refine HL.take 12 rfl (by kernel_rfl) (by kernel_rfl) (by kernel_rfl) rfl (Y.extract rfl rfl) rfl ?_
              refine HL.step 13 rfl (by kernel_rfl) ?_
              refine RL.alloc _ zero31 rfl rfl fun b19 => ?_
              refine RL.nil ⟨(by first | exact keep_same (by repeat (first | exact List.Sublist.refl _ | exact List.nil_sublist _ | apply List.Sublist.cons_cons | apply List.Sublist.cons)) | exact keep_more hs9 (by repeat (first | exact List.Sublist.refl _ | exact List.nil_sublist _ | apply List.Sublist.cons_cons | apply List.Sublist.cons))), ?_⟩
              refine HL.step 14 rfl (by kernel_rfl) ?_
              refine RL.storeAgg us133 rfl rfl (by repeat (first | exact Repl.here _ | apply Repl.there)) (by simp [hul133]) (by simp [hul133]) (fun _ _ => hur133.one) (by rw [hul133]; exact size31) ?_
              refine RL.nil ⟨(by first | exact keep_same (by repeat (first | exact List.Sublist.refl _ | exact List.nil_sublist _ | apply List.Sublist.cons_cons | apply List.Sublist.cons)) | exact keep_more hs9 (by repeat (first | exact List.Sublist.refl _ | exact List.nil_sublist _ | apply List.Sublist.cons_cons | apply List.Sublist.cons))), ?_⟩
              refine HL.take 15 rfl (by kernel_rfl) (by kernel_rfl) (by kernel_rfl) rfl (Y.assign rfl) rfl ?_
              refine HL.done (by kernel_rfl) ?_
              refine hK31 _ _ _ ?_
              refine CW.keep (Keep.cons 2 rfl (Keep.cons 3 rfl (Keep.cons 5 rfl (Keep.cons 9 rfl (Keep.cons 10 rfl (Keep.cons 17 rfl (Keep.cons 18 rfl (Keep.cons 19 rfl (Keep.cons 20 rfl (Keep.nil _)))))))))) ?_
              refine CW.seq fun K32 hK32 => ?_
              refine CW.region ?_
              refine RL.q (Y.move rfl) rfl ?_
              refine RL.q (Y.assign rfl) rfl ?_
              refine RL.nil ?_
              refine hK32 _ _ _ ?_
              refine CW.keep (Keep.cons 1 rfl (Keep.cons 2 rfl (Keep.cons 3 rfl (Keep.cons 5 rfl (Keep.cons 9 rfl (Keep.cons 10 rfl (Keep.cons 17 rfl (Keep.cons 18 rfl (Keep.cons 19 rfl (Keep.nil _)))))))))) ?_
              refine CW.region ?_
              refine RL.q (Y.move rfl) rfl ?_
              refine RL.q (Y.loadAll rfl (by repeat (first | exact List.Mem.head _ | apply List.Mem.tail)) hul133 agg31) rfl ?_
              refine RL.buildSlice _ elem28 rfl (by decide) (fill1 rfl (by exact hul133)) rfl fun b139 => ?_
              refine RL.append elem28 rfl rfl (by repeat (first | exact Pick.here _ | apply Pick.there)) (SrcOk.own (by repeat (first | exact List.Mem.head _ | apply List.Mem.tail)) (by exact hul133) hur133.one) (by first | omega | (unfold lim; omega)) (by first | omega | (unfold lim; omega)) rfl fun a140 c140 hc140 => ?_
              refine RL.q (Y.assign rfl) rfl ?_
              refine RL.nil ?_
              refine hK23 _ _ _ ?_
              refine CW.keep (Keep.cons 1 rfl (Keep.cons 2 rfl (Keep.cons 3 rfl (Keep.cons 5 rfl (Keep.cons 9 rfl (Keep.cons 10 rfl (Keep.cons 17 rfl (Keep.cons 18 rfl (Keep.nil _))))))))) ?_
              refine CW.region ?_
              refine RL.q (Y.move rfl) rfl ?_
              refine RL.q (Y.add rfl rfl (by omega)) rfl ?_
              refine RL.q (Y.assign rfl) rfl ?_
              refine RL.nil ?_
              have hq1 : edK how w id (e.kids.take (i + 1)) (at0 - 1) = (q.1 ++ [(edE how w id e.kids[i] q.2).1], (edE how w id e.kids[i] q.2).2) := by rw [edK_step how w id e.kids _ hia, hq, edK_rec h4 h5]
              refine ⟨e.kids.length - (i + 1), [(1, _), (17, _), (18, _)], ?_, (Keep.cons 1 rfl (Keep.cons 17 rfl (Keep.cons 18 rfl (Keep.cons 2 rfl (Keep.cons 3 rfl (Keep.cons 5 rfl (Keep.cons 9 rfl (Keep.cons 10 rfl (Keep.nil _))))))))), ?_⟩
              · omega
              · exact Turn.drop ⟨[.acc (.slice a140 _ c140) 31 15 _ (us17 ++ us133)], rfl, hsub.trans hs9, i + 1, a140, c140, _, rfl, by omega, by first | (rw [hq1, List.length_append]; done) | (rw [hq1, List.length_append]; rfl), by first | (rw [hq1, List.length_append]; done) | (rw [hq1, List.length_append]; rfl), by rw [hq1, List.flatMap_append]; exact (hus17.mono hs9).append (by rw [List.flatMap_cons, List.flatMap_nil, List.append_nil]; exact hur133)⟩ (by repeat (first | exact List.Sublist.refl _ | apply List.Sublist.cons_cons | apply List.Sublist.cons))
            · refine RL.alloc _ zero31 rfl rfl fun b19 => ?_
              refine RL.nil ⟨(by first | exact keep_same (by repeat (first | exact List.Sublist.refl _ | exact List.nil_sublist _ | apply List.Sublist.cons_cons | apply List.Sublist.cons)) | exact keep_more hs9 (by repeat (first | exact List.Sublist.refl _ | exact List.nil_sublist _ | apply List.Sublist.cons_cons | apply List.Sublist.cons))), ?_⟩
              refine HL.step 9 rfl (by kernel_rfl) ?_
              refine RL.call rfl func49 rfl rfl (ih e.kids[i].size (by have := kids_size (List.getElem_mem hia); omega) _ _ _ e.kids[i] q.2 how w id us128 rfl (by have := kids_size (List.getElem_mem hia); omega) (by omega) hhow hw hur128) ?_
              rintro _ M9 _ ⟨hs9, rfl, us133, rfl, hur133⟩
              have hul133 : us133.length = 15 := hur133.1.trans (Ex.enc_len _)
              refine RL.nil ⟨keep_more hs9 (by repeat (first | exact List.Sublist.refl _ | exact List.nil_sublist _ | apply List.Sublist.cons_cons | apply List.Sublist.cons)), ?_⟩
              refine HL.take 10 rfl (by kernel_rfl) (by kernel_rfl) (by kernel_rfl) rfl (Y.move rfl) rfl ?_
              refine HL.take 11 rfl (by kernel_rfl) (by kernel_rfl) (by kernel_rfl) rfl (Y.extract rfl rfl) rfl ?_
              refine HL.take 12 rfl (by kernel_rfl) (by kernel_rfl) (by kernel_rfl) rfl (Y.extract rfl rfl) rfl ?_
              refine HL.step 14 rfl (by kernel_rfl) ?_
              refine RL.storeAgg us133 rfl rfl (by repeat (first | exact Repl.here _ | apply Repl.there)) (by simp [hul133]) (by simp [hul133]) (fun _ _ => hur133.one) (by rw [hul133]; exact size31) ?_
              refine RL.nil ⟨(by first | exact keep_same (by repeat (first | exact List.Sublist.refl _ | exact List.nil_sublist _ | apply List.Sublist.cons_cons | apply List.Sublist.cons)) | exact keep_more hs9 (by repeat (first | exact List.Sublist.refl _ | exact List.nil_sublist _ | apply List.Sublist.cons_cons | apply List.Sublist.cons))), ?_⟩
              refine HL.take 15 rfl (by kernel_rfl) (by kernel_rfl) (by kernel_rfl) rfl (Y.assign rfl) rfl ?_
              refine HL.done (by kernel_rfl) ?_
              refine hK31 _ _ _ ?_
              refine CW.keep (Keep.cons 2 rfl (Keep.cons 3 rfl (Keep.cons 5 rfl (Keep.cons 9 rfl (Keep.cons 10 rfl (Keep.cons 17 rfl (Keep.cons 18 rfl (Keep.cons 19 rfl (Keep.cons 20 rfl (Keep.nil _)))))))))) ?_
              refine CW.seq fun K33 hK33 => ?_
              refine CW.region ?_
              refine RL.q (Y.move rfl) rfl ?_
              refine RL.q (Y.assign rfl) rfl ?_
              refine RL.nil ?_
              refine hK33 _ _ _ ?_
              refine CW.keep (Keep.cons 1 rfl (Keep.cons 2 rfl (Keep.cons 3 rfl (Keep.cons 5 rfl (Keep.cons 9 rfl (Keep.cons 10 rfl (Keep.cons 17 rfl (Keep.cons 18 rfl (Keep.cons 19 rfl (Keep.nil _)))))))))) ?_
              refine CW.region ?_
              refine RL.q (Y.move rfl) rfl ?_
              refine RL.q (Y.loadAll rfl (by repeat (first | exact List.Mem.head _ | apply List.Mem.tail)) hul133 agg31) rfl ?_
              refine RL.buildSlice _ elem28 rfl (by decide) (fill1 rfl (by exact hul133)) rfl fun b139 => ?_
              refine RL.append elem28 rfl rfl (by repeat (first | exact Pick.here _ | apply Pick.there)) (SrcOk.own (by repeat (first | exact List.Mem.head _ | apply List.Mem.tail)) (by exact hul133) hur133.one) (by first | omega | (unfold lim; omega)) (by first | omega | (unfold lim; omega)) rfl fun a140 c140 hc140 => ?_
              refine RL.q (Y.assign rfl) rfl ?_
              refine RL.nil ?_
              refine hK23 _ _ _ ?_
              refine CW.keep (Keep.cons 1 rfl (Keep.cons 2 rfl (Keep.cons 3 rfl (Keep.cons 5 rfl (Keep.cons 9 rfl (Keep.cons 10 rfl (Keep.cons 17 rfl (Keep.cons 18 rfl (Keep.nil _))))))))) ?_
              refine CW.region ?_
              refine RL.q (Y.move rfl) rfl ?_
              refine RL.q (Y.add rfl rfl (by omega)) rfl ?_
              refine RL.q (Y.assign rfl) rfl ?_
              refine RL.nil ?_
              have hq1 : edK how w id (e.kids.take (i + 1)) (at0 - 1) = (q.1 ++ [(edE how w id e.kids[i] q.2).1], (edE how w id e.kids[i] q.2).2) := by rw [edK_step how w id e.kids _ hia, hq, edK_rec h4 h5]
              refine ⟨e.kids.length - (i + 1), [(1, _), (17, _), (18, _)], ?_, (Keep.cons 1 rfl (Keep.cons 17 rfl (Keep.cons 18 rfl (Keep.cons 2 rfl (Keep.cons 3 rfl (Keep.cons 5 rfl (Keep.cons 9 rfl (Keep.cons 10 rfl (Keep.nil _))))))))), ?_⟩
              · omega
              · exact Turn.drop ⟨[.acc (.slice a140 _ c140) 31 15 _ (us17 ++ us133)], rfl, hsub.trans hs9, i + 1, a140, c140, _, rfl, by omega, by first | (rw [hq1, List.length_append]; done) | (rw [hq1, List.length_append]; rfl), by first | (rw [hq1, List.length_append]; done) | (rw [hq1, List.length_append]; rfl), by rw [hq1, List.flatMap_append]; exact (hus17.mono hs9).append (by rw [List.flatMap_cons, List.flatMap_nil, List.append_nil]; exact hur133)⟩ (by repeat (first | exact List.Sublist.refl _ | apply List.Sublist.cons_cons | apply List.Sublist.cons))
      · refine CW.exit ?_
        refine hK19 _ _ _ ?_
        refine CW.seq fun K34 hK34 => ?_
        have hie : i = e.kids.length := by omega
        rw [hie, List.take_length] at hq
        refine CW.region ?_
        refine RL.q (Y.move rfl) rfl ?_
        refine RL.q (Y.field rfl field31_5) rfl ?_
        refine RL.store _ rfl rfl (by repeat (first | exact Repl.here _ | apply Repl.there)) (by rfl) (by simp [hvl]) (by rfl) size28 ?_
        refine RL.nil ?_
        refine hK34 _ _ _ ?_
        refine CW.keep (Keep.cons 1 rfl (Keep.cons 5 rfl (Keep.cons 10 rfl (Keep.nil _)))) ?_
        refine CW.sealAcc (u := .slice a17 _ c17) (ds := q.1.flatMap Ex.enc) (by repeat (first | exact Pick.here _ | apply Pick.there)) hus17 (by unfold lim; omega) ?_
        intro M5 a10 c10 hs5 h10 hc10 hr10
        cases h10
        have hr5 : RdL M5 (setKids e q.1).enc (vs.set 13 (.slice a17 q.1.length c17)) := by rw [setKids_enc]; exact (hvs0.mono (hsub.trans hs5)).set 13 hr10
        have hul5 : (vs.set 13 (.slice a17 q.1.length c17)).length = 15 := by simp [hvl]
        generalize vs.set 13 (.slice a17 q.1.length c17) = us5 at *
        refine CW.seq fun K35 hK35 => ?_
        refine CW.region ?_
        refine RL.q (Y.loadAll rfl (by repeat (first | exact List.Mem.head _ | apply List.Mem.tail)) hul5 agg31) rfl ?_
        refine RL.q (Y.move rfl) rfl ?_
        refine RL.storeAgg us5 rfl rfl (by repeat (first | exact Repl.here _ | apply Repl.there)) (by simp [hul5]) (by simp [hul5]) (fun _ _ => hr5.one) (by rw [hul5]; exact size31) ?_
        refine RL.q (Y.assign rfl) rfl ?_
        refine RL.nil ?_
        refine hK35 _ _ _ ?_
        refine CW.keep (Keep.cons 10 rfl (Keep.cons 11 rfl (Keep.nil _))) ?_
        refine CW.ret ?_
        refine ⟨_, rfl, ?_⟩
        exact CellAt.mk rfl (by repeat (first | exact List.Mem.head _ | apply List.Mem.tail)) hul5 agg31 (Turn.drop ⟨hsub.trans hs5, rfl, us5, by rw [edE_eq, if_neg h1, if_neg h2, hq], by rw [edE_eq, if_neg h1, if_neg h2, hq]; exact hr5⟩ (by repeat (first | exact List.Sublist.refl _ | apply List.Sublist.cons_cons | apply List.Sublist.cons)))

set_option maxHeartbeats 4000000 in
theorem edd_ok (w0 : World) (M : Mem) (Γ : List As) (e : Ex) (at0 how w : Int) (id : IdT) (vs : List Value) (hes : 1 ≤ e.size ∧ e.size ≤ 1000) (hat : InI at0) (hhi : InI how) (hwi : InI w) (hvs : RdL M e.enc vs) :
    CallOk Try.prog w0 M Γ 28 #[.agg vs.toArray, vint at0, vint how, vint w, .agg id.vals.toArray] (Gives M Γ fun M' v => ∃ us, v = .agg us.toArray ∧ RdL M' (edd e at0 how w id).enc us) := by
  have hvl : vs.length = 15 := hvs.1.trans (Ex.enc_len _)
  have h1 := around_lt at0 e.size (by omega)
  have h2 := around_lt how 3 (by omega)
  have h3 := around_lt w 10000 (by omega)
  refine enterCell (f := 28) Try.func28 rfl Try.ntmps28 rfl rfl fun w1 hw1 => ?_
  refine CW.seq fun K1 hK1 => ?_
  refine CW.region ?_
  refine RL.box vs rfl rfl rfl fun b5 => ?_
  refine RL.box id.vals rfl rfl rfl fun b9 => ?_
  refine RL.alloc _ zero31 rfl rfl fun b10 => ?_
  refine RL.nil ?_
  refine hK1 _ _ _ ?_
  refine CW.keep (Keep.cons 1 rfl (Keep.cons 2 rfl (Keep.cons 3 rfl (Keep.cons 5 rfl (Keep.cons 9 rfl (Keep.cons 10 rfl (Keep.nil _))))))) ?_
  refine CW.cut (fun L' M' Γ' => ∃ (b11 : Nat) (us : List Value), Keep L' [(10, .pointer (some (adr (some ⟨b10, 0, none⟩) 0))), (11, .pointer (some (adr (some ⟨b11, 0, none⟩) 0)))] ∧ Sub M M' ∧ RdL M' (edd e at0 how w id).enc us ∧ ∀ w, St w0 M' Γ' w → St w0 M' (.own b11 31 us :: .own b10 31 [vint 0, vint 0, vint 0, vint 0, vint 0, vint 0, vint 0, vint 0, vint 0, vint 0, vint 0, vint 0, .slice none 0 0, .slice none 0 0, .slice none 0 0] :: Γ) w) ?_ ?_
  · refine CW.regionH mix _ _ (fun _ hw => hw) ?_
    refine HL.take 0 rfl (by kernel_rfl) (by kernel_rfl) (by kernel_rfl) rfl (Y.loadAll rfl (by repeat (first | exact List.Mem.head _ | apply List.Mem.tail)) hvl agg31) rfl ?_
    refine HL.take 1 rfl (by kernel_rfl) (by kernel_rfl) (by kernel_rfl) rfl (Y.move rfl) rfl ?_
    refine HL.take 2 rfl (by kernel_rfl) (by kernel_rfl) (by kernel_rfl) rfl (Y.loadAll rfl (by repeat (first | exact List.Mem.head _ | apply List.Mem.tail)) hvl agg31) rfl ?_
    refine HL.take 5 rfl (by kernel_rfl) (by kernel_rfl) (by kernel_rfl) rfl (Y.move rfl) rfl ?_
    refine HL.take 7 rfl (by kernel_rfl) (by kernel_rfl) (by kernel_rfl) rfl (Y.move rfl) rfl ?_
    first | refine HL.take 9 rfl (by kernel_rfl) (by kernel_rfl) (by kernel_rfl) rfl (Y.loadAggV [_, _, _] rfl (by repeat (first | exact List.Mem.head _ | apply List.Mem.tail)) (by repeat (first | exact List.Mem.head _ | apply List.Mem.tail)) (by rfl) agg24) rfl ?_ | refine HL.take 9 rfl (by kernel_rfl) (by kernel_rfl) (by kernel_rfl) rfl (Y.loadAll rfl (by repeat (first | exact List.Mem.head _ | apply List.Mem.tail)) (by rfl) agg24) rfl ?_
    refine HL.step2 3 14 rfl rfl (by kernel_rfl) ?_ ?_
    · refine RL.callv rfl func20 rfl rfl (rsize_ok _ _ _ _ e vs rfl hvs (by omega)) ?_
      refine RL.nil ⟨(by first | exact keep_same (by repeat (first | exact List.Sublist.refl _ | exact List.nil_sublist _ | apply List.Sublist.cons_cons | apply List.Sublist.cons)) | exact keep_more hs9 (by repeat (first | exact List.Sublist.refl _ | exact List.nil_sublist _ | apply List.Sublist.cons_cons | apply List.Sublist.cons))), ?_⟩
      refine HL.step2 4 14 rfl rfl (by kernel_rfl) ?_ ?_
      · refine RL.callv rfl func12 rfl rfl (around_ok _ _ _ at0 e.size hat (by omega)) ?_
        refine RL.nil ⟨(by first | exact keep_same (by repeat (first | exact List.Sublist.refl _ | exact List.nil_sublist _ | apply List.Sublist.cons_cons | apply List.Sublist.cons)) | exact keep_more hs9 (by repeat (first | exact List.Sublist.refl _ | exact List.nil_sublist _ | apply List.Sublist.cons_cons | apply List.Sublist.cons))), ?_⟩
        refine HL.step2 6 14 rfl rfl (by kernel_rfl) ?_ ?_
        · refine RL.callv rfl func12 rfl rfl (around_ok _ _ _ how 3 hhi (by omega)) ?_
          refine RL.nil ⟨(by first | exact keep_same (by repeat (first | exact List.Sublist.refl _ | exact List.nil_sublist _ | apply List.Sublist.cons_cons | apply List.Sublist.cons)) | exact keep_more hs9 (by repeat (first | exact List.Sublist.refl _ | exact List.nil_sublist _ | apply List.Sublist.cons_cons | apply List.Sublist.cons))), ?_⟩
          refine HL.step2 8 14 rfl rfl (by kernel_rfl) ?_ ?_
          · refine RL.callv rfl func12 rfl rfl (around_ok _ _ _ w 10000 hwi (by omega)) ?_
            refine RL.nil ⟨(by first | exact keep_same (by repeat (first | exact List.Sublist.refl _ | exact List.nil_sublist _ | apply List.Sublist.cons_cons | apply List.Sublist.cons)) | exact keep_more hs9 (by repeat (first | exact List.Sublist.refl _ | exact List.nil_sublist _ | apply List.Sublist.cons_cons | apply List.Sublist.cons))), ?_⟩
            refine HL.step2 10 14 rfl rfl (by kernel_rfl) ?_ ?_
            · refine RL.call rfl func49 rfl rfl (edited_ok _ _ _ _ e (around at0 e.size) (around how 3) (around w 10000) id vs rfl (by omega) (by omega) (by omega) (by omega) hvs) ?_
              rintro _ M9 _ ⟨hs9, rfl, us24, rfl, hur24⟩
              have hul24 : us24.length = 15 := hur24.1.trans (Ex.enc_len _)
              refine RL.nil ⟨(by first | exact keep_same (by repeat (first | exact List.Sublist.refl _ | exact List.nil_sublist _ | apply List.Sublist.cons_cons | apply List.Sublist.cons)) | exact keep_more hs9 (by repeat (first | exact List.Sublist.refl _ | exact List.nil_sublist _ | apply List.Sublist.cons_cons | apply List.Sublist.cons))), ?_⟩
              refine HL.take 11 rfl (by kernel_rfl) (by kernel_rfl) (by kernel_rfl) rfl (Y.move rfl) rfl ?_
              refine HL.take 12 rfl (by kernel_rfl) (by kernel_rfl) (by kernel_rfl) rfl (Y.extract rfl rfl) rfl ?_
              refine HL.take 13 rfl (by kernel_rfl) (by kernel_rfl) (by kernel_rfl) rfl (Y.extract rfl rfl) rfl ?_
              refine HL.step 14 rfl (by kernel_rfl) ?_
              refine RL.alloc _ zero31 rfl rfl fun b11 => ?_
              refine RL.nil ⟨(by first | exact keep_same (by repeat (first | exact List.Sublist.refl _ | exact List.nil_sublist _ | apply List.Sublist.cons_cons | apply List.Sublist.cons)) | exact keep_more hs9 (by repeat (first | exact List.Sublist.refl _ | exact List.nil_sublist _ | apply List.Sublist.cons_cons | apply List.Sublist.cons))), ?_⟩
              refine HL.step 15 rfl (by kernel_rfl) ?_
              refine RL.storeAgg us24 rfl rfl (by repeat (first | exact Repl.here _ | apply Repl.there)) (by simp [hul24]) (by simp [hul24]) (fun _ _ => hur24.one) (by rw [hul24]; exact size31) ?_
              refine RL.nil ⟨(by first | exact keep_same (by repeat (first | exact List.Sublist.refl _ | exact List.nil_sublist _ | apply List.Sublist.cons_cons | apply List.Sublist.cons)) | exact keep_more hs9 (by repeat (first | exact List.Sublist.refl _ | exact List.nil_sublist _ | apply List.Sublist.cons_cons | apply List.Sublist.cons))), ?_⟩
              refine HL.take 16 rfl (by kernel_rfl) (by kernel_rfl) (by kernel_rfl) rfl (Y.assign rfl) rfl ?_
              refine HL.done (by kernel_rfl) ?_
              dsimp only [thenX]
              exact ⟨b11, us24, (by repeat (first | exact Keep.nil _ | refine Keep.cons _ rfl ?_)), hs9, hur24, fun _ hw => hw.sub (by repeat (first | exact List.Sublist.refl _ | exact List.nil_sublist _ | apply List.Sublist.cons_cons | apply List.Sublist.cons))⟩
            · refine RL.alloc _ zero31 rfl rfl fun b11 => ?_
              refine RL.nil ⟨(by first | exact keep_same (by repeat (first | exact List.Sublist.refl _ | exact List.nil_sublist _ | apply List.Sublist.cons_cons | apply List.Sublist.cons)) | exact keep_more hs9 (by repeat (first | exact List.Sublist.refl _ | exact List.nil_sublist _ | apply List.Sublist.cons_cons | apply List.Sublist.cons))), ?_⟩
              refine HL.step 10 rfl (by kernel_rfl) ?_
              refine RL.call rfl func49 rfl rfl (edited_ok _ _ _ _ e (around at0 e.size) (around how 3) (around w 10000) id vs rfl (by omega) (by omega) (by omega) (by omega) hvs) ?_
              rintro _ M9 _ ⟨hs9, rfl, us24, rfl, hur24⟩
              have hul24 : us24.length = 15 := hur24.1.trans (Ex.enc_len _)
              refine RL.nil ⟨(by first | exact keep_same (by repeat (first | exact List.Sublist.refl _ | exact List.nil_sublist _ | apply List.Sublist.cons_cons | apply List.Sublist.cons)) | exact keep_more hs9 (by repeat (first | exact List.Sublist.refl _ | exact List.nil_sublist _ | apply List.Sublist.cons_cons | apply List.Sublist.cons))), ?_⟩
              refine HL.take 11 rfl (by kernel_rfl) (by kernel_rfl) (by kernel_rfl) rfl (Y.move rfl) rfl ?_
              refine HL.take 12 rfl (by kernel_rfl) (by kernel_rfl) (by kernel_rfl) rfl (Y.extract rfl rfl) rfl ?_
              refine HL.take 13 rfl (by kernel_rfl) (by kernel_rfl) (by kernel_rfl) rfl (Y.extract rfl rfl) rfl ?_
              refine HL.step 15 rfl (by kernel_rfl) ?_
              refine RL.storeAgg us24 rfl rfl (by repeat (first | exact Repl.here _ | apply Repl.there)) (by simp [hul24]) (by simp [hul24]) (fun _ _ => hur24.one) (by rw [hul24]; exact size31) ?_
              refine RL.nil ⟨(by first | exact keep_same (by repeat (first | exact List.Sublist.refl _ | exact List.nil_sublist _ | apply List.Sublist.cons_cons | apply List.Sublist.cons)) | exact keep_more hs9 (by repeat (first | exact List.Sublist.refl _ | exact List.nil_sublist _ | apply List.Sublist.cons_cons | apply List.Sublist.cons))), ?_⟩
              refine HL.take 16 rfl (by kernel_rfl) (by kernel_rfl) (by kernel_rfl) rfl (Y.assign rfl) rfl ?_
              refine HL.done (by kernel_rfl) ?_
              dsimp only [thenX]
              exact ⟨b11, us24, (by repeat (first | exact Keep.nil _ | refine Keep.cons _ rfl ?_)), hs9, hur24, fun _ hw => hw.sub (by repeat (first | exact List.Sublist.refl _ | exact List.nil_sublist _ | apply List.Sublist.cons_cons | apply List.Sublist.cons))⟩
          · refine RL.alloc _ zero31 rfl rfl fun b11 => ?_
            refine RL.nil ⟨(by first | exact keep_same (by repeat (first | exact List.Sublist.refl _ | exact List.nil_sublist _ | apply List.Sublist.cons_cons | apply List.Sublist.cons)) | exact keep_more hs9 (by repeat (first | exact List.Sublist.refl _ | exact List.nil_sublist _ | apply List.Sublist.cons_cons | apply List.Sublist.cons))), ?_⟩
            refine HL.step 8 rfl (by kernel_rfl) ?_
            refine RL.callv rfl func12 rfl rfl (around_ok _ _ _ w 10000 hwi (by omega)) ?_
            refine RL.nil ⟨(by first | exact keep_same (by repeat (first | exact List.Sublist.refl _ | exact List.nil_sublist _ | apply List.Sublist.cons_cons | apply List.Sublist.cons)) | exact keep_more hs9 (by repeat (first | exact List.Sublist.refl _ | exact List.nil_sublist _ | apply List.Sublist.cons_cons | apply List.Sublist.cons))), ?_⟩
            refine HL.step 10 rfl (by kernel_rfl) ?_
            refine RL.call rfl func49 rfl rfl (edited_ok _ _ _ _ e (around at0 e.size) (around how 3) (around w 10000) id vs rfl (by omega) (by omega) (by omega) (by omega) hvs) ?_
            rintro _ M9 _ ⟨hs9, rfl, us24, rfl, hur24⟩
            have hul24 : us24.length = 15 := hur24.1.trans (Ex.enc_len _)
            refine RL.nil ⟨(by first | exact keep_same (by repeat (first | exact List.Sublist.refl _ | exact List.nil_sublist _ | apply List.Sublist.cons_cons | apply List.Sublist.cons)) | exact keep_more hs9 (by repeat (first | exact List.Sublist.refl _ | exact List.nil_sublist _ | apply List.Sublist.cons_cons | apply List.Sublist.cons))), ?_⟩
            refine HL.take 11 rfl (by kernel_rfl) (by kernel_rfl) (by kernel_rfl) rfl (Y.move rfl) rfl ?_
            refine HL.take 12 rfl (by kernel_rfl) (by kernel_rfl) (by kernel_rfl) rfl (Y.extract rfl rfl) rfl ?_
            refine HL.take 13 rfl (by kernel_rfl) (by kernel_rfl) (by kernel_rfl) rfl (Y.extract rfl rfl) rfl ?_
            refine HL.step 15 rfl (by kernel_rfl) ?_
            refine RL.storeAgg us24 rfl rfl (by repeat (first | exact Repl.here _ | apply Repl.there)) (by simp [hul24]) (by simp [hul24]) (fun _ _ => hur24.one) (by rw [hul24]; exact size31) ?_
            refine RL.nil ⟨(by first | exact keep_same (by repeat (first | exact List.Sublist.refl _ | exact List.nil_sublist _ | apply List.Sublist.cons_cons | apply List.Sublist.cons)) | exact keep_more hs9 (by repeat (first | exact List.Sublist.refl _ | exact List.nil_sublist _ | apply List.Sublist.cons_cons | apply List.Sublist.cons))), ?_⟩
            refine HL.take 16 rfl (by kernel_rfl) (by kernel_rfl) (by kernel_rfl) rfl (Y.assign rfl) rfl ?_
            refine HL.done (by kernel_rfl) ?_
            dsimp only [thenX]
            exact ⟨b11, us24, (by repeat (first | exact Keep.nil _ | refine Keep.cons _ rfl ?_)), hs9, hur24, fun _ hw => hw.sub (by repeat (first | exact List.Sublist.refl _ | exact List.nil_sublist _ | apply List.Sublist.cons_cons | apply List.Sublist.cons))⟩
        · refine RL.alloc _ zero31 rfl rfl fun b11 => ?_
          refine RL.nil ⟨(by first | exact keep_same (by repeat (first | exact List.Sublist.refl _ | exact List.nil_sublist _ | apply List.Sublist.cons_cons | apply List.Sublist.cons)) | exact keep_more hs9 (by repeat (first | exact List.Sublist.refl _ | exact List.nil_sublist _ | apply List.Sublist.cons_cons | apply List.Sublist.cons))), ?_⟩
          refine HL.step 6 rfl (by kernel_rfl) ?_
          refine RL.callv rfl func12 rfl rfl (around_ok _ _ _ how 3 hhi (by omega)) ?_
          refine RL.nil ⟨(by first | exact keep_same (by repeat (first | exact List.Sublist.refl _ | exact List.nil_sublist _ | apply List.Sublist.cons_cons | apply List.Sublist.cons)) | exact keep_more hs9 (by repeat (first | exact List.Sublist.refl _ | exact List.nil_sublist _ | apply List.Sublist.cons_cons | apply List.Sublist.cons))), ?_⟩
          refine HL.step 8 rfl (by kernel_rfl) ?_
          refine RL.callv rfl func12 rfl rfl (around_ok _ _ _ w 10000 hwi (by omega)) ?_
          refine RL.nil ⟨(by first | exact keep_same (by repeat (first | exact List.Sublist.refl _ | exact List.nil_sublist _ | apply List.Sublist.cons_cons | apply List.Sublist.cons)) | exact keep_more hs9 (by repeat (first | exact List.Sublist.refl _ | exact List.nil_sublist _ | apply List.Sublist.cons_cons | apply List.Sublist.cons))), ?_⟩
          refine HL.step 10 rfl (by kernel_rfl) ?_
          refine RL.call rfl func49 rfl rfl (edited_ok _ _ _ _ e (around at0 e.size) (around how 3) (around w 10000) id vs rfl (by omega) (by omega) (by omega) (by omega) hvs) ?_
          rintro _ M9 _ ⟨hs9, rfl, us24, rfl, hur24⟩
          have hul24 : us24.length = 15 := hur24.1.trans (Ex.enc_len _)
          refine RL.nil ⟨(by first | exact keep_same (by repeat (first | exact List.Sublist.refl _ | exact List.nil_sublist _ | apply List.Sublist.cons_cons | apply List.Sublist.cons)) | exact keep_more hs9 (by repeat (first | exact List.Sublist.refl _ | exact List.nil_sublist _ | apply List.Sublist.cons_cons | apply List.Sublist.cons))), ?_⟩
          refine HL.take 11 rfl (by kernel_rfl) (by kernel_rfl) (by kernel_rfl) rfl (Y.move rfl) rfl ?_
          refine HL.take 12 rfl (by kernel_rfl) (by kernel_rfl) (by kernel_rfl) rfl (Y.extract rfl rfl) rfl ?_
          refine HL.take 13 rfl (by kernel_rfl) (by kernel_rfl) (by kernel_rfl) rfl (Y.extract rfl rfl) rfl ?_
          refine HL.step 15 rfl (by kernel_rfl) ?_
          refine RL.storeAgg us24 rfl rfl (by repeat (first | exact Repl.here _ | apply Repl.there)) (by simp [hul24]) (by simp [hul24]) (fun _ _ => hur24.one) (by rw [hul24]; exact size31) ?_
          refine RL.nil ⟨(by first | exact keep_same (by repeat (first | exact List.Sublist.refl _ | exact List.nil_sublist _ | apply List.Sublist.cons_cons | apply List.Sublist.cons)) | exact keep_more hs9 (by repeat (first | exact List.Sublist.refl _ | exact List.nil_sublist _ | apply List.Sublist.cons_cons | apply List.Sublist.cons))), ?_⟩
          refine HL.take 16 rfl (by kernel_rfl) (by kernel_rfl) (by kernel_rfl) rfl (Y.assign rfl) rfl ?_
          refine HL.done (by kernel_rfl) ?_
          dsimp only [thenX]
          exact ⟨b11, us24, (by repeat (first | exact Keep.nil _ | refine Keep.cons _ rfl ?_)), hs9, hur24, fun _ hw => hw.sub (by repeat (first | exact List.Sublist.refl _ | exact List.nil_sublist _ | apply List.Sublist.cons_cons | apply List.Sublist.cons))⟩
      · refine RL.alloc _ zero31 rfl rfl fun b11 => ?_
        refine RL.nil ⟨(by first | exact keep_same (by repeat (first | exact List.Sublist.refl _ | exact List.nil_sublist _ | apply List.Sublist.cons_cons | apply List.Sublist.cons)) | exact keep_more hs9 (by repeat (first | exact List.Sublist.refl _ | exact List.nil_sublist _ | apply List.Sublist.cons_cons | apply List.Sublist.cons))), ?_⟩
        refine HL.step 4 rfl (by kernel_rfl) ?_
        refine RL.callv rfl func12 rfl rfl (around_ok _ _ _ at0 e.size hat (by omega)) ?_
        refine RL.nil ⟨(by first | exact keep_same (by repeat (first | exact List.Sublist.refl _ | exact List.nil_sublist _ | apply List.Sublist.cons_cons | apply List.Sublist.cons)) | exact keep_more hs9 (by repeat (first | exact List.Sublist.refl _ | exact List.nil_sublist _ | apply List.Sublist.cons_cons | apply List.Sublist.cons))), ?_⟩
        refine HL.step 6 rfl (by kernel_rfl) ?_
        refine RL.callv rfl func12 rfl rfl (around_ok _ _ _ how 3 hhi (by omega)) ?_
        refine RL.nil ⟨(by first | exact keep_same (by repeat (first | exact List.Sublist.refl _ | exact List.nil_sublist _ | apply List.Sublist.cons_cons | apply List.Sublist.cons)) | exact keep_more hs9 (by repeat (first | exact List.Sublist.refl _ | exact List.nil_sublist _ | apply List.Sublist.cons_cons | apply List.Sublist.cons))), ?_⟩
        refine HL.step 8 rfl (by kernel_rfl) ?_
        refine RL.callv rfl func12 rfl rfl (around_ok _ _ _ w 10000 hwi (by omega)) ?_
        refine RL.nil ⟨(by first | exact keep_same (by repeat (first | exact List.Sublist.refl _ | exact List.nil_sublist _ | apply List.Sublist.cons_cons | apply List.Sublist.cons)) | exact keep_more hs9 (by repeat (first | exact List.Sublist.refl _ | exact List.nil_sublist _ | apply List.Sublist.cons_cons | apply List.Sublist.cons))), ?_⟩
        refine HL.step 10 rfl (by kernel_rfl) ?_
        refine RL.call rfl func49 rfl rfl (edited_ok _ _ _ _ e (around at0 e.size) (around how 3) (around w 10000) id vs rfl (by omega) (by omega) (by omega) (by omega) hvs) ?_
        rintro _ M9 _ ⟨hs9, rfl, us24, rfl, hur24⟩
        have hul24 : us24.length = 15 := hur24.1.trans (Ex.enc_len _)
        refine RL.nil ⟨(by first | exact keep_same (by repeat (first | exact List.Sublist.refl _ | exact List.nil_sublist _ | apply List.Sublist.cons_cons | apply List.Sublist.cons)) | exact keep_more hs9 (by repeat (first | exact List.Sublist.refl _ | exact List.nil_sublist _ | apply List.Sublist.cons_cons | apply List.Sublist.cons))), ?_⟩
        refine HL.take 11 rfl (by kernel_rfl) (by kernel_rfl) (by kernel_rfl) rfl (Y.move rfl) rfl ?_
        refine HL.take 12 rfl (by kernel_rfl) (by kernel_rfl) (by kernel_rfl) rfl (Y.extract rfl rfl) rfl ?_
        refine HL.take 13 rfl (by kernel_rfl) (by kernel_rfl) (by kernel_rfl) rfl (Y.extract rfl rfl) rfl ?_
        refine HL.step 15 rfl (by kernel_rfl) ?_
        refine RL.storeAgg us24 rfl rfl (by repeat (first | exact Repl.here _ | apply Repl.there)) (by simp [hul24]) (by simp [hul24]) (fun _ _ => hur24.one) (by rw [hul24]; exact size31) ?_
        refine RL.nil ⟨(by first | exact keep_same (by repeat (first | exact List.Sublist.refl _ | exact List.nil_sublist _ | apply List.Sublist.cons_cons | apply List.Sublist.cons)) | exact keep_more hs9 (by repeat (first | exact List.Sublist.refl _ | exact List.nil_sublist _ | apply List.Sublist.cons_cons | apply List.Sublist.cons))), ?_⟩
        refine HL.take 16 rfl (by kernel_rfl) (by kernel_rfl) (by kernel_rfl) rfl (Y.assign rfl) rfl ?_
        refine HL.done (by kernel_rfl) ?_
        dsimp only [thenX]
        exact ⟨b11, us24, (by repeat (first | exact Keep.nil _ | refine Keep.cons _ rfl ?_)), hs9, hur24, fun _ hw => hw.sub (by repeat (first | exact List.Sublist.refl _ | exact List.nil_sublist _ | apply List.Sublist.cons_cons | apply List.Sublist.cons))⟩
    · refine RL.alloc _ zero31 rfl rfl fun b11 => ?_
      refine RL.nil ⟨(by first | exact keep_same (by repeat (first | exact List.Sublist.refl _ | exact List.nil_sublist _ | apply List.Sublist.cons_cons | apply List.Sublist.cons)) | exact keep_more hs9 (by repeat (first | exact List.Sublist.refl _ | exact List.nil_sublist _ | apply List.Sublist.cons_cons | apply List.Sublist.cons))), ?_⟩
      refine HL.step 3 rfl (by kernel_rfl) ?_
      refine RL.callv rfl func20 rfl rfl (rsize_ok _ _ _ _ e vs rfl hvs (by omega)) ?_
      refine RL.nil ⟨(by first | exact keep_same (by repeat (first | exact List.Sublist.refl _ | exact List.nil_sublist _ | apply List.Sublist.cons_cons | apply List.Sublist.cons)) | exact keep_more hs9 (by repeat (first | exact List.Sublist.refl _ | exact List.nil_sublist _ | apply List.Sublist.cons_cons | apply List.Sublist.cons))), ?_⟩
      refine HL.step 4 rfl (by kernel_rfl) ?_
      refine RL.callv rfl func12 rfl rfl (around_ok _ _ _ at0 e.size hat (by omega)) ?_
      refine RL.nil ⟨(by first | exact keep_same (by repeat (first | exact List.Sublist.refl _ | exact List.nil_sublist _ | apply List.Sublist.cons_cons | apply List.Sublist.cons)) | exact keep_more hs9 (by repeat (first | exact List.Sublist.refl _ | exact List.nil_sublist _ | apply List.Sublist.cons_cons | apply List.Sublist.cons))), ?_⟩
      refine HL.step 6 rfl (by kernel_rfl) ?_
      refine RL.callv rfl func12 rfl rfl (around_ok _ _ _ how 3 hhi (by omega)) ?_
      refine RL.nil ⟨(by first | exact keep_same (by repeat (first | exact List.Sublist.refl _ | exact List.nil_sublist _ | apply List.Sublist.cons_cons | apply List.Sublist.cons)) | exact keep_more hs9 (by repeat (first | exact List.Sublist.refl _ | exact List.nil_sublist _ | apply List.Sublist.cons_cons | apply List.Sublist.cons))), ?_⟩
      refine HL.step 8 rfl (by kernel_rfl) ?_
      refine RL.callv rfl func12 rfl rfl (around_ok _ _ _ w 10000 hwi (by omega)) ?_
      refine RL.nil ⟨(by first | exact keep_same (by repeat (first | exact List.Sublist.refl _ | exact List.nil_sublist _ | apply List.Sublist.cons_cons | apply List.Sublist.cons)) | exact keep_more hs9 (by repeat (first | exact List.Sublist.refl _ | exact List.nil_sublist _ | apply List.Sublist.cons_cons | apply List.Sublist.cons))), ?_⟩
      refine HL.step 10 rfl (by kernel_rfl) ?_
      refine RL.call rfl func49 rfl rfl (edited_ok _ _ _ _ e (around at0 e.size) (around how 3) (around w 10000) id vs rfl (by omega) (by omega) (by omega) (by omega) hvs) ?_
      rintro _ M9 _ ⟨hs9, rfl, us24, rfl, hur24⟩
      have hul24 : us24.length = 15 := hur24.1.trans (Ex.enc_len _)
      refine RL.nil ⟨(by first | exact keep_same (by repeat (first | exact List.Sublist.refl _ | exact List.nil_sublist _ | apply List.Sublist.cons_cons | apply List.Sublist.cons)) | exact keep_more hs9 (by repeat (first | exact List.Sublist.refl _ | exact List.nil_sublist _ | apply List.Sublist.cons_cons | apply List.Sublist.cons))), ?_⟩
      refine HL.take 11 rfl (by kernel_rfl) (by kernel_rfl) (by kernel_rfl) rfl (Y.move rfl) rfl ?_
      refine HL.take 12 rfl (by kernel_rfl) (by kernel_rfl) (by kernel_rfl) rfl (Y.extract rfl rfl) rfl ?_
      refine HL.take 13 rfl (by kernel_rfl) (by kernel_rfl) (by kernel_rfl) rfl (Y.extract rfl rfl) rfl ?_
      refine HL.step 15 rfl (by kernel_rfl) ?_
      refine RL.storeAgg us24 rfl rfl (by repeat (first | exact Repl.here _ | apply Repl.there)) (by simp [hul24]) (by simp [hul24]) (fun _ _ => hur24.one) (by rw [hul24]; exact size31) ?_
      refine RL.nil ⟨(by first | exact keep_same (by repeat (first | exact List.Sublist.refl _ | exact List.nil_sublist _ | apply List.Sublist.cons_cons | apply List.Sublist.cons)) | exact keep_more hs9 (by repeat (first | exact List.Sublist.refl _ | exact List.nil_sublist _ | apply List.Sublist.cons_cons | apply List.Sublist.cons))), ?_⟩
      refine HL.take 16 rfl (by kernel_rfl) (by kernel_rfl) (by kernel_rfl) rfl (Y.assign rfl) rfl ?_
      refine HL.done (by kernel_rfl) ?_
      dsimp only [thenX]
      exact ⟨b11, us24, (by repeat (first | exact Keep.nil _ | refine Keep.cons _ rfl ?_)), hs9, hur24, fun _ hw => hw.sub (by repeat (first | exact List.Sublist.refl _ | exact List.nil_sublist _ | apply List.Sublist.cons_cons | apply List.Sublist.cons))⟩
  · rintro _ M9 Γ1 ⟨b11, usR, hk1, hs9, hus, hG1⟩
    refine CW.pre ?_ hk1 hG1
    have hul : usR.length = 15 := hus.1.trans (Ex.enc_len _)
    refine CW.seq fun K2 hK2 => ?_
    refine CW.region ?_
    refine RL.q (Y.loadAll rfl (by repeat (first | exact List.Mem.head _ | apply List.Mem.tail)) hul agg31) rfl ?_
    refine RL.storeAgg usR rfl rfl (by repeat (first | exact Repl.here _ | apply Repl.there)) (by simp [hul]) (by simp [hul]) (fun _ _ => hus.one) (by rw [hul]; exact size31) ?_
    refine RL.nil ?_
    refine hK2 _ _ _ ?_
    refine CW.keep (Keep.cons 10 rfl (Keep.nil _)) ?_
    refine CW.ret ?_
    exact CellAt.mk rfl (by repeat (first | exact List.Mem.head _ | apply List.Mem.tail)) hul agg31 (Turn.drop ⟨hs9, rfl, usR, rfl, hus⟩ (by repeat (first | exact List.Sublist.refl _ | apply List.Sublist.cons_cons | apply List.Sublist.cons)))
end Go.Proofs.Ytjkcjbicleohkaa
