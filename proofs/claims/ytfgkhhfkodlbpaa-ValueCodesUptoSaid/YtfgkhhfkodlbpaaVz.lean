/- THE WALKS, 25: values with one place turned. Printed by m04z.py. -/
import Derived.Test.YtfgkhhfkodlbpaaVy
import Derived.Test.YtfgkhhfkodlbpaaPureB
import Derived.Test.YtfgkhhfkodlbpaaXe4
namespace Go.Proofs.Ytfgkhhfkodlbpaa
open Xe

set_option maxHeartbeats 2000000 in
set_option maxRecDepth 4000 in
theorem spoilt_ok (N : Nat) : ∀ (w0 : World) (M : Mem) (Γ : List As) (v : Val) (usv : List Value) (a how wth : Int), v.size = N → v.size ≤ 1099511627776 → v.Ok → v.Sm → -1099511627776 ≤ a → a ≤ 1099511627776 → InI how → InI wth → Kn w0 M Γ (RdL M v.enc usv) →
    CallOk Try.prog w0 M Γ 23 #[.agg usv.toArray, vint a, vint how, vint wth] (Gives M Γ fun M' u => ∃ us, u = .agg us.toArray ∧ RdL M' (spoil how wth v a).enc us) := by
  induction N using Nat.strongRecOn
  rename_i N ih
  intro w0 M Γ v usv a how wth hN hsz hok hsm ha1 ha2 hhow hwth hv
  refine CallOk.kn hv fun hv => ?_
  obtain ⟨ukids, rfl, hkids⟩ := Val.open hv
  obtain ⟨ak0, ck0, rfl, hck0, hlim0, hlen0⟩ := hkids.slice
  have hks := kids_le_size v
  have hnb := hsm.n
  have hkb := hok.kind
  have hse := Val.size_eq v
  have hah := around_lt how 5 OM
  have haw := around_lt wth 5 OM
  refine enterCell (f := 23) Try.func23 rfl Try.ntmps23 rfl rfl fun w1 hw1 => ?_
  refine CW.addRd hkids ?_
  refine CW.seq fun K1 hK1 => ?_
  refine CW.region ?_
  refine RL.box _ rfl rfl rfl fun b4 => ?_
  refine RL.alloc _ zero53 rfl rfl fun b8 => ?_
  refine RL.nil ?_
  refine hK1 _ _ _ ?_
  refine CW.kp [1, 2, 3, 4, 8] rfl ?_
  refine CW.seq fun K2 hK2 => ?_
  refine CW.seq fun K3 hK3 => ?_
  refine CW.region ?_
  refine RL.q (Y.move rfl) rfl ?_
  refine RL.q (Y.gtr rfl rfl) rfl ?_
  refine RL.nil ?_
  refine hK3 _ _ _ ?_
  refine CW.kp [1, 2, 3, 4, 8, 14] rfl ?_
  refine CW.ite rfl (fun h1 => ?_) (fun h1 => ?_)
  ·refine CW.seq fun K4 hK4 => ?_
   refine CW.region ?_
   refine RL.q (Y.assign rfl) rfl ?_
   refine RL.nil ?_
   refine hK4 _ _ _ ?_
   refine CW.kp [1, 2, 3, 4, 8, 9] rfl ?_
   refine CW.block ?_
   -- LOOP 1: live [1, 2, 3, 4, 8, 9] changed [1, 9]
   refine CW.kp [1, 9, 2, 3, 4, 8] rfl ?_
   refine CW.loopF (fun mm Lc M1 Γc => ∃ (k : Nat) (ak : Int), mm = v.kids.length - k ∧ k ≤ v.kids.length ∧ Lc = [(1, vint ak), (9, vint k)] ∧ Γc = [] ∧ M1 = M ∧ 0 < ak ∧ ak ≤ a ∧ spoilL how wth v.kids a = (spoilL how wth (v.kids.drop k) ak).map (v.kids.take k ++ ·)) v.kids.length [(1, _), (9, _)] [] rfl rfl ⟨0, a, rfl, Nat.zero_le _, rfl, rfl, rfl, h1, Int.le_refl _, spoilL_nil _ _ _ _⟩ ?_
   rintro mm Lc M Γc hs ⟨k, ak, rfl, hk, rfl, rfl, rfl, hak0, hak, hz⟩
   refine CW.seq fun K5 hK5 => ?_
   refine CW.seq fun K6 hK6 => ?_
   refine CW.region ?_
   refine RL.q (Y.move rfl) rfl ?_
   refine RL.q (Y.field rfl field53_2) rfl ?_
   refine RL.q (Y.loadOwn rfl MM (by rfl) flat51) rfl ?_
   refine RL.q (Y.len rfl Try.underlying51) rfl ?_
   refine RL.q (Y.lss rfl rfl) rfl ?_
   refine RL.nil ?_
   refine hK6 _ _ _ ?_
   refine CW.kp [1, 2, 3, 4, 8, 9, 19] rfl ?_
   refine CW.ite rfl (fun h2 => ?_) (fun h2 => ?_)
   ·have hka : k < v.kids.length := by omega
    have hkz := Val.size_kid (List.getElem_mem hka)
    have hw : w64 (v.kids[k].size : Int) = (v.kids[k].size : Int) := w64_in OM
    refine CW.skip ?_
    refine hK5 _ _ _ ?_
    refine CW.seq fun K7 hK7 => ?_
    refine CW.block ?_
    refine CW.seq fun K8 hK8 => ?_
    refine CW.region ?_
    refine RL.q (Y.field rfl field53_2) rfl ?_
    refine RL.q (Y.loadOwn rfl MM (by rfl) flat51) rfl ?_
    refine RL.q (Y.move rfl) rfl ?_
    refine RL.q (Y.index _ rfl rfl rfl AO slice51 SM) rfl ?_
    refine RL.loadAgg rfl rfl MM (Eq.trans (flat_take Val.enc_len _ _ _ (List.getElem?_eq_getElem AO)) (Val.enc_eq _)) (by rfl) agg53 rfl fun us26 hul26 hur26 => ?_
    refine RL.callv rfl func28 rfl rfl (by exact (hw ▸ rsize_ok _ _ _ _ v.kids[k] _ rfl KK)) ?_
    refine RL.q (Y.assign rfl) rfl ?_
    refine RL.nil ?_
    refine hK8 _ _ _ ?_
    refine CW.kp [1, 2, 3, 4, 8, 9, 10] rfl ?_
    refine CW.seq fun K9 hK9 => ?_
    refine CW.seq fun K10 hK10 => ?_
    refine CW.region ?_
    refine RL.q (Y.move rfl) rfl ?_
    refine RL.q (Y.move rfl) rfl ?_
    refine RL.q (Y.leq rfl rfl) rfl ?_
    refine RL.nil ?_
    refine hK10 _ _ _ ?_
    refine CW.kp [1, 2, 3, 4, 8, 9, 10, 30] rfl ?_
    refine CW.ite rfl (fun h3 => ?_) (fun h3 => ?_)
    ·refine CW.seq fun K11 hK11 => ?_
     refine CW.region ?_
     refine RL.q (Y.assign rfl) rfl ?_
     refine RL.nil ?_
     refine hK11 _ _ _ ?_
     refine CW.kp [1, 2, 3, 4, 8, 9, 11] rfl ?_
     refine CW.seq fun K12 hK12 => ?_
     refine CW.accNil 53 3 ?_
     refine CW.region ?_
     refine RL.q (Y.move rfl) rfl ?_
     refine RL.q (Y.field rfl field53_2) rfl ?_
     refine RL.q (Y.loadOwn rfl MM (by rfl) flat51) rfl ?_
     refine RL.appendRd elem51 rfl rfl PK MM OM (by unfold lim; omega) rfl fun a34 c34 n34 hc34 hn34 => ?_
     rw [Nat.zero_add v.kids.length, List.nil_append n34]
     refine RL.q (Y.field rfl field53_2) rfl ?_
     refine RL.store _ rfl rfl RP (by rfl) (by simp) (by rfl) size51 ?_
     refine RL.nil ?_
     refine hK12 _ _ _ ?_
     refine CW.kp [1, 2, 3, 4, 8, 9] rfl ?_
     have hnl : n34.length = v.kids.length * 3 := by rw [hn34.1]; exact hlen0
     obtain ⟨vc, hcell⟩ : ∃ x, n34[k * 3]? = some x := ⟨_, List.getElem?_eq_getElem OM⟩
     have hkr := hn34.cut (k * 3) 3
     rw [flat_take Val.enc_len _ _ _ (List.getElem?_eq_getElem hka)] at hkr
     obtain ⟨uk, huk⟩ : ∃ q, q = (n34.drop (k * 3)).take 3 := ⟨_, rfl⟩
     rw [← huk] at hkr
     have hukl : uk.length = 3 := hkr.1.trans (Val.enc_len _)
     refine CW.addRds hkr ?_
     refine CW.seq fun K13 hK13 => ?_
     refine CW.regionG 14 mix M _ (fun _ hw => hw) ?_
     refine HG.take 0 rfl KR KR KR rfl (Y.field rfl field53_2) rfl ?_
     refine HG.take 1 rfl KR KR KR rfl (Y.loadOwn rfl MM (by rfl) flat51) rfl ?_
     refine HG.take 2 rfl KR KR KR rfl (Y.move rfl) rfl ?_
     refine HG.take 3 rfl KR KR KR rfl (Y.field rfl field53_2) rfl ?_
     refine HG.take 4 rfl KR KR KR rfl (Y.loadOwn rfl MM (by rfl) flat51) rfl ?_
     refine HG.take 5 rfl KR KR KR rfl (Y.move rfl) rfl ?_
     refine HG.take 6 rfl KR KR KR rfl (Y.index _ rfl rfl rfl AO slice51 SM) rfl ?_
     refine HG.take 7 rfl KR KR KR rfl (Y.loadAggAcc uk rfl MM (fun j v hj => partGet huk hj) (by rw [hukl]; exact agg53)) rfl ?_
     refine HG.take 8 rfl KR KR KR rfl (Y.move rfl) rfl ?_
     refine HG.take 9 rfl KR KR KR rfl (Y.sub rfl rfl OM) rfl ?_
     refine HG.take 10 rfl KR KR KR rfl (Y.move rfl) rfl ?_
     refine HG.take 11 rfl KR KR KR rfl (Y.move rfl) rfl ?_
     refine HG.step 12 rfl KR ?_
     refine RL.call rfl func23 rfl rfl (by exact ih _ (by rw [← hN]; exact hkz) _ _ _ v.kids[k] _ (ak - 1) how wth rfl OM (hok.kid (List.getElem_mem hka)) (hsm.kid (List.getElem_mem hka)) OM OM hhow hwth (by exact Kn.rds MM)) ?_
     rintro v48 M48 _ ⟨hs48, rfl, us48, rfl, hr48⟩
     refine RL.addRds hr48 ?_
     have hul48 : us48.length = 3 := hr48.1.trans (Val.enc_len _)
     refine RL.nil ⟨keep_more (hs48) SB, ?_⟩
     refine HG.take 13 rfl KR KR KR rfl (Y.index _ rfl rfl rfl AO slice51 SM) rfl ?_
     refine HG.last 14 rfl ⟨KR, rfl⟩ KR ?_
     refine RL.front (x := .acc (.slice a34 v.kids.length c34) 53 3 v.kids.length n34) PK ?_
     refine RL_storeAggAcc (n34.take (k * 3) ++ (us48 ++ n34.drop (k * 3 + 3))) rfl rfl (by rw [hul48, List.append_assoc]) (by rw [hul48]; omega) hr48.one (by rw [hul48]; exact size53) ?_
     refine RL.nil ?_
     refine hK13 _ _ _ ?_
     refine CW.kp [4, 8] rfl ?_
     refine CW.seq fun K14 hK14 => ?_
     refine CW.region ?_
     refine RL.q (Y.loadAll rfl MM (by rfl) agg53) rfl ?_
     refine RL.storeAgg _ rfl rfl RP (by rfl) (by first | (simp; done) | simp [IdT.vals]) (by first | (simp [Value.oneCell']; done) | simp [Value.oneCell', IdT.vals]) size53 ?_
     refine RL.nil ?_
     refine hK14 _ _ _ ?_
     refine CW.kp [8] rfl ?_
     refine CW.ret ?_
     have e : spoil how wth v a = .mk v.kind v.n (v.kids.take k ++ ([spoil how wth v.kids[k] (ak - 1)] ++ v.kids.drop (k + 1))) := by rw [spoil_eq, if_pos h1, spoilL_hit hka hz h3]
     refine CellAt.mk rfl MM (by rfl) agg53 (Turn.sealAcc (u := .slice a34 v.kids.length c34) PK (splice_rd Val.enc_len (hn34.mono hs48) hka hr48) (by unfold lim; omega) SB fun M2 hs2 hr2 => ⟨hs48.trans hs2, rfl, _, rfl, by rw [e]; exact node_rd _ _ (v.kids.take k ++ ([spoil how wth v.kids[k] (ak - 1)] ++ v.kids.drop (k + 1))) (by rw [show (v.kids.take k ++ ([spoil how wth v.kids[k] (ak - 1)] ++ v.kids.drop (k + 1))).length = v.kids.length from by simp; omega]; exact hr2)⟩)
    refine CW.skip ?_
    refine hK9 _ _ _ ?_
    refine CW.region ?_
    refine RL.q (Y.move rfl) rfl ?_
    refine RL.q (Y.move rfl) rfl ?_
    refine RL.q (Y.sub rfl rfl OM) rfl ?_
    refine RL.q (Y.assign rfl) rfl ?_
    refine RL.nil ?_
    refine hK7 _ _ _ ?_
    refine CW.kp [1, 2, 3, 4, 8, 9] rfl ?_
    refine CW.region ?_
    refine RL.q (Y.move rfl) rfl ?_
    refine RL.q (Y.add rfl rfl OM) rfl ?_
    refine RL.q (Y.assign rfl) rfl ?_
    refine RL.nil ?_
    refine ⟨v.kids.length - (k + 1), [(1, _), (9, _)], ?_, (KP [1, 9, 2, 3, 4, 8]), ?_⟩
    · omega
    · exact Turn.drop ⟨[], rfl, hs, k + 1, ak - v.kids[k].size, rfl, by omega, rfl, rfl, rfl, by omega, by omega, spoilL_step hka hz h3⟩ SB
   have e0 : spoil how wth v a = spoilAt v how wth := by rw [spoil_eq, if_pos h1, spoilL_miss OM hz]
   refine CW.exit ?_
   refine hK2 _ _ _ ?_
   refine CW.seq fun K15 hK15 => ?_
   refine CW.region ?_
   refine RL.q (Y.assign rfl) rfl ?_
   refine RL.nil ?_
   refine hK15 _ _ _ ?_
   refine CW.kp [2, 3, 4, 8, 12] rfl ?_
   refine CW.seq fun K16 hK16 => ?_
   refine CW.accNil 53 3 ?_
   refine CW.region ?_
   refine RL.q (Y.move rfl) rfl ?_
   refine RL.q (Y.field rfl field53_2) rfl ?_
   refine RL.q (Y.loadOwn rfl MM (by rfl) flat51) rfl ?_
   refine RL.appendRd elem51 rfl rfl PK MM OM (by unfold lim; omega) rfl fun a57 c57 n57 hc57 hn57 => ?_
   rw [Nat.zero_add v.kids.length, List.nil_append n57]
   refine RL.q (Y.assign rfl) rfl ?_
   refine RL.nil ?_
   refine hK16 _ _ _ ?_
   refine CW.kp [2, 3, 4, 8, 12] rfl ?_
   refine CW.seq fun K17 hK17 => ?_
   refine CW.region ?_
   refine RL.q (Y.move rfl) rfl ?_
   refine RL.q (Y.field rfl field53_2) rfl ?_
   refine RL.store _ rfl rfl RP (by rfl) (by simp) (by rfl) size51 ?_
   refine RL.nil ?_
   refine hK17 _ _ _ ?_
   refine CW.kp [2, 3, 4, 8] rfl ?_
   refine CW.seq fun K18 hK18 => ?_
   refine CW.seq fun K19 hK19 => ?_
   refine CW.region ?_
   refine RL.q (Y.move rfl) rfl ?_
   refine RL.callv rfl func11 rfl rfl (by exact around_ok _ _ _ how 5 hhow OM) ?_
   refine RL.nil ?_
   refine hK19 _ _ _ ?_
   refine CW.kp [3, 4, 8, 61] rfl ?_
   refine CW.block ?_
   refine CW.seq fun K20 hK20 => ?_
   refine CW.region ?_
   refine RL.q (Y.eql rfl rfl) rfl ?_
   refine RL.q (Y.assign rfl) rfl ?_
   refine RL.nil ?_
   refine hK20 _ _ _ ?_
   refine CW.kp [3, 4, 8, 61, 62] rfl ?_
   refine CW.ite rfl (fun h4 => ?_) (fun h4 => ?_)
   ·have e : spoil how wth v a = .mk wth v.n v.kids := by rw [e0, spoilAt, if_pos h4]
    refine CW.region ?_
    refine RL.q (Y.move rfl) rfl ?_
    refine RL.q (Y.field rfl field53_0) rfl ?_
    refine RL.store _ rfl rfl RP (by rfl) (by simp) (by rfl) size3 ?_
    refine RL.nil ?_
    refine hK18 _ _ _ ?_
    refine CW.kp [4, 8] rfl ?_
    refine CW.seq fun K21 hK21 => ?_
    refine CW.region ?_
    refine RL.q (Y.loadAll rfl MM (by rfl) agg53) rfl ?_
    refine RL.storeAgg _ rfl rfl RP (by rfl) (by first | (simp; done) | simp [IdT.vals]) (by first | (simp [Value.oneCell']; done) | simp [Value.oneCell', IdT.vals]) size53 ?_
    refine RL.nil ?_
    refine hK21 _ _ _ ?_
    refine CW.kp [8] rfl ?_
    refine CW.ret ?_
    exact CellAt.mk rfl MM (by rfl) agg53 (Turn.sealAcc (u := (.slice a57 v.kids.length c57)) PK (hn57) (by unfold lim; omega) SB fun M2 hs2 hr2 => ⟨hs2, rfl, _, rfl, by rw [e]; exact node_rd _ _ v.kids (by simpa using hr2)⟩)
   refine CW.seq fun K22 hK22 => ?_
   refine CW.region ?_
   refine RL.q (Y.eql rfl rfl) rfl ?_
   refine RL.q (Y.assign rfl) rfl ?_
   refine RL.nil ?_
   refine hK22 _ _ _ ?_
   refine CW.kp [3, 4, 8, 61, 66] rfl ?_
   refine CW.ite rfl (fun h5 => ?_) (fun h5 => ?_)
   ·have e : spoil how wth v a = .mk v.kind wth v.kids := by rw [e0, spoilAt, if_neg h4, if_pos h5]
    refine CW.region ?_
    refine RL.q (Y.move rfl) rfl ?_
    refine RL.q (Y.field rfl field53_1) rfl ?_
    refine RL.store _ rfl rfl RP (by rfl) (by simp) (by rfl) size3 ?_
    refine RL.nil ?_
    refine hK18 _ _ _ ?_
    refine CW.kp [4, 8] rfl ?_
    refine CW.seq fun K23 hK23 => ?_
    refine CW.region ?_
    refine RL.q (Y.loadAll rfl MM (by rfl) agg53) rfl ?_
    refine RL.storeAgg _ rfl rfl RP (by rfl) (by first | (simp; done) | simp [IdT.vals]) (by first | (simp [Value.oneCell']; done) | simp [Value.oneCell', IdT.vals]) size53 ?_
    refine RL.nil ?_
    refine hK23 _ _ _ ?_
    refine CW.kp [8] rfl ?_
    refine CW.ret ?_
    exact CellAt.mk rfl MM (by rfl) agg53 (Turn.sealAcc (u := (.slice a57 v.kids.length c57)) PK (hn57) (by unfold lim; omega) SB fun M2 hs2 hr2 => ⟨hs2, rfl, _, rfl, by rw [e]; exact node_rd _ _ v.kids (by simpa using hr2)⟩)
   refine CW.seq fun K24 hK24 => ?_
   refine CW.region ?_
   refine RL.q (Y.eql rfl rfl) rfl ?_
   refine RL.q (Y.assign rfl) rfl ?_
   refine RL.nil ?_
   refine hK24 _ _ _ ?_
   refine CW.kp [3, 4, 8, 61, 70] rfl ?_
   refine CW.ite rfl (fun h6 => ?_) (fun h6 => ?_)
   ·have e : spoil how wth v a = .mk v.kind (v.n + 1) v.kids := by rw [e0, spoilAt, if_neg h4, if_neg h5, if_pos h6]
    refine CW.region ?_
    refine RL.q (Y.field rfl field53_1) rfl ?_
    refine RL.q (Y.loadOwn rfl MM (by rfl) flat3) rfl ?_
    refine RL.q (Y.add rfl rfl OM) rfl ?_
    refine RL.q (Y.field rfl field53_1) rfl ?_
    refine RL.store _ rfl rfl RP (by rfl) (by simp) (by rfl) size3 ?_
    refine RL.nil ?_
    refine hK18 _ _ _ ?_
    refine CW.kp [4, 8] rfl ?_
    refine CW.seq fun K25 hK25 => ?_
    refine CW.region ?_
    refine RL.q (Y.loadAll rfl MM (by rfl) agg53) rfl ?_
    refine RL.storeAgg _ rfl rfl RP (by rfl) (by first | (simp; done) | simp [IdT.vals]) (by first | (simp [Value.oneCell']; done) | simp [Value.oneCell', IdT.vals]) size53 ?_
    refine RL.nil ?_
    refine hK25 _ _ _ ?_
    refine CW.kp [8] rfl ?_
    refine CW.ret ?_
    exact CellAt.mk rfl MM (by rfl) agg53 (Turn.sealAcc (u := (.slice a57 v.kids.length c57)) PK (hn57) (by unfold lim; omega) SB fun M2 hs2 hr2 => ⟨hs2, rfl, _, rfl, by rw [e]; exact node_rd _ _ v.kids (by simpa using hr2)⟩)
   refine CW.seq fun K26 hK26 => ?_
   refine CW.region ?_
   refine RL.q (Y.eql rfl rfl) rfl ?_
   refine RL.q (Y.assign rfl) rfl ?_
   refine RL.nil ?_
   refine hK26 _ _ _ ?_
   refine CW.kp [3, 4, 8, 61, 76] rfl ?_
   refine CW.ite rfl (fun h7 => ?_) (fun h7 => ?_)
   ·have e : spoil how wth v a = .mk v.kind v.n (v.kids ++ [.mk (around wth 5) 0 []]) := by rw [e0, spoilAt, if_neg h4, if_neg h5, if_neg h6, if_pos h7]
    refine CW.regionGP 8 mix (x := .acc (.slice a57 v.kids.length c57) 53 3 v.kids.length n57) PK ?_
    refine HG.take 0 rfl KR KR KR rfl (Y.field rfl field53_2) rfl ?_
    refine HG.take 1 rfl KR KR KR rfl (Y.loadOwn rfl MM (by rfl) flat51) rfl ?_
    refine HG.take 2 rfl KR KR KR rfl (Y.move rfl) rfl ?_
    refine HG.step 3 rfl KR ?_
    refine RL.callv rfl func11 rfl rfl (by exact around_ok _ _ _ wth 5 hwth OM) ?_
    refine RL.nil ⟨keep_same SB, ?_⟩
    refine HG.take 4 rfl KR KR KR rfl (Y.build [_, _, _] rfl zero53 places53 (by rfl)) rfl ?_
    refine HG.step 5 rfl KR ?_
    refine RL.buildSlice [vint (around wth 5), vint 0, .slice none 0 0] elem51 rfl (by decide) (fill1 rfl rfl) rfl fun b83 => ?_
    refine RL.nil ⟨keep_same SB, ?_⟩
    refine HG.step 6 rfl KR ?_
    refine RL.append elem51 rfl rfl PK (SrcOk.own (sz := 3) (m := 1) MM (by rfl) (leaf_rd (M := M) (around wth 5) 0).one) OM (by unfold lim; omega) rfl fun a84 c84 hc84 => ?_
    refine RL.nil ⟨keep_same SB, ?_⟩
    refine HG.take 7 rfl KR KR KR rfl (Y.field rfl field53_2) rfl ?_
    refine HG.last 8 rfl ⟨KR, rfl⟩ KR ?_
    refine RL.store _ rfl rfl RP (by rfl) (by simp) (by rfl) size51 ?_
    refine RL.nil ?_
    refine hK18 _ _ _ ?_
    refine CW.kp [4, 8] rfl ?_
    refine CW.seq fun K27 hK27 => ?_
    refine CW.region ?_
    refine RL.q (Y.loadAll rfl MM (by rfl) agg53) rfl ?_
    refine RL.storeAgg _ rfl rfl RP (by rfl) (by first | (simp; done) | simp [IdT.vals]) (by first | (simp [Value.oneCell']; done) | simp [Value.oneCell', IdT.vals]) size53 ?_
    refine RL.nil ?_
    refine hK27 _ _ _ ?_
    refine CW.kp [8] rfl ?_
    refine CW.ret ?_
    exact CellAt.mk rfl MM (by rfl) agg53 (Turn.sealAcc (u := (.slice a84 (v.kids.length + 1) c84)) PK (by simpa using hn57.append (leaf_rd (around wth 5) 0)) (by unfold lim; omega) SB fun M2 hs2 hr2 => ⟨hs2, rfl, _, rfl, by rw [e]; exact node_rd _ _ (v.kids ++ [.mk (around wth 5) 0 []]) (by simpa using hr2)⟩)
   refine CW.seq fun K28 hK28 => ?_
   refine CW.region ?_
   refine RL.q (Y.eql rfl rfl) rfl ?_
   refine RL.q (Y.assign rfl) rfl ?_
   refine RL.nil ?_
   refine hK28 _ _ _ ?_
   refine CW.kp [4, 8, 86] rfl ?_
   refine CW.ite rfl (fun h8 => ?_) (fun h8 => absurd OM h8)
   have e : spoil how wth v a = .mk v.kind v.n (v.kids.drop 1) := by rw [e0, spoilAt, if_neg h4, if_neg h5, if_neg h6, if_neg h7]
   refine CW.seq fun K29 hK29 => ?_
   refine CW.region ?_
   refine RL.q (Y.field rfl field53_2) rfl ?_
   refine RL.q (Y.loadOwn rfl MM (by rfl) flat51) rfl ?_
   refine RL.q (Y.len rfl Try.underlying51) rfl ?_
   refine RL.q (Y.gtr rfl rfl) rfl ?_
   refine RL.nil ?_
   refine hK29 _ _ _ ?_
   refine CW.kp [4, 8, 91] rfl ?_
   refine CW.ite rfl (fun h9 => ?_) (fun h9 => ?_)
   ·refine CW.sealAcc (u := (.slice a57 v.kids.length c57)) PK hn57 (by unfold lim; omega) fun M3 a3 c3 hs3 e3 hc3 hr3 => ?_
    injection e3 with e3a _ e3c
    subst e3a e3c
    refine CW.region ?_
    refine RL.q (Y.field rfl field53_2) rfl ?_
    refine RL.q (Y.loadOwn rfl MM (by rfl) flat51) rfl ?_
    refine RL.q (Y.slice 1 v.kids.length c57 rfl ⟨_, rfl, (by rfl)⟩ rfl rfl (by simp) OM OM OM slice51) rfl ?_
    have hdr := Rd.dropN Val.enc_len hr3 1 OM
    obtain ⟨a5, c5, hcv, _, _, _⟩ := hdr.slice
    rw [hcv]
    rw [hcv] at hdr
    refine RL.q (Y.field rfl field53_2) rfl ?_
    refine RL.store _ rfl rfl RP (by rfl) (by simp) (by rfl) size51 ?_
    refine RL.nil ?_
    refine hK18 _ _ _ ?_
    refine CW.kp [4, 8] rfl ?_
    refine CW.seq fun K30 hK30 => ?_
    refine CW.region ?_
    refine RL.q (Y.loadAll rfl MM (by rfl) agg53) rfl ?_
    refine RL.storeAgg _ rfl rfl RP (by rfl) (by first | (simp; done) | simp [IdT.vals]) (by first | (simp [Value.oneCell']; done) | simp [Value.oneCell', IdT.vals]) size53 ?_
    refine RL.nil ?_
    refine hK30 _ _ _ ?_
    refine CW.kp [8] rfl ?_
    refine CW.ret ?_
    exact CellAt.mk rfl MM (by rfl) agg53 (Turn.drop ⟨hs3, rfl, _, rfl, by rw [e]; exact node_rd _ _ _ hdr⟩ SB)
   have e1 : v.kids.drop 1 = v.kids := by rw [List.eq_nil_of_length_eq_zero (show v.kids.length = 0 by omega)]; rfl
   rw [e1] at e
   refine CW.skip ?_
   refine hK18 _ _ _ ?_
   refine CW.seq fun K31 hK31 => ?_
   refine CW.region ?_
   refine RL.q (Y.loadAll rfl MM (by rfl) agg53) rfl ?_
   refine RL.storeAgg _ rfl rfl RP (by rfl) (by first | (simp; done) | simp [IdT.vals]) (by first | (simp [Value.oneCell']; done) | simp [Value.oneCell', IdT.vals]) size53 ?_
   refine RL.nil ?_
   refine hK31 _ _ _ ?_
   refine CW.kp [8] rfl ?_
   refine CW.ret ?_
   exact CellAt.mk rfl MM (by rfl) agg53 (Turn.sealAcc (u := (.slice a57 v.kids.length c57)) PK (hn57) (by unfold lim; omega) SB fun M2 hs2 hr2 => ⟨hs2, rfl, _, rfl, by rw [e]; exact node_rd _ _ v.kids (by simpa using hr2)⟩)
  have e0 : spoil how wth v a = spoilAt v how wth := by rw [spoil_eq, if_neg OM]
  refine CW.skip ?_
  refine hK2 _ _ _ ?_
  refine CW.seq fun K32 hK32 => ?_
  refine CW.region ?_
  refine RL.q (Y.assign rfl) rfl ?_
  refine RL.nil ?_
  refine hK32 _ _ _ ?_
  refine CW.kp [2, 3, 4, 8, 12] rfl ?_
  refine CW.seq fun K33 hK33 => ?_
  refine CW.accNil 53 3 ?_
  refine CW.region ?_
  refine RL.q (Y.move rfl) rfl ?_
  refine RL.q (Y.field rfl field53_2) rfl ?_
  refine RL.q (Y.loadOwn rfl MM (by rfl) flat51) rfl ?_
  refine RL.appendRd elem51 rfl rfl PK MM OM (by unfold lim; omega) rfl fun a57 c57 n57 hc57 hn57 => ?_
  rw [Nat.zero_add v.kids.length, List.nil_append n57]
  refine RL.q (Y.assign rfl) rfl ?_
  refine RL.nil ?_
  refine hK33 _ _ _ ?_
  refine CW.kp [2, 3, 4, 8, 12] rfl ?_
  refine CW.seq fun K34 hK34 => ?_
  refine CW.region ?_
  refine RL.q (Y.move rfl) rfl ?_
  refine RL.q (Y.field rfl field53_2) rfl ?_
  refine RL.store _ rfl rfl RP (by rfl) (by simp) (by rfl) size51 ?_
  refine RL.nil ?_
  refine hK34 _ _ _ ?_
  refine CW.kp [2, 3, 4, 8] rfl ?_
  refine CW.seq fun K35 hK35 => ?_
  refine CW.seq fun K36 hK36 => ?_
  refine CW.region ?_
  refine RL.q (Y.move rfl) rfl ?_
  refine RL.callv rfl func11 rfl rfl (by exact around_ok _ _ _ how 5 hhow OM) ?_
  refine RL.nil ?_
  refine hK36 _ _ _ ?_
  refine CW.kp [3, 4, 8, 61] rfl ?_
  refine CW.block ?_
  refine CW.seq fun K37 hK37 => ?_
  refine CW.region ?_
  refine RL.q (Y.eql rfl rfl) rfl ?_
  refine RL.q (Y.assign rfl) rfl ?_
  refine RL.nil ?_
  refine hK37 _ _ _ ?_
  refine CW.kp [3, 4, 8, 61, 62] rfl ?_
  refine CW.ite rfl (fun h4 => ?_) (fun h4 => ?_)
  ·have e : spoil how wth v a = .mk wth v.n v.kids := by rw [e0, spoilAt, if_pos h4]
   refine CW.region ?_
   refine RL.q (Y.move rfl) rfl ?_
   refine RL.q (Y.field rfl field53_0) rfl ?_
   refine RL.store _ rfl rfl RP (by rfl) (by simp) (by rfl) size3 ?_
   refine RL.nil ?_
   refine hK35 _ _ _ ?_
   refine CW.kp [4, 8] rfl ?_
   refine CW.seq fun K38 hK38 => ?_
   refine CW.region ?_
   refine RL.q (Y.loadAll rfl MM (by rfl) agg53) rfl ?_
   refine RL.storeAgg _ rfl rfl RP (by rfl) (by first | (simp; done) | simp [IdT.vals]) (by first | (simp [Value.oneCell']; done) | simp [Value.oneCell', IdT.vals]) size53 ?_
   refine RL.nil ?_
   refine hK38 _ _ _ ?_
   refine CW.kp [8] rfl ?_
   refine CW.ret ?_
   exact CellAt.mk rfl MM (by rfl) agg53 (Turn.sealAcc (u := (.slice a57 v.kids.length c57)) PK (hn57) (by unfold lim; omega) SB fun M2 hs2 hr2 => ⟨hs2, rfl, _, rfl, by rw [e]; exact node_rd _ _ v.kids (by simpa using hr2)⟩)
  refine CW.seq fun K39 hK39 => ?_
  refine CW.region ?_
  refine RL.q (Y.eql rfl rfl) rfl ?_
  refine RL.q (Y.assign rfl) rfl ?_
  refine RL.nil ?_
  refine hK39 _ _ _ ?_
  refine CW.kp [3, 4, 8, 61, 66] rfl ?_
  refine CW.ite rfl (fun h5 => ?_) (fun h5 => ?_)
  ·have e : spoil how wth v a = .mk v.kind wth v.kids := by rw [e0, spoilAt, if_neg h4, if_pos h5]
   refine CW.region ?_
   refine RL.q (Y.move rfl) rfl ?_
   refine RL.q (Y.field rfl field53_1) rfl ?_
   refine RL.store _ rfl rfl RP (by rfl) (by simp) (by rfl) size3 ?_
   refine RL.nil ?_
   refine hK35 _ _ _ ?_
   refine CW.kp [4, 8] rfl ?_
   refine CW.seq fun K40 hK40 => ?_
   refine CW.region ?_
   refine RL.q (Y.loadAll rfl MM (by rfl) agg53) rfl ?_
   refine RL.storeAgg _ rfl rfl RP (by rfl) (by first | (simp; done) | simp [IdT.vals]) (by first | (simp [Value.oneCell']; done) | simp [Value.oneCell', IdT.vals]) size53 ?_
   refine RL.nil ?_
   refine hK40 _ _ _ ?_
   refine CW.kp [8] rfl ?_
   refine CW.ret ?_
   exact CellAt.mk rfl MM (by rfl) agg53 (Turn.sealAcc (u := (.slice a57 v.kids.length c57)) PK (hn57) (by unfold lim; omega) SB fun M2 hs2 hr2 => ⟨hs2, rfl, _, rfl, by rw [e]; exact node_rd _ _ v.kids (by simpa using hr2)⟩)
  refine CW.seq fun K41 hK41 => ?_
  refine CW.region ?_
  refine RL.q (Y.eql rfl rfl) rfl ?_
  refine RL.q (Y.assign rfl) rfl ?_
  refine RL.nil ?_
  refine hK41 _ _ _ ?_
  refine CW.kp [3, 4, 8, 61, 70] rfl ?_
  refine CW.ite rfl (fun h6 => ?_) (fun h6 => ?_)
  ·have e : spoil how wth v a = .mk v.kind (v.n + 1) v.kids := by rw [e0, spoilAt, if_neg h4, if_neg h5, if_pos h6]
   refine CW.region ?_
   refine RL.q (Y.field rfl field53_1) rfl ?_
   refine RL.q (Y.loadOwn rfl MM (by rfl) flat3) rfl ?_
   refine RL.q (Y.add rfl rfl OM) rfl ?_
   refine RL.q (Y.field rfl field53_1) rfl ?_
   refine RL.store _ rfl rfl RP (by rfl) (by simp) (by rfl) size3 ?_
   refine RL.nil ?_
   refine hK35 _ _ _ ?_
   refine CW.kp [4, 8] rfl ?_
   refine CW.seq fun K42 hK42 => ?_
   refine CW.region ?_
   refine RL.q (Y.loadAll rfl MM (by rfl) agg53) rfl ?_
   refine RL.storeAgg _ rfl rfl RP (by rfl) (by first | (simp; done) | simp [IdT.vals]) (by first | (simp [Value.oneCell']; done) | simp [Value.oneCell', IdT.vals]) size53 ?_
   refine RL.nil ?_
   refine hK42 _ _ _ ?_
   refine CW.kp [8] rfl ?_
   refine CW.ret ?_
   exact CellAt.mk rfl MM (by rfl) agg53 (Turn.sealAcc (u := (.slice a57 v.kids.length c57)) PK (hn57) (by unfold lim; omega) SB fun M2 hs2 hr2 => ⟨hs2, rfl, _, rfl, by rw [e]; exact node_rd _ _ v.kids (by simpa using hr2)⟩)
  refine CW.seq fun K43 hK43 => ?_
  refine CW.region ?_
  refine RL.q (Y.eql rfl rfl) rfl ?_
  refine RL.q (Y.assign rfl) rfl ?_
  refine RL.nil ?_
  refine hK43 _ _ _ ?_
  refine CW.kp [3, 4, 8, 61, 76] rfl ?_
  refine CW.ite rfl (fun h7 => ?_) (fun h7 => ?_)
  ·have e : spoil how wth v a = .mk v.kind v.n (v.kids ++ [.mk (around wth 5) 0 []]) := by rw [e0, spoilAt, if_neg h4, if_neg h5, if_neg h6, if_pos h7]
   refine CW.regionGP 8 mix (x := .acc (.slice a57 v.kids.length c57) 53 3 v.kids.length n57) PK ?_
   refine HG.take 0 rfl KR KR KR rfl (Y.field rfl field53_2) rfl ?_
   refine HG.take 1 rfl KR KR KR rfl (Y.loadOwn rfl MM (by rfl) flat51) rfl ?_
   refine HG.take 2 rfl KR KR KR rfl (Y.move rfl) rfl ?_
   refine HG.step 3 rfl KR ?_
   refine RL.callv rfl func11 rfl rfl (by exact around_ok _ _ _ wth 5 hwth OM) ?_
   refine RL.nil ⟨keep_same SB, ?_⟩
   refine HG.take 4 rfl KR KR KR rfl (Y.build [_, _, _] rfl zero53 places53 (by rfl)) rfl ?_
   refine HG.step 5 rfl KR ?_
   refine RL.buildSlice [vint (around wth 5), vint 0, .slice none 0 0] elem51 rfl (by decide) (fill1 rfl rfl) rfl fun b83 => ?_
   refine RL.nil ⟨keep_same SB, ?_⟩
   refine HG.step 6 rfl KR ?_
   refine RL.append elem51 rfl rfl PK (SrcOk.own (sz := 3) (m := 1) MM (by rfl) (leaf_rd (M := M) (around wth 5) 0).one) OM (by unfold lim; omega) rfl fun a84 c84 hc84 => ?_
   refine RL.nil ⟨keep_same SB, ?_⟩
   refine HG.take 7 rfl KR KR KR rfl (Y.field rfl field53_2) rfl ?_
   refine HG.last 8 rfl ⟨KR, rfl⟩ KR ?_
   refine RL.store _ rfl rfl RP (by rfl) (by simp) (by rfl) size51 ?_
   refine RL.nil ?_
   refine hK35 _ _ _ ?_
   refine CW.kp [4, 8] rfl ?_
   refine CW.seq fun K44 hK44 => ?_
   refine CW.region ?_
   refine RL.q (Y.loadAll rfl MM (by rfl) agg53) rfl ?_
   refine RL.storeAgg _ rfl rfl RP (by rfl) (by first | (simp; done) | simp [IdT.vals]) (by first | (simp [Value.oneCell']; done) | simp [Value.oneCell', IdT.vals]) size53 ?_
   refine RL.nil ?_
   refine hK44 _ _ _ ?_
   refine CW.kp [8] rfl ?_
   refine CW.ret ?_
   exact CellAt.mk rfl MM (by rfl) agg53 (Turn.sealAcc (u := (.slice a84 (v.kids.length + 1) c84)) PK (by simpa using hn57.append (leaf_rd (around wth 5) 0)) (by unfold lim; omega) SB fun M2 hs2 hr2 => ⟨hs2, rfl, _, rfl, by rw [e]; exact node_rd _ _ (v.kids ++ [.mk (around wth 5) 0 []]) (by simpa using hr2)⟩)
  refine CW.seq fun K45 hK45 => ?_
  refine CW.region ?_
  refine RL.q (Y.eql rfl rfl) rfl ?_
  refine RL.q (Y.assign rfl) rfl ?_
  refine RL.nil ?_
  refine hK45 _ _ _ ?_
  refine CW.kp [4, 8, 86] rfl ?_
  refine CW.ite rfl (fun h8 => ?_) (fun h8 => absurd OM h8)
  have e : spoil how wth v a = .mk v.kind v.n (v.kids.drop 1) := by rw [e0, spoilAt, if_neg h4, if_neg h5, if_neg h6, if_neg h7]
  refine CW.seq fun K46 hK46 => ?_
  refine CW.region ?_
  refine RL.q (Y.field rfl field53_2) rfl ?_
  refine RL.q (Y.loadOwn rfl MM (by rfl) flat51) rfl ?_
  refine RL.q (Y.len rfl Try.underlying51) rfl ?_
  refine RL.q (Y.gtr rfl rfl) rfl ?_
  refine RL.nil ?_
  refine hK46 _ _ _ ?_
  refine CW.kp [4, 8, 91] rfl ?_
  refine CW.ite rfl (fun h9 => ?_) (fun h9 => ?_)
  ·refine CW.sealAcc (u := (.slice a57 v.kids.length c57)) PK hn57 (by unfold lim; omega) fun M3 a3 c3 hs3 e3 hc3 hr3 => ?_
   injection e3 with e3a _ e3c
   subst e3a e3c
   refine CW.region ?_
   refine RL.q (Y.field rfl field53_2) rfl ?_
   refine RL.q (Y.loadOwn rfl MM (by rfl) flat51) rfl ?_
   refine RL.q (Y.slice 1 v.kids.length c57 rfl ⟨_, rfl, (by rfl)⟩ rfl rfl (by simp) OM OM OM slice51) rfl ?_
   have hdr := Rd.dropN Val.enc_len hr3 1 OM
   obtain ⟨a5, c5, hcv, _, _, _⟩ := hdr.slice
   rw [hcv]
   rw [hcv] at hdr
   refine RL.q (Y.field rfl field53_2) rfl ?_
   refine RL.store _ rfl rfl RP (by rfl) (by simp) (by rfl) size51 ?_
   refine RL.nil ?_
   refine hK35 _ _ _ ?_
   refine CW.kp [4, 8] rfl ?_
   refine CW.seq fun K47 hK47 => ?_
   refine CW.region ?_
   refine RL.q (Y.loadAll rfl MM (by rfl) agg53) rfl ?_
   refine RL.storeAgg _ rfl rfl RP (by rfl) (by first | (simp; done) | simp [IdT.vals]) (by first | (simp [Value.oneCell']; done) | simp [Value.oneCell', IdT.vals]) size53 ?_
   refine RL.nil ?_
   refine hK47 _ _ _ ?_
   refine CW.kp [8] rfl ?_
   refine CW.ret ?_
   exact CellAt.mk rfl MM (by rfl) agg53 (Turn.drop ⟨hs3, rfl, _, rfl, by rw [e]; exact node_rd _ _ _ hdr⟩ SB)
  have e1 : v.kids.drop 1 = v.kids := by rw [List.eq_nil_of_length_eq_zero (show v.kids.length = 0 by omega)]; rfl
  rw [e1] at e
  refine CW.skip ?_
  refine hK35 _ _ _ ?_
  refine CW.seq fun K48 hK48 => ?_
  refine CW.region ?_
  refine RL.q (Y.loadAll rfl MM (by rfl) agg53) rfl ?_
  refine RL.storeAgg _ rfl rfl RP (by rfl) (by first | (simp; done) | simp [IdT.vals]) (by first | (simp [Value.oneCell']; done) | simp [Value.oneCell', IdT.vals]) size53 ?_
  refine RL.nil ?_
  refine hK48 _ _ _ ?_
  refine CW.kp [8] rfl ?_
  refine CW.ret ?_
  exact CellAt.mk rfl MM (by rfl) agg53 (Turn.sealAcc (u := (.slice a57 v.kids.length c57)) PK (hn57) (by unfold lim; omega) SB fun M2 hs2 hr2 => ⟨hs2, rfl, _, rfl, by rw [e]; exact node_rd _ _ v.kids (by simpa using hr2)⟩)
end Go.Proofs.Ytfgkhhfkodlbpaa
