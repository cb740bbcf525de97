/- THE WALKS, 13: encodings of values, reading numbers, by the program. Printed by m04m.py. -/
import Derived.Test.YtfgkhhfkodlbpaaVl
namespace Go.Proofs.Ytfgkhhfkodlbpaa
open Xe

theorem encode_ok (N : Nat) : ∀ (w0 : World) (M : Mem) (Γ : List As) (v : Val) (usv : List Value) , v.size = N → Kn w0 M Γ (RdL M v.enc usv) → v.Ok → v.size ≤ 1099511627776 → 
    CallOk Try.prog w0 M Γ 37 #[.agg usv.toArray] (Gives M Γ fun M' u => Rd M' (dbytes (encV v)) u) := by
  induction N using Nat.strongRecOn
  rename_i N ih
  intro w0 M Γ v usv hN hv hok hsz
  have hik := hok.kind
  have hin := hok.n
  have hks := kids_le_size v
  have hil : InI (v.kids.length : Int) := by unfold InI; omega
  have hl1 := encI_len hik
  have hl2 := encI_len hin
  have hl3 := encI_len hil
  refine CallOk.kn hv fun hv => ?_
  rw [Val.enc_eq] at hv
  refine enter (f := 37) Try.func37 rfl Try.ntmps37 rfl rfl fun w1 hw1 => ?_
  refine CW.addRds hv ?_
  refine CW.seq fun K1 hK1 => ?_
  refine CW.region ?_
  refine RL.box _ rfl rfl rfl fun b1 => ?_
  refine RL.q (Y.assign rfl) rfl ?_
  refine RL.nil ?_
  refine hK1 _ _ _ ?_
  refine CW.kp [1] rfl ?_
  refine CW.seq fun K2 hK2 => ?_
  refine CW.regionH mix _ _ (fun _ hw => hw) ?_
  refine HL.take 0 rfl KR KR KR rfl (Y.field rfl field53_0) rfl ?_
  refine HL.take 1 rfl KR KR KR rfl (Y.loadOwnV rfl MM MM (by rfl) flat3) rfl ?_
  refine HL.take 3 rfl KR KR KR rfl (Y.field rfl field53_1) rfl ?_
  refine HL.take 4 rfl KR KR KR rfl (Y.loadOwnV rfl MM MM (by rfl) flat3) rfl ?_
  refine HL.take 6 rfl KR KR KR rfl (Y.field rfl field53_2) rfl ?_
  refine HL.loadOwnSl 7 rfl KR KR KR rfl rfl MM MM (by rfl) flat51 rfl fun a13 c13 hu13 hc13 hl13 => ?_
  refine HL.take 8 rfl KR KR KR rfl (Y.len rfl Try.underlying51) rfl ?_
  refine HL.step 2 rfl KR ?_
  refine RL.call rfl func61 rfl rfl (by exact int_ok _ _ _ _ AO) ?_
  rintro v8 M8 _ ⟨hs8, rfl, hr8⟩
  obtain ⟨a8, c8, rfl, hc8, hlim8, hln8⟩ := hr8.slice
  refine RL.addRd hr8 ?_
  refine RL.nil ⟨keep_more (hs8) SB, ?_⟩
  refine HL.step 5 rfl KR ?_
  refine RL.call rfl func61 rfl rfl (by exact int_ok _ _ _ _ AO) ?_
  rintro v11 M11 _ ⟨hs11, rfl, hr11⟩
  obtain ⟨a11, c11, rfl, hc11, hlim11, hln11⟩ := hr11.slice
  refine RL.addRd hr11 ?_
  refine RL.nil ⟨keep_more (hs8.trans (hs11)) SB, ?_⟩
  refine HL.step 9 rfl KR ?_
  refine RL.call rfl func61 rfl rfl (by exact int_ok _ _ _ _ AO) ?_
  rintro v15 M15 _ ⟨hs15, rfl, hr15⟩
  obtain ⟨a15, c15, rfl, hc15, hlim15, hln15⟩ := hr15.slice
  refine RL.addRd hr15 ?_
  refine RL.nil ⟨keep_more (hs8.trans (hs11.trans (hs15))) SB, ?_⟩
  refine HL.step 10 rfl KR ?_
  refine RL.buildSlice [.slice a8 (encI v.kind).length c8, .slice a11 (encI v.n).length c11, .slice a15 (encI (v.kids.length : Int)).length c15] elem72 rfl (by decide) (fill3 (out := [.slice a8 (encI v.kind).length c8]) (out' := [.slice a11 (encI v.n).length c11]) (out'' := [.slice a15 (encI (v.kids.length : Int)).length c15]) rfl rfl rfl rfl rfl rfl) rfl fun b16 => ?_
  refine RL.nil ⟨keep_more (hs8.trans (hs11.trans (hs15))) SB, ?_⟩
  refine HL.step 11 rfl KR ?_
  refine RL.call rfl func60 rfl rfl (by exact concat_ok _ _ _ _ [.slice a8 (encI v.kind).length c8, .slice a11 (encI v.n).length c11, .slice a15 (encI (v.kids.length : Int)).length c15] [encI v.kind, encI v.n, encI (v.kids.length : Int)] (headB v).length (by simp only [headB, List.flatten_cons, List.flatten_nil, List.length_append, List.append_nil]; omega) (CellsK.own MM) (RdL.cons (Rd.mono (hs11.trans hs15) _ _ hr8) (RdL.cons (Rd.mono hs15 _ _ hr11) (RdL.cons hr15 (RdL.nil _)))) (by simp) (by simp; omega)) ?_
  rintro v17 M15 _ ⟨a17, c17, rfl, hc17, rfl, rfl⟩
  rw [show [encI v.kind, encI v.n, encI (v.kids.length : Int)].flatten = headB v from by simp [headB]]
  refine RL.nil ⟨keep_more (hs8.trans (hs11.trans (hs15))) SB, ?_⟩
  refine HL.take 12 rfl KR KR KR rfl (Y.assign rfl) rfl ?_
  refine HL.done KR ?_
  refine hK2 _ _ _ ?_
  refine CW.kp [1, 3] rfl ?_
  refine CW.seq fun K3 hK3 => ?_
  refine CW.seq fun K4 hK4 => ?_
  refine CW.region ?_
  refine RL.q (Y.field rfl field53_2) rfl ?_
  refine RL.loadOwnSl rfl rfl MM MM (by rfl) flat51 rfl fun a19 c19 hu19 hc19 hl19 => ?_
  refine RL.q (Y.len rfl Try.underlying51) rfl ?_
  refine RL.q (Y.move rfl) rfl ?_
  refine RL.nil ?_
  refine hK4 _ _ _ ?_
  refine CW.kp [3, 19, 20, 21] rfl ?_
  refine CW.block ?_
  -- LOOP 1: live [3, 19, 20, 21] changed [3, 21]
  refine CW.kp [3, 21, 19, 20] rfl ?_
  refine CW.front (x := .acc (.slice a17 (headB v).length c17) 5 1 (headB v).length (byteV (headB v))) PK ?_
  refine CW.loopF (fun m Lc M1 Γc => ∃ (k : Nat) (ua : Option Addr) (ca : Nat), m = v.kids.length - k ∧ k ≤ v.kids.length ∧ Lc = [(3, .slice ua (headB v ++ encVs (v.kids.take k)).length ca), (21, vint k)] ∧ Γc = [.acc (.slice ua (headB v ++ encVs (v.kids.take k)).length ca) 5 1 (headB v ++ encVs (v.kids.take k)).length (byteV (headB v ++ encVs (v.kids.take k)))]) v.kids.length [(3, _), (21, _)] [_] rfl rfl ⟨0, a17, c17, rfl, Nat.zero_le _, by simp [encVs], by simp [encVs]⟩ ?_
  rintro m Lc M1 Γc hs ⟨k, ua, ca, rfl, hk, rfl, rfl⟩
  refine CW.seq fun K5 hK5 => ?_
  refine CW.region ?_
  refine RL.q (Y.lss rfl rfl) rfl ?_
  refine RL.nil ?_
  refine hK5 _ _ _ ?_
  refine CW.kp [3, 19, 20, 21, 22] rfl ?_
  refine CW.seq fun K6 hK6 => ?_
  refine CW.ite rfl (fun h1 => ?_) (fun h1 => ?_)
  ·have hka : k < v.kids.length := by omega
   have hb1 := encB_le hok hsz (k + 1)
   rw [encVs_succ _ _ hka, ← List.append_assoc, List.length_append] at hb1
   refine CW.skip ?_
   refine hK6 _ _ _ ?_
   refine CW.seq fun K7 hK7 => ?_
   refine CW.block ?_
   refine CW.seq fun K8 hK8 => ?_
   refine CW.region ?_
   refine RL.q (Y.index _ rfl rfl rfl AO slice51 SM) rfl ?_
   refine RL.loadAgg rfl rfl MM (Eq.trans (flat_take Val.enc_len _ _ _ (List.getElem?_eq_getElem AO)) (Val.enc_eq _)) (by rfl) agg53 rfl fun us24 hul24 hur24 => ?_
   refine RL.alloc _ zero53 rfl rfl fun b5 => ?_
   refine RL.storeRds 3 rfl rfl RP MM EL (by first | exact Kn.lenRds MM EL | exact Kn.lenLit rfl) size53 ?_
   refine RL.nil ?_
   refine hK8 _ _ _ ?_
   refine CW.kp [3, 5, 19, 20, 21] rfl ?_
   refine CW.region ?_
   refine RL.q (Y.move rfl) rfl ?_
   refine RL.q (Y.loadAllR rfl MM MM EL agg53) rfl ?_
   refine RL.call rfl func37 rfl rfl (by exact ih _ (by rw [← hN]; exact Val.size_kid (List.getElem_mem hka)) _ _ _ v.kids[k] _ rfl (by first | exact Kn.val MM | fail) (hok.kid (List.getElem_mem hka)) (by have := Val.size_kid (List.getElem_mem hka); omega)) ?_
   rintro v27 M27 _ ⟨hs27, rfl, hr27⟩
   obtain ⟨a27, c27, rfl, hc27, hlim27, hln27⟩ := hr27.slice
   refine RL.addRd hr27 ?_
   refine RL.appendRd elem69 rfl rfl PK MM OM (by unfold lim; omega) rfl fun a28 c28 n28 hc28 hn28 => ?_
   refine RL.q (Y.assign rfl) rfl ?_
   refine RL.nil ?_
   refine hK7 _ _ _ ?_
   refine CW.kp [3, 19, 20, 21] rfl ?_
   refine CW.region ?_
   refine RL.q (Y.add rfl rfl OM) rfl ?_
   refine RL.q (Y.move rfl) rfl ?_
   refine RL.nil ?_
   have e28 : (headB v ++ encVs (v.kids.take (k + 1))).length = (headB v ++ encVs (v.kids.take k)).length + (encV v.kids[k]).length := by rw [encVs_succ _ _ hka, ← List.append_assoc, List.length_append]
   refine ⟨v.kids.length - (k + 1), [(3, _), (21, _)], ?_, (KP [3, 21, 19, 20]), ?_⟩
   · omega
   · refine Turn.drop (Γ' := [.acc (.slice a28 ((headB v ++ encVs (v.kids.take k)).length + (encV v.kids[k]).length) c28) 5 1 ((headB v ++ encVs (v.kids.take k)).length + (encV v.kids[k]).length) (byteV (headB v ++ encVs (v.kids.take k)) ++ n28)] ++ _) ⟨_, rfl, hs.trans hs27, k + 1, a28, c28, rfl, by omega, by rw [e28] <;> rfl, ?_⟩ SB
     rw [e28, encVs_succ _ _ hka, ← List.append_assoc, bytes_of_rd hn28]
     simp [byteV]
  refine CW.exit ?_
  refine hK3 _ _ _ ?_
  refine CW.seq fun K9 hK9 => ?_
  refine CW.region ?_
  refine RL.q (Y.move rfl) rfl ?_
  refine RL.q (Y.assign rfl) rfl ?_
  refine RL.nil ?_
  refine hK9 _ _ _ ?_
  refine CW.kp [2] rfl ?_
  refine CW.ret ?_
  obtain rfl : k = v.kids.length := by omega
  have hb1 := encB_le hok hsz v.kids.length
  have e : headB v ++ encVs (v.kids.take v.kids.length) = encV v := by rw [List.take_length, encV_head]
  rw [e] at hb1 ⊢
  exact ⟨_, rfl, Turn.sealAcc (ds := (encV v).map dbyte) PK (bytes_rd _) (by unfold lim; omega) SB fun M2 hs3 hr2 => ⟨hs8.trans (hs11.trans (hs15.trans (hs.trans hs3))), rfl, hr2⟩⟩
end Go.Proofs.Ytfgkhhfkodlbpaa
