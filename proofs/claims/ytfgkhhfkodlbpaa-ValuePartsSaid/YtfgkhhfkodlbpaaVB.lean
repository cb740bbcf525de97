/- THE LAW ValueParts. Printed by m04B.py. -/
import Derived.Test.YtfgkhhfkodlbpaaVy
import Derived.Test.YtfgkhhfkodlbpaaPureB
import Derived.Test.YtfgkhhfkodlbpaaXe4
namespace Go.Proofs.Ytfgkhhfkodlbpaa
open Xe

set_option maxHeartbeats 2000000 in
set_option maxRecDepth 4000 in
theorem ValueParts_ok (w0 : World) (M : Mem) (Γ : List As) (l : List Int) (ul : Value) (m1 : List Int) (um1 : Value) (wh : Int) (ov : Int)  (hl : Kn w0 M Γ (Rd M (dints l) ul)) (hm1 : Kn w0 M Γ (Rd M (dints m1) um1)) (hli : ∀ z ∈ l, InI z) (hmi1 : ∀ z ∈ m1, InI z) (hwi : InI wh) (hoi : InI ov) :
    CallOk Try.prog w0 M Γ 8 #[ul, um1, vint wh, vint ov] (Is M Γ (.bool true)) := by
  refine CallOk.kn hl fun hl => ?_
  obtain ⟨al, cl, rfl, hcl, hliml, hlenl⟩ := hl.slice
  refine CallOk.kn hm1 fun hm1 => ?_
  obtain ⟨am1, cm1, rfl, hcm1, hlimm1, hlenm1⟩ := hm1.slice
  have hmr := tMany_rng l
  have hdl : (typesP l).defs.length = tMany l := tDefs_len l (tMany l)
  have har := around_lt wh ((typesP l).defs.length : Nat) OM
  obtain ⟨kk, hkk⟩ := Int.eq_ofNat_of_zero_le har.1
  have hkl : kk < (typesP l).defs.length := by omega
  obtain ⟨hkm, hth, hid⟩ := types_get l hkl
  have hp12 : (4 : Int) ^ 12 ≤ 1099511627776 := by decide
  have hwf : wfT (typesP l) 12 (ofT (idK (1 + (kk : Int)))) := wfT_mono OM (types_wf l kk hkm)
  obtain ⟨hvs, hvd, hvf⟩ := types_val l m1 hkm
  have hlT := types_listT l hkm
  have hra := around_lt ov 4 OM
  obtain ⟨dd, hdd⟩ : ∃ dd, dd = (typesP l).defs[kk] := ⟨_, rfl⟩
  rw [← hdd] at hth hid
  simp only [tyK] at hvs hvd hvf hlT
  rw [← hid] at hth hwf hvs hvd hvf hlT
  have hkf := kid_fits (t := (ofT dd.id)) hth rfl hvf
  refine enter (f := 8) Try.func8 rfl Try.ntmps8 rfl rfl fun w1 hw1 => ?_
  refine CW.addRd hl ?_
  refine CW.addRd hm1 ?_
  refine CW.seq fun K1 hK1 => ?_
  refine CW.region ?_
  refine RL.q (Y.assign rfl) rfl ?_
  refine RL.nil ?_
  refine hK1 _ _ _ ?_
  refine CW.kp [0, 1, 2, 3] rfl ?_
  refine CW.seq fun K2 hK2 => ?_
  refine CW.region ?_
  refine RL.q (Y.move rfl) rfl ?_
  refine RL.call rfl func9 rfl rfl (by exact types_ok _ _ _ l _ (by exact Kn.rd MM) hli) ?_
  rintro v21 M21 _ ⟨hs21, rfl, us21, rfl, hr21⟩
  refine RL.addRds hr21 ?_
  have hul21 : us21.length = 2 := hr21.1.trans (ProgT.enc_len _)
  refine RL.alloc _ zero26 rfl rfl fun b9 => ?_
  refine RL.storeRds 2 rfl rfl RP MM EL (by first | exact Kn.lenRds MM EL | exact Kn.lenLit rfl) size26 ?_
  refine RL.nil ?_
  refine hK2 _ _ _ ?_
  refine CW.kp [1, 2, 3, 9] rfl ?_
  refine CW.cut (fun L' M' Γ' => ∃ b10 us30, Keep L' [(1, .slice am1 m1.length cm1), (3, vint ov), (9, .pointer (some (adr (some ⟨b9, 0, none⟩) 0))), (10, .pointer (some (adr (some ⟨b10, 0, none⟩) 0)))] ∧ M' = M21 ∧ us30.length = 31 ∧ RdL M21 dd.enc us30 ∧ ∀ w, St w0 M21 Γ' w → St w0 M21 (.own b10 46 us30 :: .own b9 26 us21 :: .rds (typesP l).enc us21 :: .rd (dints m1) (.slice am1 m1.length cm1) :: .rd (dints l) (.slice al l.length cl) :: Γ) w) ?_ ?_
  ·refine CW.regionH mix _ _ (fun _ hw => hw) ?_
   refine HL.take 0 rfl KR KR KR rfl (Y.field rfl field26_1) rfl ?_
   refine HL.loadOwnSl 1 rfl KR KR KR rfl rfl MM MM (by rfl) flat24 rfl fun a23 c23 hu23 hc23 hl23 => ?_
   refine HL.take 2 rfl KR KR KR rfl (Y.move rfl) rfl ?_
   refine HL.take 3 rfl KR KR KR rfl (Y.field rfl field26_1) rfl ?_
   refine HL.loadOwnSl 4 rfl KR KR KR rfl rfl MM MM (by rfl) flat24 rfl fun a26 c26 hu26 hc26 hl26 => ?_
   refine HL.take 5 rfl KR KR KR rfl (Y.len rfl Try.underlying24) rfl ?_
   refine HL.step2 6 9 rfl rfl KR ?_ ?_
   ·refine RL.callv rfl func11 rfl rfl (by exact around_ok _ _ _ wh _ hwi OM) ?_
    refine RL.nil ⟨keep_same SB, ?_⟩
    refine HL.take 7 rfl KR KR KR rfl (Y.index kk rfl rfl hkk OM slice24 (fun _ hw => hw.rd_some MM OM)) rfl ?_
    refine HL.loadAgg 8 rfl KR KR KR rfl rfl MM (Eq.trans (flat_take DefT.enc_len _ _ _ (List.getElem?_eq_getElem AO)) (DefT.enc_eq _)) (by rfl) agg46 rfl fun us30 hul30 hur30 => ?_
    refine HL.step 9 rfl KR ?_
    refine RL.alloc _ zero46 rfl rfl fun b10 => ?_
    refine RL.nil ⟨keep_same SB, ?_⟩
    refine HL.step 10 rfl KR ?_
    refine RL.storeRds 31 rfl rfl RP MM EL (by first | exact Kn.lenRds MM EL | exact Kn.lenLit rfl) size46 ?_
    refine RL.nil ⟨keep_same SB, ?_⟩
    refine HL.done KR ?_
    dsimp only [thenX]
    exact ⟨b10, us30, (by repeat (first | exact Keep.nil _ | refine Keep.cons _ rfl ?_)), rfl, hul30, by rw [hdd]; exact hur30, fun _ hw => hw.sub SB⟩
   refine RL.alloc _ zero46 rfl rfl fun b10 => ?_
   refine RL.nil ⟨keep_same SB, ?_⟩
   refine HL.step 6 rfl KR ?_
   refine RL.callv rfl func11 rfl rfl (by exact around_ok _ _ _ wh _ hwi OM) ?_
   refine RL.nil ⟨keep_same SB, ?_⟩
   refine HL.take 7 rfl KR KR KR rfl (Y.index kk rfl rfl hkk OM slice24 (fun _ hw => hw.rd_some MM OM)) rfl ?_
   refine HL.loadAgg 8 rfl KR KR KR rfl rfl MM (Eq.trans (flat_take DefT.enc_len _ _ _ (List.getElem?_eq_getElem AO)) (DefT.enc_eq _)) (by rfl) agg46 rfl fun us30 hul30 hur30 => ?_
   refine HL.step 10 rfl KR ?_
   refine RL.storeRds 31 rfl rfl RP MM EL (by first | exact Kn.lenRds MM EL | exact Kn.lenLit rfl) size46 ?_
   refine RL.nil ⟨keep_same SB, ?_⟩
   refine HL.done KR ?_
   dsimp only [thenX]
   exact ⟨b10, us30, (by repeat (first | exact Keep.nil _ | refine Keep.cons _ rfl ?_)), rfl, hul30, by rw [hdd]; exact hur30, fun _ hw => hw.sub SB⟩
  rintro _ M21 Γ2 ⟨b10, us30, hk2, rfl, hul30, hur30, hG2⟩
  refine CW.pre ?_ hk2 hG2
  refine CW.addRds hur30 ?_
  refine CW.cut (fun L' M' Γ' => ∃ b11 us36, Keep L' [(3, vint ov), (9, .pointer (some (adr (some ⟨b9, 0, none⟩) 0))), (10, .pointer (some (adr (some ⟨b10, 0, none⟩) 0))), (11, .pointer (some (adr (some ⟨b11, 0, none⟩) 0)))] ∧ Sub M21 M' ∧ us36.length = 3 ∧ RdL M' (valV (typesP l) 12 (ofT dd.id) m1).enc us36 ∧ ∀ w, St w0 M' Γ' w → St w0 M' (.own b11 53 us36 :: .rds dd.enc us30 :: .own b10 46 us30 :: .own b9 26 us21 :: .rds (typesP l).enc us21 :: .rd (dints m1) (.slice am1 m1.length cm1) :: .rd (dints l) (.slice al l.length cl) :: Γ) w) ?_ ?_
  ·refine CW.regionH mix _ _ (fun _ hw => hw) ?_
   refine HL.take 0 rfl KR KR KR rfl (Y.loadAllR rfl MM MM EL agg26) rfl ?_
   refine HL.take 1 rfl KR KR KR rfl (Y.field rfl field46_0) rfl ?_
   refine HL.take 2 rfl KR KR KR rfl (Y.loadAggV [_, _, _] rfl MM MM (by rfl) agg28) rfl ?_
   refine HL.take 4 rfl KR KR KR rfl (Y.move rfl) rfl ?_
   refine HL.step2 3 6 rfl rfl KR ?_ ?_
   ·refine RL.callv rfl func13 rfl rfl (by exact of_ok _ _ _ dd.id) ?_
    refine RL.nil ⟨keep_same SB, ?_⟩
    refine HL.step2 5 6 rfl rfl KR ?_ ?_
    ·refine RL.call rfl func22 rfl rfl (by exact value_ok _ _ _ _ _ (ofT dd.id) _ m1 _ 12 (by exact Kn.rds MM) (Kn.of (ty_rd dd.id)) (by exact Kn.rd MM) hwf hp12 OM hmi1) ?_
     rintro v36 M36 _ ⟨hs36, rfl, us36, rfl, hr36⟩
     refine RL.addRds hr36 ?_
     have hul36 : us36.length = 3 := hr36.1.trans (Val.enc_len _)
     refine RL.nil ⟨keep_more (hs36) SB, ?_⟩
     refine HL.step 6 rfl KR ?_
     refine RL.alloc _ zero53 rfl rfl fun b11 => ?_
     refine RL.nil ⟨keep_more (hs36) SB, ?_⟩
     refine HL.step 7 rfl KR ?_
     refine RL.storeRds 3 rfl rfl RP MM EL (by first | exact Kn.lenRds MM EL | exact Kn.lenLit rfl) size53 ?_
     refine RL.nil ⟨keep_more (hs36) SB, ?_⟩
     refine HL.done KR ?_
     dsimp only [thenX]
     exact ⟨b11, us36, (by repeat (first | exact Keep.nil _ | refine Keep.cons _ rfl ?_)), hs36, hul36, hr36, fun _ hw => hw.sub SB⟩
    refine RL.alloc _ zero53 rfl rfl fun b11 => ?_
    refine RL.nil ⟨keep_same SB, ?_⟩
    refine HL.step 5 rfl KR ?_
    refine RL.call rfl func22 rfl rfl (by exact value_ok _ _ _ _ _ (ofT dd.id) _ m1 _ 12 (by exact Kn.rds MM) (Kn.of (ty_rd dd.id)) (by exact Kn.rd MM) hwf hp12 OM hmi1) ?_
    rintro v36 M36 _ ⟨hs36, rfl, us36, rfl, hr36⟩
    refine RL.addRds hr36 ?_
    have hul36 : us36.length = 3 := hr36.1.trans (Val.enc_len _)
    refine RL.nil ⟨keep_more (hs36) SB, ?_⟩
    refine HL.step 7 rfl KR ?_
    refine RL.storeRds 3 rfl rfl RP MM EL (by first | exact Kn.lenRds MM EL | exact Kn.lenLit rfl) size53 ?_
    refine RL.nil ⟨keep_more (hs36) SB, ?_⟩
    refine HL.done KR ?_
    dsimp only [thenX]
    exact ⟨b11, us36, (by repeat (first | exact Keep.nil _ | refine Keep.cons _ rfl ?_)), hs36, hul36, hr36, fun _ hw => hw.sub SB⟩
   refine RL.alloc _ zero53 rfl rfl fun b11 => ?_
   refine RL.nil ⟨keep_same SB, ?_⟩
   refine HL.step 3 rfl KR ?_
   refine RL.callv rfl func13 rfl rfl (by exact of_ok _ _ _ dd.id) ?_
   refine RL.nil ⟨keep_same SB, ?_⟩
   refine HL.step 5 rfl KR ?_
   refine RL.call rfl func22 rfl rfl (by exact value_ok _ _ _ _ _ (ofT dd.id) _ m1 _ 12 (by exact Kn.rds MM) (Kn.of (ty_rd dd.id)) (by exact Kn.rd MM) hwf hp12 OM hmi1) ?_
   rintro v36 M36 _ ⟨hs36, rfl, us36, rfl, hr36⟩
   refine RL.addRds hr36 ?_
   have hul36 : us36.length = 3 := hr36.1.trans (Val.enc_len _)
   refine RL.nil ⟨keep_more (hs36) SB, ?_⟩
   refine HL.step 7 rfl KR ?_
   refine RL.storeRds 3 rfl rfl RP MM EL (by first | exact Kn.lenRds MM EL | exact Kn.lenLit rfl) size53 ?_
   refine RL.nil ⟨keep_more (hs36) SB, ?_⟩
   refine HL.done KR ?_
   dsimp only [thenX]
   exact ⟨b11, us36, (by repeat (first | exact Keep.nil _ | refine Keep.cons _ rfl ?_)), hs36, hul36, hr36, fun _ hw => hw.sub SB⟩
  rintro _ M36 Γ3 ⟨b11, us36, hk3, hs36, hul36, hr36, hG3⟩
  refine CW.pre ?_ hk3 hG3
  obtain ⟨v, hv⟩ : ∃ v, v = (valV (typesP l) 12 (ofT dd.id) m1) := ⟨_, rfl⟩
  rw [← hv] at hvs hvd hvf hkf hr36
  refine CW.addRds hr36 ?_
  have hw : w64 (v.size : Int) = (v.size : Int) := w64_in OM
  have hr36e := hr36
  rw [Val.enc_eq] at hr36e
  refine CW.addRds hr36e ?_
  refine CW.seq fun K3 hK3 => ?_
  refine CW.seq fun K4 hK4 => ?_
  refine CW.region ?_
  refine RL.q (Y.assign rfl) rfl ?_
  refine RL.nil ?_
  refine hK4 _ _ _ ?_
  refine CW.kp [3, 9, 10, 11, 12] rfl ?_
  refine CW.block ?_
  -- LOOP 1: live [3, 9, 10, 11, 12] changed [12]
  refine CW.kp [12, 3, 9, 10, 11] rfl ?_
  refine CW.loopF (fun m Lc M1 Γc => ∃ k : Nat, m = v.kids.length - k ∧ k ≤ v.kids.length ∧ Lc = [(12, vint k)] ∧ Γc = [] ∧ M1 = M36) (v.kids.length) [(12, _)] _ rfl rfl ⟨0, rfl, Nat.zero_le _, rfl, rfl, rfl⟩ ?_
  rintro m Lc M36 Γc hs ⟨k, rfl, hk, rfl, rfl, rfl⟩
  refine CW.seq fun K5 hK5 => ?_
  refine CW.seq fun K6 hK6 => ?_
  refine CW.region ?_
  refine RL.q (Y.move rfl) rfl ?_
  refine RL.q (Y.field rfl field53_2) rfl ?_
  refine RL.loadOwnSl rfl rfl MM MM (by rfl) flat51 rfl fun a39 c39 hu39 hc39 hl39 => ?_
  refine RL.q (Y.len rfl Try.underlying51) rfl ?_
  refine RL.q (Y.lss rfl rfl) rfl ?_
  refine RL.nil ?_
  refine hK6 _ _ _ ?_
  refine CW.kp [3, 9, 10, 11, 12, 41] rfl ?_
  refine CW.ite rfl (fun h1 => ?_) (fun h1 => ?_)
  ·have hka : k < v.kids.length := by omega
   refine CW.skip ?_
   refine hK5 _ _ _ ?_
   refine CW.seq fun K7 hK7 => ?_
   refine CW.block ?_
   refine CW.seq fun K8 hK8 => ?_
   refine CW.region ?_
   refine RL.q (Y.move rfl) rfl ?_
   refine RL.q (Y.assign rfl) rfl ?_
   refine RL.nil ?_
   refine hK8 _ _ _ ?_
   refine CW.kp [3, 9, 10, 11, 12, 13] rfl ?_
   refine CW.seq fun K9 hK9 => ?_
   refine CW.seq fun K10 hK10 => ?_
   refine CW.region ?_
   refine RL.q (Y.field rfl field46_1) rfl ?_
   refine RL.q (Y.loadOwnV rfl MM MM (by rfl) flat3) rfl ?_
   refine RL.q (Y.eql rfl rfl) rfl ?_
   refine RL.nil ?_
   refine hK10 _ _ _ ?_
   refine CW.kp [3, 9, 10, 11, 12, 13, 47] rfl ?_
   refine CW.ite rfl (fun h2 => ?_) (fun h2 => ?_)
   ·obtain ⟨jx, hjx, hjl, hjf⟩ := hkf.1 h2
    have hkv := kid_valid OM OM (List.getElem_mem hka) (hjf k hka)
    refine CW.region ?_
    refine RL.q (Y.field rfl field53_1) rfl ?_
    refine RL.q (Y.loadOwnV rfl MM MM (by rfl) flat3) rfl ?_
    refine RL.q (Y.assign rfl) rfl ?_
    refine RL.nil ?_
    refine hK9 _ _ _ ?_
    refine CW.kp [3, 9, 10, 11, 12, 13] rfl ?_
    refine CW.seq fun K11 hK11 => ?_
    refine CW.regionQ mix KR ?_
    refine QL.q (Y.loadAllR rfl MM MM EL agg26) rfl ?_
    refine QL.q (Y.field rfl field46_4) rfl ?_
    refine QL.loadOwnSl rfl rfl MM MM (by rfl) flat40 rfl fun a52 c52 hu52 hc52 hl52 => ?_
    refine QL.q (Y.move rfl) rfl ?_
    refine QL.q (Y.index jx rfl rfl OM hjl slice40 (fun _ hw => hw.rd_some MM OM)) rfl ?_
    refine QL.q (Y.field rfl field66_2) rfl ?_
    refine QL.loadAgg rfl rfl MM (Eq.trans (flat_sub SlotT.enc_len _ _ _ (List.getElem?_eq_getElem AO) _ _ (Nat.le_of_ble_eq_true rfl)) (by rw [SlotT.enc_eq] <;> rfl)) (by rfl) agg31 rfl fun us56 hul56 hur56 => ?_
    refine QL.q (Y.field rfl field53_2) rfl ?_
    refine QL.loadOwnSl rfl rfl MM MM (by rfl) flat51 rfl fun a58 c58 hu58 hc58 hl58 => ?_
    refine QL.q (Y.move rfl) rfl ?_
    refine QL.q (Y.index _ rfl rfl rfl AO slice51 SM) rfl ?_
    refine QL.loadAgg rfl rfl MM (Eq.trans (flat_take Val.enc_len _ _ _ (List.getElem?_eq_getElem AO)) (Val.enc_eq _)) (by rfl) agg53 rfl fun us61 hul61 hur61 => ?_
    refine QL.callv rfl func24 rfl rfl (by exact fun _ hC => CallOk.val (valid_ok _ _ _ (typesP l) _ (dd.slots[jx]'hjl).ty _ (v.kids[k]'hka) _ (Kn.via hC KK) (Kn.via hC KK) (Kn.via hC KK)) (v' := .bool true) (congrArg Value.bool (decide_eq_true hkv))) ?_
    refine QL.q (Y.not rfl) rfl ?_
    refine QL.nil ?_
    refine hK11 _ _ _ ?_
    refine CW.kp [3, 9, 10, 11, 12, 63] rfl ?_
    refine CW.no rfl ?_
    refine CW.skip ?_
    refine hK7 _ _ _ ?_
    refine CW.region ?_
    refine RL.q (Y.move rfl) rfl ?_
    refine RL.q (Y.add rfl rfl OM) rfl ?_
    refine RL.q (Y.assign rfl) rfl ?_
    refine RL.nil ?_
    refine ⟨v.kids.length - (k + 1), [(12, _)], ?_, (KP [12, 3, 9, 10, 11]), ?_⟩
    · omega
    · exact Turn.drop ⟨[], rfl, hs, k + 1, rfl, by omega, rfl, rfl, rfl⟩ SB
   have hkq := hkf.2 h2
   obtain ⟨jx, hjx⟩ : ∃ jx, jx = k := ⟨_, rfl⟩
   have hjl : jx < dd.slots.length := by omega
   have hkv : validV (typesP l) (dd.slots[jx]).ty (v.kids[k]) := by subst hjx; exact kid_valid OM OM (List.getElem_mem hka) (hkq.2 jx hka hjl)
   refine CW.skip ?_
   refine hK9 _ _ _ ?_
   refine CW.seq fun K12 hK12 => ?_
   refine CW.regionQ mix KR ?_
   refine QL.q (Y.loadAllR rfl MM MM EL agg26) rfl ?_
   refine QL.q (Y.field rfl field46_4) rfl ?_
   refine QL.loadOwnSl rfl rfl MM MM (by rfl) flat40 rfl fun a52 c52 hu52 hc52 hl52 => ?_
   refine QL.q (Y.move rfl) rfl ?_
   refine QL.q (Y.index jx rfl rfl OM hjl slice40 (fun _ hw => hw.rd_some MM OM)) rfl ?_
   refine QL.q (Y.field rfl field66_2) rfl ?_
   refine QL.loadAgg rfl rfl MM (Eq.trans (flat_sub SlotT.enc_len _ _ _ (List.getElem?_eq_getElem AO) _ _ (Nat.le_of_ble_eq_true rfl)) (by rw [SlotT.enc_eq] <;> rfl)) (by rfl) agg31 rfl fun us56 hul56 hur56 => ?_
   refine QL.q (Y.field rfl field53_2) rfl ?_
   refine QL.loadOwnSl rfl rfl MM MM (by rfl) flat51 rfl fun a58 c58 hu58 hc58 hl58 => ?_
   refine QL.q (Y.move rfl) rfl ?_
   refine QL.q (Y.index _ rfl rfl rfl AO slice51 SM) rfl ?_
   refine QL.loadAgg rfl rfl MM (Eq.trans (flat_take Val.enc_len _ _ _ (List.getElem?_eq_getElem AO)) (Val.enc_eq _)) (by rfl) agg53 rfl fun us61 hul61 hur61 => ?_
   refine QL.callv rfl func24 rfl rfl (by exact fun _ hC => CallOk.val (valid_ok _ _ _ (typesP l) _ (dd.slots[jx]'hjl).ty _ (v.kids[k]'hka) _ (Kn.via hC KK) (Kn.via hC KK) (Kn.via hC KK)) (v' := .bool true) (congrArg Value.bool (decide_eq_true hkv))) ?_
   refine QL.q (Y.not rfl) rfl ?_
   refine QL.nil ?_
   refine hK12 _ _ _ ?_
   refine CW.kp [3, 9, 10, 11, 12, 63] rfl ?_
   refine CW.no rfl ?_
   refine CW.skip ?_
   refine hK7 _ _ _ ?_
   refine CW.region ?_
   refine RL.q (Y.move rfl) rfl ?_
   refine RL.q (Y.add rfl rfl OM) rfl ?_
   refine RL.q (Y.assign rfl) rfl ?_
   refine RL.nil ?_
   refine ⟨v.kids.length - (k + 1), [(12, _)], ?_, (KP [12, 3, 9, 10, 11]), ?_⟩
   · omega
   · exact Turn.drop ⟨[], rfl, hs, k + 1, rfl, by omega, rfl, rfl, rfl⟩ SB
  refine CW.exit ?_
  refine hK3 _ _ _ ?_
  refine CW.seq fun K13 hK13 => ?_
  refine CW.region ?_
  refine RL.q (Y.field rfl field46_0) rfl ?_
  refine RL.q (Y.loadAggV [_, _, _] rfl MM MM (by rfl) agg28) rfl ?_
  refine RL.callv rfl func13 rfl rfl (by exact of_ok _ _ _ dd.id) ?_
  refine RL.call rfl func12 rfl rfl (by exact list_ok _ _ _ (ofT dd.id) _ (Kn.of (ty_rd dd.id))) ?_
  rintro v67 M67 _ ⟨hs67, rfl, us67, rfl, hr67⟩
  refine RL.addRds hr67 ?_
  have hul67 : us67.length = 5 := hr67.1.trans (Ty.enc_len _)
  refine RL.alloc _ zero31 rfl rfl fun b14 => ?_
  refine RL.storeRds 5 rfl rfl RP MM EL (by first | exact Kn.lenRds MM EL | exact Kn.lenLit rfl) size31 ?_
  refine RL.nil ?_
  refine hK13 _ _ _ ?_
  refine CW.kp [3, 9, 11, 14] rfl ?_
  refine CW.seq fun K14 hK14 => ?_
  refine CW.region ?_
  refine RL.q (Y.loadAllR rfl MM MM EL agg53) rfl ?_
  refine RL.q (Y.loadAllR rfl MM MM EL agg53) rfl ?_
  refine RL.buildSlice [us36, us36].flatten elem51 rfl (by decide) (fillRow (vs := [.agg us36.toArray, .agg us36.toArray]) (outs := [us36, us36]) rfl (by simp [hul36])) rfl fun b70 => ?_
  refine RL.q (Y.build [_, _, _] rfl zero53 places53 (by rfl)) rfl ?_
  refine RL.alloc _ zero53 rfl rfl fun b15 => ?_
  refine RL.storeAgg _ rfl rfl RP (by rfl) (by first | (simp; done) | simp [IdT.vals]) (by first | (simp [Value.oneCell']; done) | simp [Value.oneCell', IdT.vals]) size53 ?_
  refine RL.nil ?_
  refine hK14 _ _ _ ?_
  refine CW.kp [3, 9, 11, 14, 15] rfl ?_
  refine CW.know (Kn.rds (ds := v.enc) (us := us36) MM) fun hA => ?_
  refine CW.sealOwn (b := b70) (k := 2) (sz := 3) (ds := [v, v].flatMap Val.enc) PK (by simpa using hA.append hA) (by simp [hul36]) (by unfold lim; omega) fun Mb70 hsb70 hrb70 => ?_
  refine CW.addRds (node_rd 4 0 [v, v] hrb70) ?_
  refine CW.seq fun K15 hK15 => ?_
  refine CW.region ?_
  refine RL.q (Y.loadAllR rfl MM MM EL agg53) rfl ?_
  refine RL.buildSlice us36 elem51 rfl (by decide) (fill1 rfl hul36) rfl fun b73 => ?_
  refine RL.q (Y.build [_, _, _] rfl zero53 places53 (by rfl)) rfl ?_
  refine RL.alloc _ zero53 rfl rfl fun b16 => ?_
  refine RL.storeAgg _ rfl rfl RP (by rfl) (by first | (simp; done) | simp [IdT.vals]) (by first | (simp [Value.oneCell']; done) | simp [Value.oneCell', IdT.vals]) size53 ?_
  refine RL.nil ?_
  refine hK15 _ _ _ ?_
  refine CW.kp [3, 9, 11, 14, 15, 16] rfl ?_
  refine CW.know (Kn.rds (ds := v.enc) (us := us36) MM) fun hA => ?_
  refine CW.sealOwn (b := b73) (k := 1) (sz := 3) (ds := [v].flatMap Val.enc) PK (by simpa using hA) hul36 (by unfold lim; omega) fun Mb73 hsb73 hrb73 => ?_
  refine CW.addRds (node_rd 4 0 [v] hrb73) ?_
  refine CW.seq fun K16 hK16 => ?_
  refine CW.regionQ mix KR ?_
  refine QL.q (Y.loadAllR rfl MM MM EL agg26) rfl ?_
  refine QL.q (Y.loadAllR rfl MM MM EL agg31) rfl ?_
  refine QL.q (Y.loadAllR rfl MM MM EL agg53) rfl ?_
  refine QL.callv rfl func24 rfl rfl (by exact fun _ hC => valid_ok _ _ _ (typesP l) _ (listT (ofT dd.id)) _ (.mk 4 0 [v, v]) _ (Kn.via hC KK) (Kn.via hC KK) (Kn.via hC KK)) ?_
  refine QL.q (Y.loadAllR rfl MM MM EL agg53) rfl ?_
  refine QL.callv rfl func27 rfl rfl (by exact fun _ hC => (hw ▸ size_ok _ _ _ _ v us36 rfl (Kn.via hC KK))) ?_
  refine QL.q (Y.mul rfl rfl OM) rfl ?_
  refine QL.q (Y.add rfl rfl OM) rfl ?_
  refine QL.q (Y.leq rfl rfl) rfl ?_
  refine QL.q (Y.litB true (Y.eqlBB Try.underlying4 rfl rfl) (congrArg Value.bool (beqD (two_iff hlT hvd hvf)))) rfl ?_
  refine QL.q (Y.assign rfl) rfl ?_
  refine QL.nil ?_
  refine hK16 _ _ _ ?_
  refine CW.kp [3, 9, 14, 15, 16, 17] rfl ?_
  refine CW.seq fun K17 hK17 => ?_
  refine CW.region ?_
  refine RL.q (Y.move rfl) rfl ?_
  refine RL.callv rfl func11 rfl rfl (by exact around_ok _ _ _ ov 4 hoi OM) ?_
  refine RL.q (Y.add rfl rfl OM) rfl ?_
  refine RL.q (Y.assign rfl) rfl ?_
  refine RL.nil ?_
  refine hK17 _ _ _ ?_
  refine CW.kp [9, 14, 15, 16, 17, 18] rfl ?_
  refine CW.seq fun K18 hK18 => ?_
  refine CW.regionQ mix KR ?_
  refine QL.q (Y.loadAllR rfl MM MM EL agg26) rfl ?_
  refine QL.q (Y.build [_, _, _, _, _] rfl zero31 places31 (by rfl)) rfl ?_
  refine QL.q (Y.move rfl) rfl ?_
  refine QL.callv rfl func26 rfl rfl (by exact fun _ hC => num_ok _ _ _ _) ?_
  refine QL.callv rfl func24 rfl rfl (by exact fun _ hC => valid_ok _ _ _ (typesP l) _ ty0 _ (.mk 0 (1099511627775 + around ov 4) []) _ (Kn.via hC KK) (Kn.of ty0_rd) (Kn.of (leaf_rd 0 _))) ?_
  refine QL.q (Y.move rfl) rfl ?_
  refine QL.q (Y.leq rfl rfl) rfl ?_
  refine QL.q (Y.litB true (Y.eqlBB Try.underlying4 rfl rfl) (congrArg Value.bool (beqD ((num_iff _ _).trans OM)))) rfl ?_
  refine QL.q (Y.move rfl) rfl ?_
  refine QL.qg WG (Y.loadAllR rfl MM MM EL agg26) rfl ?_
  refine QL.qg WG (Y.build [_, _, _, _, _] rfl zero31 places31 (by rfl)) rfl ?_
  refine QL.qg WG (Y.move rfl) rfl ?_
  refine QL.qg WG (Y.neg rfl OM) rfl ?_
  refine QL.callv WG func26 rfl rfl (by exact fun _ hC => num_ok _ _ _ _) ?_
  refine QL.callv WG func24 rfl rfl (by exact fun _ hC => valid_ok _ _ _ (typesP l) _ ty0 _ (.mk 0 (-(1099511627775 + around ov 4)) []) _ (Kn.via hC KK) (Kn.of ty0_rd) (Kn.of (leaf_rd 0 _))) ?_
  refine QL.qg WG (Y.move rfl) rfl ?_
  refine QL.qg WG (Y.leq rfl rfl) rfl ?_
  refine QL.qg WG (Y.litB true (Y.eqlBB Try.underlying4 rfl rfl) (congrArg Value.bool (beqD ((num_iff _ _).trans OM)))) rfl ?_
  refine QL.q (Y.pickT rfl rfl) rfl ?_
  refine QL.q (Y.assign rfl) rfl ?_
  refine QL.nil ?_
  refine hK18 _ _ _ ?_
  refine CW.kp [9, 14, 15, 16, 17, 19] rfl ?_
  refine CW.seq fun K19 hK19 => ?_
  refine CW.region ?_
  refine RL.q (Y.litB true (Y.move rfl) (rfl)) rfl ?_
  refine RL.q (Y.move rfl) rfl ?_
  refine RL.qg WG (Y.litB true (Y.move rfl) (rfl)) rfl ?_
  refine RL.q (Y.pickT rfl rfl) rfl ?_
  refine RL.q (Y.move rfl) rfl ?_
  refine RL.qg WG (Y.loadAllR rfl MM MM EL agg26) rfl ?_
  refine RL.qg WG (Y.loadAllR rfl MM MM EL agg31) rfl ?_
  refine RL.qg WG (Y.loadAllR rfl MM MM EL agg53) rfl ?_
  refine RL.callvs WG func24 rfl rfl (by exact valid_ok _ _ _ (typesP l) _ (listT (ofT dd.id)) _ (.mk 4 0 [v, v]) _ KK KK KK) (fun g115 => ?_) (fun g115 => ?_)
  ·refine RL.qg WG (Y.not rfl) rfl ?_
   refine RL.qg WG (Y.move rfl) rfl ?_
   refine RL.qg WG (Y.loadAllR rfl MM MM EL agg26) rfl ?_
   refine RL.qg WG (Y.loadAllR rfl MM MM EL agg31) rfl ?_
   refine RL.qg WG (Y.loadAllR rfl MM MM EL agg53) rfl ?_
   refine RL.callv WG func24 rfl rfl (by exact CallOk.val (valid_ok _ _ _ (typesP l) _ (listT (ofT dd.id)) _ (.mk 4 0 [v]) _ KK KK KK) (v' := .bool true) (congrArg Value.bool (decide_eq_true (one_of_two hlT hvd hvf g115)))) ?_
   refine RL.qg WG (Y.pickF rfl rfl) rfl ?_
   refine RL.q (Y.pickT rfl rfl) rfl ?_
   refine RL.q (Y.move rfl) rfl ?_
   refine RL.callv WG func21 rfl rfl (by exact lives_ok _ _ _) ?_
   refine RL.q (Y.pickT rfl rfl) rfl ?_
   refine RL.q (Y.assign rfl) rfl ?_
   refine RL.nil ?_
   refine hK19 _ _ _ ?_
   refine CW.kp [8] rfl ?_
   refine CW.ret ?_
   exact ⟨_, rfl, Turn.back hw1 (hs21.trans (hs36.trans (hs.trans (hs67.trans (hsb70.trans hsb73))))) ⟨rfl, rfl, rfl⟩ SB⟩
  refine RL.qg WG (Y.not rfl) rfl ?_
  refine RL.qg WG (Y.move rfl) rfl ?_
  refine RL.no WG rfl ?_
  refine RL.no WG rfl ?_
  refine RL.no WG rfl ?_
  refine RL.no WG rfl ?_
  refine RL.qg WG (Y.pickT rfl rfl) rfl ?_
  refine RL.q (Y.pickT rfl rfl) rfl ?_
  refine RL.q (Y.move rfl) rfl ?_
  refine RL.callv WG func21 rfl rfl (by exact lives_ok _ _ _) ?_
  refine RL.q (Y.pickT rfl rfl) rfl ?_
  refine RL.q (Y.assign rfl) rfl ?_
  refine RL.nil ?_
  refine hK19 _ _ _ ?_
  refine CW.kp [8] rfl ?_
  refine CW.ret ?_
  exact ⟨_, rfl, Turn.back hw1 (hs21.trans (hs36.trans (hs.trans (hs67.trans (hsb70.trans hsb73))))) ⟨rfl, rfl, rfl⟩ SB⟩
end Go.Proofs.Ytfgkhhfkodlbpaa
