/- THE LAW ValueValid. Printed by m04D.py. -/
import Derived.Test.YtfgkhhfkodlbpaaVz
import Derived.Test.YtfgkhhfkodlbpaaPureB
namespace Go.Proofs.Ytfgkhhfkodlbpaa
open Xe

set_option maxHeartbeats 4000000 in
set_option maxRecDepth 4000 in
theorem ValueValid_ok (w0 : World) (M : Mem) (Γ : List As) (l : List Int) (ul : Value) (m1 : List Int) (um1 : Value) (wh : Int) (pos : Int) (how : Int) (wth : Int) (t : Ty) (ust : List Value) (v : Val) (usv : List Value)  (hl : Kn w0 M Γ (Rd M (dints l) ul)) (hm1 : Kn w0 M Γ (Rd M (dints m1) um1)) (ht : Kn w0 M Γ (RdL M t.enc ust)) (hv : Kn w0 M Γ (RdL M v.enc usv)) (hli : ∀ z ∈ l, InI z) (hmi1 : ∀ z ∈ m1, InI z) (hwi : InI wh) (hpi : InI pos) (hhi : InI how) (hti : InI wth) (hvz : v.size ≤ 1048576) :
    CallOk Try.prog w0 M Γ 4 #[ul, um1, vint wh, vint pos, vint how, vint wth, .agg ust.toArray, .agg usv.toArray] (Is M Γ (.bool true)) := by
  refine CallOk.kn hl fun hl => ?_
  obtain ⟨al, cl, rfl, hcl, hliml, hlenl⟩ := hl.slice
  refine CallOk.kn hm1 fun hm1 => ?_
  obtain ⟨am1, cm1, rfl, hcm1, hlimm1, hlenm1⟩ := hm1.slice
  refine CallOk.kn ht fun ht => ?_
  rw [Ty.enc_eq] at ht
  refine CallOk.kn hv fun hv => ?_
  rw [Val.enc_eq] at hv
  have hmr := tMany_rng l
  have hdl : (typesP l).defs.length = tMany l := tDefs_len l (tMany l)
  have har := around_lt wh ((typesP l).defs.length : Nat) OM
  obtain ⟨kk, hkk⟩ := Int.eq_ofNat_of_zero_le har.1
  have hkl : kk < (typesP l).defs.length := by omega
  obtain ⟨hkm, hth, hid⟩ := types_get l hkl
  have hp12 : (4 : Int) ^ 12 ≤ 1099511627776 := by decide
  have hwf : wfT (typesP l) 12 (ofT (idK (1 + (kk : Int)))) := wfT_mono OM (types_wf l kk hkm)
  obtain ⟨hxs, hxd, _⟩ := types_val l m1 hkm
  have hxv := types_valid l m1 hkm
  simp only [tyK] at hxs hxd hxv
  have hxf := valV_fine (l := m1) hwf
  have hrp := around_lt pos 12 OM
  have hr5 := around_lt wth 5 OM
  have hr4 := around_lt wth 4 OM
  obtain ⟨N1, hN1⟩ := Int.eq_ofNat_of_zero_le (show 0 ≤ 253 + around wth 5 by omega)
  obtain ⟨N2, hN2⟩ := Int.eq_ofNat_of_zero_le (show 0 ≤ 21 + around wth 4 by omega)
  have hvd := Val.depth_le v
  have hds := dpV_size N2
  have hdd := Val.depth_le (dpV N2)
  refine enter (f := 4) Try.func4 rfl Try.ntmps4 rfl rfl fun w1 hw1 => ?_
  refine CW.addRd hl ?_
  refine CW.addRd hm1 ?_
  refine CW.addRds ht ?_
  refine CW.addRds hv ?_
  refine CW.seq fun K1 hK1 => ?_
  refine CW.region ?_
  refine RL.box _ rfl rfl rfl fun b14 => ?_
  refine RL.box _ rfl rfl rfl fun b15 => ?_
  refine RL.q (Y.assign rfl) rfl ?_
  refine RL.nil ?_
  refine hK1 _ _ _ ?_
  refine CW.kp [0, 1, 2, 3, 4, 5, 14, 15] rfl ?_
  refine CW.seq fun K2 hK2 => ?_
  refine CW.region ?_
  refine RL.q (Y.move rfl) rfl ?_
  refine RL.call rfl func9 rfl rfl (by exact types_ok _ _ _ l _ (by exact Kn.rd MM) hli) ?_
  rintro v28 M28 _ ⟨hs28, rfl, us28, rfl, hr28⟩
  refine RL.addRds hr28 ?_
  have hul28 : us28.length = 2 := hr28.1.trans (ProgT.enc_len _)
  refine RL.alloc _ zero26 rfl rfl fun b17 => ?_
  refine RL.storeRds 2 rfl rfl RP MM EL (by first | exact Kn.lenRds MM EL | exact Kn.lenLit rfl) size26 ?_
  refine RL.nil ?_
  refine hK2 _ _ _ ?_
  refine CW.kp [1, 2, 3, 4, 5, 14, 15, 17] rfl ?_
  refine CW.seq fun K3 hK3 => ?_
  refine CW.region ?_
  refine RL.q (Y.move rfl) rfl ?_
  refine RL.q (Y.field rfl field26_1) rfl ?_
  refine RL.loadOwnSl rfl rfl MM MM (by rfl) flat24 rfl fun a31 c31 hu31 hc31 hl31 => ?_
  refine RL.q (Y.len rfl Try.underlying24) rfl ?_
  refine RL.callv rfl func11 rfl rfl (by exact around_ok _ _ _ wh _ hwi OM) ?_
  refine RL.q (Y.add rfl rfl OM) rfl ?_
  refine RL.callv rfl func14 rfl rfl (by exact id_ok _ _ _ (1 + around wh ((typesP l).defs.length : Nat)) OM OM) ?_
  refine RL.callv rfl func13 rfl rfl (by exact of_ok _ _ _ (idK (1 + around wh ((typesP l).defs.length : Nat)))) ?_
  refine RL.alloc _ zero31 rfl rfl fun b18 => ?_
  refine RL.storeAgg _ rfl rfl RP (by rfl) (by first | (simp; done) | simp [IdT.vals]) (by first | (simp [Value.oneCell']; done) | simp [Value.oneCell', IdT.vals]) size31 ?_
  refine RL.nil ?_
  refine hK3 _ _ _ ?_
  refine CW.kp [1, 3, 4, 5, 14, 15, 17, 18] rfl ?_
  rw [hkk]
  refine CW.seq fun K4 hK4 => ?_
  refine CW.region ?_
  refine RL.q (Y.loadAllR rfl MM MM EL agg26) rfl ?_
  refine RL.q (Y.loadAll rfl MM (by rfl) agg31) rfl ?_
  refine RL.q (Y.move rfl) rfl ?_
  refine RL.call rfl func22 rfl rfl (by exact value_ok _ _ _ _ _ (ofT (idK (1 + (kk : Int)))) _ m1 _ 12 (by exact Kn.rds MM) (Kn.of (ty_rd (idK (1 + (kk : Int))))) (by exact Kn.rd MM) hwf hp12 OM hmi1) ?_
  rintro v40 M40 _ ⟨hs40, rfl, us40, rfl, hr40⟩
  refine RL.addRds hr40 ?_
  have hul40 : us40.length = 3 := hr40.1.trans (Val.enc_len _)
  refine RL.alloc _ zero53 rfl rfl fun b19 => ?_
  refine RL.storeRds 3 rfl rfl RP MM EL (by first | exact Kn.lenRds MM EL | exact Kn.lenLit rfl) size53 ?_
  refine RL.nil ?_
  refine hK4 _ _ _ ?_
  refine CW.kp [3, 4, 5, 14, 15, 17, 18, 19] rfl ?_
  obtain ⟨x, hx⟩ : ∃ x, x = (valV (typesP l) 12 (ofT (idK (1 + (kk : Int)))) m1) := ⟨_, rfl⟩
  rw [← hx] at hxs hxd hxv hxf hr40
  refine CW.addRds hr40 ?_
  refine CW.cut (fun L' M' Γ' => ∃ b20 us46, Keep L' [(5, vint wth), (14, .pointer (some (adr (some ⟨b14, 0, none⟩) 0))), (15, .pointer (some (adr (some ⟨b15, 0, none⟩) 0))), (17, .pointer (some (adr (some ⟨b17, 0, none⟩) 0))), (18, .pointer (some (adr (some ⟨b18, 0, none⟩) 0))), (19, .pointer (some (adr (some ⟨b19, 0, none⟩) 0))), (20, .pointer (some (adr (some ⟨b20, 0, none⟩) 0)))] ∧ Sub M40 M' ∧ us46.length = 3 ∧ RdL M' (spoil how wth x (around pos 12)).enc us46 ∧ ∀ w, St w0 M' Γ' w → St w0 M' (.own b20 53 us46 :: .own b19 53 us40 :: .own b18 31 [vint 3, vint (idK (1 + (kk : Int))).shop, vint (idK (1 + (kk : Int))).seq, vint (idK (1 + (kk : Int))).index, .slice none 0 0] :: .own b17 26 us28 :: .rds (typesP l).enc us28 :: .own b15 53 usv :: .own b14 31 ust :: Γ) w) ?_ ?_
  ·refine CW.regionH mix _ _ (fun _ hw => hw) ?_
   refine HL.take 0 rfl KR KR KR rfl (Y.loadAllR rfl MM MM EL agg53) rfl ?_
   refine HL.take 1 rfl KR KR KR rfl (Y.move rfl) rfl ?_
   refine HL.take 3 rfl KR KR KR rfl (Y.move rfl) rfl ?_
   refine HL.take 4 rfl KR KR KR rfl (Y.move rfl) rfl ?_
   refine HL.step2 2 6 rfl rfl KR ?_ ?_
   ·refine RL.callv rfl func11 rfl rfl (by exact around_ok _ _ _ pos 12 hpi OM) ?_
    refine RL.nil ⟨keep_same SB, ?_⟩
    refine HL.step2 5 6 rfl rfl KR ?_ ?_
    ·refine RL.call rfl func23 rfl rfl (by exact spoilt_ok _ _ _ _ x _ (around pos 12) how wth rfl OM hxf.1 hxf.2 OM OM hhi hti (by exact Kn.rds MM)) ?_
     rintro v46 M46 _ ⟨hs46, rfl, us46, rfl, hr46⟩
     refine RL.addRds hr46 ?_
     have hul46 : us46.length = 3 := hr46.1.trans (Val.enc_len _)
     refine RL.nil ⟨keep_more (hs46) SB, ?_⟩
     refine HL.step 6 rfl KR ?_
     refine RL.alloc _ zero53 rfl rfl fun b20 => ?_
     refine RL.nil ⟨keep_more (hs46) SB, ?_⟩
     refine HL.step 7 rfl KR ?_
     refine RL.storeRds 3 rfl rfl RP MM EL (by first | exact Kn.lenRds MM EL | exact Kn.lenLit rfl) size53 ?_
     refine RL.nil ⟨keep_more (hs46) SB, ?_⟩
     refine HL.done KR ?_
     dsimp only [thenX]
     exact ⟨b20, us46, (by repeat (first | exact Keep.nil _ | refine Keep.cons _ rfl ?_)), hs46, hul46, hr46, fun _ hw => hw.sub SB⟩
    refine RL.alloc _ zero53 rfl rfl fun b20 => ?_
    refine RL.nil ⟨keep_same SB, ?_⟩
    refine HL.step 5 rfl KR ?_
    refine RL.call rfl func23 rfl rfl (by exact spoilt_ok _ _ _ _ x _ (around pos 12) how wth rfl OM hxf.1 hxf.2 OM OM hhi hti (by exact Kn.rds MM)) ?_
    rintro v46 M46 _ ⟨hs46, rfl, us46, rfl, hr46⟩
    refine RL.addRds hr46 ?_
    have hul46 : us46.length = 3 := hr46.1.trans (Val.enc_len _)
    refine RL.nil ⟨keep_more (hs46) SB, ?_⟩
    refine HL.step 7 rfl KR ?_
    refine RL.storeRds 3 rfl rfl RP MM EL (by first | exact Kn.lenRds MM EL | exact Kn.lenLit rfl) size53 ?_
    refine RL.nil ⟨keep_more (hs46) SB, ?_⟩
    refine HL.done KR ?_
    dsimp only [thenX]
    exact ⟨b20, us46, (by repeat (first | exact Keep.nil _ | refine Keep.cons _ rfl ?_)), hs46, hul46, hr46, fun _ hw => hw.sub SB⟩
   refine RL.alloc _ zero53 rfl rfl fun b20 => ?_
   refine RL.nil ⟨keep_same SB, ?_⟩
   refine HL.step 2 rfl KR ?_
   refine RL.callv rfl func11 rfl rfl (by exact around_ok _ _ _ pos 12 hpi OM) ?_
   refine RL.nil ⟨keep_same SB, ?_⟩
   refine HL.step 5 rfl KR ?_
   refine RL.call rfl func23 rfl rfl (by exact spoilt_ok _ _ _ _ x _ (around pos 12) how wth rfl OM hxf.1 hxf.2 OM OM hhi hti (by exact Kn.rds MM)) ?_
   rintro v46 M46 _ ⟨hs46, rfl, us46, rfl, hr46⟩
   refine RL.addRds hr46 ?_
   have hul46 : us46.length = 3 := hr46.1.trans (Val.enc_len _)
   refine RL.nil ⟨keep_more (hs46) SB, ?_⟩
   refine HL.step 7 rfl KR ?_
   refine RL.storeRds 3 rfl rfl RP MM EL (by first | exact Kn.lenRds MM EL | exact Kn.lenLit rfl) size53 ?_
   refine RL.nil ⟨keep_more (hs46) SB, ?_⟩
   refine HL.done KR ?_
   dsimp only [thenX]
   exact ⟨b20, us46, (by repeat (first | exact Keep.nil _ | refine Keep.cons _ rfl ?_)), hs46, hul46, hr46, fun _ hw => hw.sub SB⟩
  rintro _ M46 Γ4 ⟨b20, us46, hk4, hs46, hul46, hr46, hG4⟩
  refine CW.pre ?_ hk4 hG4
  refine CW.addRds hr46 ?_
  refine CW.addRds (hr40.mono hs46) ?_
  refine CW.addRds (ht.mono (hs28.trans (hs40.trans hs46))) ?_
  refine CW.addRds (hv.mono (hs28.trans (hs40.trans hs46))) ?_
  have hys := spoil_size how wth x (around pos 12)
  have hyd := Val.depth_le (spoil how wth x (around pos 12))
  refine CW.seq fun K5 hK5 => ?_
  refine CW.seq fun K6 hK6 => ?_
  refine CW.regionQ mix KR ?_
  refine QL.q (Y.loadAllR rfl MM MM EL agg26) rfl ?_
  refine QL.q (Y.loadAll rfl MM (by rfl) agg31) rfl ?_
  refine QL.q (Y.loadAllR rfl MM MM EL agg53) rfl ?_
  refine QL.callv rfl func24 rfl rfl (by exact fun _ hC => CallOk.val (valid_ok _ _ _ (typesP l) _ (ofT (idK (1 + (kk : Int)))) _ x _ (Kn.via hC KK) (Kn.of (ty_rd (idK (1 + (kk : Int))))) (Kn.via hC KK)) (v' := .bool true) (congrArg Value.bool (decide_eq_true hxv))) ?_
  refine QL.q (Y.not rfl) rfl ?_
  refine QL.q (Y.move rfl) rfl ?_
  refine QL.qg WG (Y.loadAllR rfl MM MM EL agg26) rfl ?_
  refine QL.qg WG (Y.loadAll rfl MM (by rfl) agg31) rfl ?_
  refine QL.qg WG (Y.loadAllR rfl MM MM EL agg53) rfl ?_
  refine QL.callv WG func24 rfl rfl (by exact fun _ hC => valid_ok _ _ _ (typesP l) _ (ofT (idK (1 + (kk : Int)))) _ (spoil how wth x (around pos 12)) _ (Kn.via hC KK) (Kn.of (ty_rd (idK (1 + (kk : Int))))) (Kn.via hC KK)) ?_
  refine QL.qg WG (Y.loadAllR rfl MM MM EL agg26) rfl ?_
  refine QL.qg WG (Y.loadAll rfl MM (by rfl) agg31) rfl ?_
  refine QL.qg WG (Y.loadAllR rfl MM MM EL agg53) rfl ?_
  refine QL.callv WG func25 rfl rfl (by exact fun _ hC => rvalid_ok _ _ _ (typesP l) _ (ofT (idK (1 + (kk : Int)))) _ (spoil how wth x (around pos 12)) _ (Kn.via hC KK) (Kn.of (ty_rd (idK (1 + (kk : Int))))) (Kn.via hC KK) OM OM) ?_
  refine QL.qg WG (Y.litB false (Y.neqD Try.underlying4 rfl rfl) (congrArg Value.bool (decide_eq_false (fun h => h (valid_iff _ _ _))))) rfl ?_
  refine QL.q (Y.pickF rfl rfl) rfl ?_
  refine QL.q (Y.move rfl) rfl ?_
  refine QL.qg WG (Y.loadAllR rfl MM MM EL agg26) rfl ?_
  refine QL.qg WG (Y.loadAllR rfl MM MM EL agg31) rfl ?_
  refine QL.qg WG (Y.loadAllR rfl MM MM EL agg53) rfl ?_
  refine QL.callv WG func24 rfl rfl (by exact fun _ hC => valid_ok _ _ _ (typesP l) _ t _ v _ (Kn.via hC KK) (Kn.via hC KK) (Kn.via hC KK)) ?_
  refine QL.qg WG (Y.loadAllR rfl MM MM EL agg26) rfl ?_
  refine QL.qg WG (Y.loadAllR rfl MM MM EL agg31) rfl ?_
  refine QL.qg WG (Y.loadAllR rfl MM MM EL agg53) rfl ?_
  refine QL.callv WG func25 rfl rfl (by exact fun _ hC => rvalid_ok _ _ _ (typesP l) _ t _ v _ (Kn.via hC KK) (Kn.via hC KK) (Kn.via hC KK) OM OM) ?_
  refine QL.qg WG (Y.litB false (Y.neqD Try.underlying4 rfl rfl) (congrArg Value.bool (decide_eq_false (fun h => h (valid_iff _ _ _))))) rfl ?_
  refine QL.q (Y.pickF rfl rfl) rfl ?_
  refine QL.q (Y.move rfl) rfl ?_
  refine QL.qg WG (Y.loadAllR rfl MM MM EL agg26) rfl ?_
  refine QL.qg WG (Y.loadAll rfl MM (by rfl) agg31) rfl ?_
  refine QL.qg WG (Y.loadAllR rfl MM MM EL agg53) rfl ?_
  refine QL.callv WG func24 rfl rfl (by exact fun _ hC => valid_ok _ _ _ (typesP l) _ (ofT (idK (1 + (kk : Int)))) _ v _ (Kn.via hC KK) (Kn.of (ty_rd (idK (1 + (kk : Int))))) (Kn.via hC KK)) ?_
  refine QL.qg WG (Y.loadAllR rfl MM MM EL agg26) rfl ?_
  refine QL.qg WG (Y.loadAll rfl MM (by rfl) agg31) rfl ?_
  refine QL.qg WG (Y.loadAllR rfl MM MM EL agg53) rfl ?_
  refine QL.callv WG func25 rfl rfl (by exact fun _ hC => rvalid_ok _ _ _ (typesP l) _ (ofT (idK (1 + (kk : Int)))) _ v _ (Kn.via hC KK) (Kn.of (ty_rd (idK (1 + (kk : Int))))) (Kn.via hC KK) OM OM) ?_
  refine QL.qg WG (Y.litB false (Y.neqD Try.underlying4 rfl rfl) (congrArg Value.bool (decide_eq_false (fun h => h (valid_iff _ _ _))))) rfl ?_
  refine QL.q (Y.pickF rfl rfl) rfl ?_
  refine QL.q (Y.move rfl) rfl ?_
  refine QL.qg WG (Y.loadAllR rfl MM MM EL agg26) rfl ?_
  refine QL.qg WG (Y.loadAllR rfl MM MM EL agg31) rfl ?_
  refine QL.qg WG (Y.loadAllR rfl MM MM EL agg53) rfl ?_
  refine QL.callv WG func24 rfl rfl (by exact fun _ hC => valid_ok _ _ _ (typesP l) _ t _ x _ (Kn.via hC KK) (Kn.via hC KK) (Kn.via hC KK)) ?_
  refine QL.qg WG (Y.loadAllR rfl MM MM EL agg26) rfl ?_
  refine QL.qg WG (Y.loadAllR rfl MM MM EL agg31) rfl ?_
  refine QL.qg WG (Y.loadAllR rfl MM MM EL agg53) rfl ?_
  refine QL.callv WG func25 rfl rfl (by exact fun _ hC => rvalid_ok _ _ _ (typesP l) _ t _ x _ (Kn.via hC KK) (Kn.via hC KK) (Kn.via hC KK) OM OM) ?_
  refine QL.qg WG (Y.litB false (Y.neqD Try.underlying4 rfl rfl) (congrArg Value.bool (decide_eq_false (fun h => h (valid_iff _ _ _))))) rfl ?_
  refine QL.q (Y.pickF rfl rfl) rfl ?_
  refine QL.nil ?_
  refine hK6 _ _ _ ?_
  refine CW.kp [5, 17, 95] rfl ?_
  refine CW.no rfl ?_
  refine CW.skip ?_
  refine hK5 _ _ _ ?_
  refine CW.seq fun K7 hK7 => ?_
  refine CW.region ?_
  refine RL.q (Y.build [_, _, _] rfl zero53 places53 (by rfl)) rfl ?_
  refine RL.alloc _ zero53 rfl rfl fun b21 => ?_
  refine RL.storeAgg _ rfl rfl RP (by rfl) (by first | (simp; done) | simp [IdT.vals]) (by first | (simp [Value.oneCell']; done) | simp [Value.oneCell', IdT.vals]) size53 ?_
  refine RL.nil ?_
  refine hK7 _ _ _ ?_
  refine CW.kp [5, 17, 21] rfl ?_
  refine CW.seq fun K8 hK8 => ?_
  refine CW.seq fun K9 hK9 => ?_
  refine CW.region ?_
  refine RL.q (Y.assign rfl) rfl ?_
  refine RL.nil ?_
  refine hK9 _ _ _ ?_
  refine CW.kp [5, 17, 21, 22] rfl ?_
  refine CW.block ?_
  -- LOOP 1: live [5, 17, 21, 22] changed [22]
  refine CW.kp [22, 5, 17, 21] rfl ?_
  refine CW.front (x := .own b21 53 [vint 4, vint 0, .slice none 0 0]) PK ?_
  refine CW.accNil 53 3 ?_
  refine CW.addRds (RdL.nil _) ?_
  refine CW.loopF (fun mm Lc M1 Γc => ∃ (k : Nat) (ua : Option Addr) (ca : Nat) (us : List Value), mm = N1 - k ∧ k ≤ N1 ∧ Lc = [(22, vint k)] ∧ Γc = [.rds ((numsL k).flatMap Val.enc) us, .acc (.slice ua k ca) 53 3 k us, .own b21 53 [vint 4, vint 0, .slice ua k ca]] ∧ M1 = M46) N1 [(22, _)] [_, _, _] rfl rfl ⟨0, none, 0, [], rfl, Nat.zero_le _, rfl, rfl, rfl⟩ ?_
  rintro mm Lc M46 Γc hs1 ⟨k, ua, ca, us, rfl, hk, rfl, rfl, rfl⟩
  refine CW.seq fun K10 hK10 => ?_
  refine CW.seq fun K11 hK11 => ?_
  refine CW.region ?_
  refine RL.q (Y.move rfl) rfl ?_
  refine RL.q (Y.move rfl) rfl ?_
  refine RL.callv rfl func11 rfl rfl (by exact around_ok _ _ _ wth 5 hti OM) ?_
  refine RL.q (Y.add rfl rfl OM) rfl ?_
  refine RL.q (Y.lss rfl rfl) rfl ?_
  refine RL.nil ?_
  refine hK11 _ _ _ ?_
  refine CW.kp [5, 17, 21, 22, 101] rfl ?_
  refine CW.ite rfl (fun h2 => ?_) (fun h2 => ?_)
  ·refine CW.skip ?_
   refine hK10 _ _ _ ?_
   refine CW.seq fun K12 hK12 => ?_
   refine CW.block ?_
   refine CW.regionGP 7 mix (x := .acc _ _ _ _ _) PK ?_
   refine HG.take 0 rfl KR KR KR rfl (Y.field rfl field53_2) rfl ?_
   refine HG.take 1 rfl KR KR KR rfl (Y.loadOwn rfl MM (by rfl) flat51) rfl ?_
   refine HG.take 2 rfl KR KR KR rfl (Y.move rfl) rfl ?_
   refine HG.step 3 rfl KR ?_
   refine RL.callv rfl func26 rfl rfl (by exact num_ok _ _ _ (k : Int)) ?_
   refine RL.nil ⟨keep_same SB, ?_⟩
   refine HG.step 4 rfl KR ?_
   refine RL.buildSlice [vint 0, vint k, .slice none 0 0] elem51 rfl (by decide) (fill1 rfl rfl) rfl fun b108 => ?_
   refine RL.nil ⟨keep_same SB, ?_⟩
   refine HG.step 5 rfl KR ?_
   refine RL.append elem51 rfl rfl PK (SrcOk.own (sz := 3) (m := 1) MM (by rfl) (leaf_rd (M := M46) 0 (k : Int)).one) OM (by unfold lim; omega) rfl fun a109 c109 hc109 => ?_
   refine RL.nil ⟨keep_same SB, ?_⟩
   refine HG.take 6 rfl KR KR KR rfl (Y.field rfl field53_2) rfl ?_
   refine HG.last 7 rfl ⟨KR, rfl⟩ KR ?_
   refine RL.store _ rfl rfl RP (by rfl) (by exact Nat.le_of_ble_eq_true rfl) (by rfl) size51 ?_
   refine RL.nil ?_
   refine hK12 _ _ _ ?_
   refine CW.kp [5, 17, 21, 22] rfl ?_
   refine CW.region ?_
   refine RL.q (Y.move rfl) rfl ?_
   refine RL.q (Y.add rfl rfl OM) rfl ?_
   refine RL.q (Y.assign rfl) rfl ?_
   refine RL.nil ?_
   refine ⟨N1 - (k + 1), [(22, _)], ?_, (KP [22, 5, 17, 21]), ?_⟩
   · omega
   · refine Turn.kn (Kn.rds (ds := (numsL k).flatMap Val.enc) (us := us) MM) fun hrd => ?_
     refine Turn.front (x := .own b21 53 _) PK ?_
     refine Turn.front (x := .acc (.slice a109 (k + 1) c109) 53 3 (k + 1) _) PK ?_
     refine Turn.addRds (hrd.append (leaf_rd 0 (k : Int))) ?_
     exact Turn.drop ⟨[_, _, _], rfl, hs1, k + 1, a109, c109, _, rfl, by omega, rfl, by rw [numsL_succ] <;> rfl, rfl⟩ SB
  obtain rfl : N1 = k := by omega
  refine CW.know (Kn.rds (ds := (numsL N1).flatMap Val.enc) (us := us) MM) fun hrd => ?_
  refine CW.sealAcc (u := .slice ua N1 ca) PK hrd (by unfold lim; omega) fun Mn a3 c3 hsn e3 hc3 hr3 => ?_
  injection e3 with e3a _ e3c
  subst e3a e3c
  refine CW.addRds (node_rd 4 0 (numsL N1) (by rw [numsL_len]; exact hr3)) ?_
  refine CW.exit ?_
  refine hK8 _ _ _ ?_
  refine CW.seq fun K13 hK13 => ?_
  refine CW.region ?_
  refine RL.q (Y.build [_, _, _, _, _] rfl zero31 places31 (by rfl)) rfl ?_
  refine RL.alloc _ zero31 rfl rfl fun b23 => ?_
  refine RL.storeAgg _ rfl rfl RP (by rfl) (by first | (simp; done) | simp [IdT.vals]) (by first | (simp [Value.oneCell']; done) | simp [Value.oneCell', IdT.vals]) size31 ?_
  refine RL.nil ?_
  refine hK13 _ _ _ ?_
  refine CW.kp [5, 17, 21, 23] rfl ?_
  refine CW.seq fun K14 hK14 => ?_
  refine CW.region ?_
  refine RL.callv rfl func26 rfl rfl (by exact num_ok _ _ _ 0) ?_
  refine RL.alloc _ zero53 rfl rfl fun b24 => ?_
  refine RL.storeAgg _ rfl rfl RP (by rfl) (by first | (simp; done) | simp [IdT.vals]) (by first | (simp [Value.oneCell']; done) | simp [Value.oneCell', IdT.vals]) size53 ?_
  refine RL.nil ?_
  refine hK14 _ _ _ ?_
  refine CW.kp [5, 17, 21, 23, 24] rfl ?_
  refine CW.seq fun K15 hK15 => ?_
  refine CW.seq fun K16 hK16 => ?_
  refine CW.region ?_
  refine RL.q (Y.assign rfl) rfl ?_
  refine RL.nil ?_
  refine hK16 _ _ _ ?_
  refine CW.kp [5, 17, 21, 23, 24, 25] rfl ?_
  refine CW.block ?_
  -- LOOP 2: live [5, 17, 21, 23, 24, 25] changed [25]
  refine CW.kp [25, 5, 17, 21, 23, 24] rfl ?_
  refine CW.front (x := .own b24 53 [vint 0, vint 0, .slice none 0 0]) PK ?_
  refine CW.addRds (leaf_rd 0 0) ?_
  refine CW.front (x := .own b23 31 [vint 0, vint 0, vint 0, vint 0, .slice none 0 0]) PK ?_
  refine CW.addRds ty0_rd ?_
  refine CW.loopF (fun mm Lc M1 Γc => ∃ (k2 : Nat) (us ud : List Value), mm = N2 - k2 ∧ k2 ≤ N2 ∧ Lc = [(25, vint k2)] ∧ Γc = [.rds (nest k2).enc us, .own b23 31 us, .rds (dpV k2).enc ud, .own b24 53 ud] ∧ us.length = 5 ∧ ud.length = 3) N2 [(25, _)] [_, _, _, _] rfl rfl ⟨0, _, _, rfl, Nat.zero_le _, rfl, rfl, rfl, rfl⟩ ?_
  rintro mm Lc M1 Γc hs2 ⟨k2, us, ud, rfl, hk2, rfl, rfl, hus, hud⟩
  refine CW.seq fun K17 hK17 => ?_
  refine CW.seq fun K18 hK18 => ?_
  refine CW.region ?_
  refine RL.q (Y.move rfl) rfl ?_
  refine RL.q (Y.move rfl) rfl ?_
  refine RL.callv rfl func11 rfl rfl (by exact around_ok _ _ _ wth 4 hti OM) ?_
  refine RL.q (Y.add rfl rfl OM) rfl ?_
  refine RL.q (Y.lss rfl rfl) rfl ?_
  refine RL.nil ?_
  refine hK18 _ _ _ ?_
  refine CW.kp [5, 17, 21, 23, 24, 25, 117] rfl ?_
  refine CW.ite rfl (fun h3 => ?_) (fun h3 => ?_)
  ·refine CW.skip ?_
   refine hK17 _ _ _ ?_
   refine CW.seq fun K19 hK19 => ?_
   refine CW.block ?_
   refine CW.seq fun K20 hK20 => ?_
   refine CW.region ?_
   refine RL.q (Y.loadAllR rfl MM MM EL agg31) rfl ?_
   refine RL.call rfl func12 rfl rfl (by exact list_ok _ _ _ (nest k2) _ (by exact Kn.rds MM)) ?_
   rintro v121 M121 _ ⟨hs121, rfl, us121, rfl, hr121⟩
   refine RL.addRds hr121 ?_
   have hul121 : us121.length = 5 := hr121.1.trans (Ty.enc_len _)
   refine RL.storeRds 5 rfl rfl RP MM EL (by first | exact Kn.lenRds MM EL | exact Kn.lenLit rfl) size31 ?_
   refine RL.nil ?_
   refine hK20 _ _ _ ?_
   refine CW.kp [5, 17, 21, 23, 24, 25] rfl ?_
   refine CW.region ?_
   refine RL.q (Y.loadAllR rfl MM MM EL agg53) rfl ?_
   refine RL.buildSlice ud elem51 rfl (by decide) (fill1 rfl hud) rfl fun b123 => ?_
   refine RL.q (Y.build [_, _, _] rfl zero53 places53 (by rfl)) rfl ?_
   refine RL.storeAgg [vint 4, vint 0, .slice (some ⟨b123, 0, none⟩) 1 1] rfl rfl RP (by simp [hud]) (by simp [hud]) (by simp [Value.oneCell']) size53 ?_
   refine RL.nil ?_
   refine hK19 _ _ _ ?_
   refine CW.kp [5, 17, 21, 23, 24, 25] rfl ?_
   refine CW.know (Kn.rds (ds := (dpV k2).enc) (us := ud) MM) fun hD => ?_
   refine CW.sealOwn (b := b123) (k := 1) (sz := 3) (ds := [dpV k2].flatMap Val.enc) PK (by simpa using hD) hud (by unfold lim; omega) fun Ms hss hrs => ?_
   refine CW.region ?_
   refine RL.q (Y.move rfl) rfl ?_
   refine RL.q (Y.add rfl rfl OM) rfl ?_
   refine RL.q (Y.assign rfl) rfl ?_
   refine RL.nil ?_
   refine ⟨N2 - (k2 + 1), [(25, _)], ?_, (KP [25, 5, 17, 21, 23, 24]), ?_⟩
   · omega
   · refine Turn.front (x := .own b24 53 _) PK ?_
     refine Turn.addRds (node_rd 4 0 [dpV k2] hrs) ?_
     refine Turn.front (x := .own b23 31 us121) PK ?_
     refine Turn.front (x := .rds (listT (nest k2)).enc us121) PK ?_
     exact Turn.drop ⟨[_, _, _, _], rfl, hs2.trans (hs121.trans hss), k2 + 1, us121, _, rfl, by omega, rfl, rfl, hul121, rfl⟩ SB
  obtain rfl : N2 = k2 := by omega
  refine CW.exit ?_
  refine hK15 _ _ _ ?_
  refine CW.seq fun K21 hK21 => ?_
  refine CW.region ?_
  refine RL.q (Y.build [_, _, _, _, _] rfl zero31 places31 (by rfl)) rfl ?_
  refine RL.call rfl func12 rfl rfl (by exact list_ok _ _ _ ty0 _ (Kn.of ty0_rd)) ?_
  rintro v126 M126 _ ⟨hs126, rfl, us126, rfl, hr126⟩
  refine RL.addRds hr126 ?_
  have hul126 : us126.length = 5 := hr126.1.trans (Ty.enc_len _)
  refine RL.alloc _ zero31 rfl rfl fun b26 => ?_
  refine RL.storeRds 5 rfl rfl RP MM EL (by first | exact Kn.lenRds MM EL | exact Kn.lenLit rfl) size31 ?_
  refine RL.nil ?_
  refine hK21 _ _ _ ?_
  refine CW.kp [17, 21, 23, 24, 26] rfl ?_
  refine CW.seq fun K22 hK22 => ?_
  refine CW.regionQ mix KR ?_
  refine QL.q (Y.loadAllR rfl MM MM EL agg26) rfl ?_
  refine QL.q (Y.loadAllR rfl MM MM EL agg31) rfl ?_
  refine QL.q (Y.loadAllR rfl MM MM EL agg53) rfl ?_
  refine QL.callv rfl func24 rfl rfl (by exact fun _ hC => valid_ok _ _ _ (typesP l) _ (listT ty0) _ (.mk 4 0 (numsL N1)) _ (Kn.via hC KK) (Kn.via hC KK) (Kn.via hC KK)) ?_
  refine QL.q (Y.field rfl field53_2) rfl ?_
  refine QL.q (Y.loadOwn rfl MM (by rfl) flat51) rfl ?_
  refine QL.q (Y.len rfl Try.underlying51) rfl ?_
  refine QL.q (Y.leq rfl rfl) rfl ?_
  refine QL.q (Y.litB true (Y.eqlBB Try.underlying4 rfl rfl) (congrArg Value.bool (beqD (many_iff _ OM)))) rfl ?_
  refine QL.q (Y.move rfl) rfl ?_
  refine QL.qg WG (Y.loadAllR rfl MM MM EL agg26) rfl ?_
  refine QL.qg WG (Y.loadAllR rfl MM MM EL agg31) rfl ?_
  refine QL.qg WG (Y.loadAllR rfl MM MM EL agg53) rfl ?_
  refine QL.callv WG func24 rfl rfl (by exact fun _ hC => valid_ok _ _ _ (typesP l) _ (nest N2) _ (dpV N2) _ (Kn.via hC KK) (Kn.via hC KK) (Kn.via hC KK)) ?_
  refine QL.qg WG (Y.loadAllR rfl MM MM EL agg26) rfl ?_
  refine QL.qg WG (Y.loadAllR rfl MM MM EL agg31) rfl ?_
  refine QL.qg WG (Y.loadAllR rfl MM MM EL agg53) rfl ?_
  refine QL.callv WG func25 rfl rfl (by exact fun _ hC => rvalid_ok _ _ _ (typesP l) _ (nest N2) _ (dpV N2) _ (Kn.via hC KK) (Kn.via hC KK) (Kn.via hC KK) OM OM) ?_
  refine QL.qg WG (Y.litB true (Y.eqlBB Try.underlying4 rfl rfl) (congrArg Value.bool (beqD (valid_iff _ _ _)))) rfl ?_
  refine QL.q (Y.pickT rfl rfl) rfl ?_
  refine QL.q (Y.move rfl) rfl ?_
  refine QL.callv WG func21 rfl rfl (by exact fun _ hC => lives_ok _ _ _) ?_
  refine QL.q (Y.pickT rfl rfl) rfl ?_
  refine QL.q (Y.assign rfl) rfl ?_
  refine QL.nil ?_
  refine hK22 _ _ _ ?_
  refine CW.kp [16] rfl ?_
  refine CW.ret ?_
  exact ⟨_, rfl, Turn.back hw1 (hs28.trans (hs40.trans (hs46.trans (hsn.trans (hs2.trans hs126))))) ⟨rfl, rfl, rfl⟩ SB⟩
end Go.Proofs.Ytfgkhhfkodlbpaa
