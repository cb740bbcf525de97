/- THE LAW ValueCodes. Printed by m04H.py. -/
import Derived.Test.YtfgkhhfkodlbpaaVG
import Derived.Test.YtfgkhhfkodlbpaaPureB
namespace Go.Proofs.Ytfgkhhfkodlbpaa
open Xe

set_option maxHeartbeats 4000000 in
set_option maxRecDepth 4000 in
theorem ValueCodes_ok (w0 : World) (M : Mem) (Γ : List As) (l : List Int) (ul : Value) (m1 : List Int) (um1 : Value) (v : Val) (usv : List Value) (pos : Int) (y : Nat) (b : List Nat) (ub : Value) (dp : Int)  (hl : Kn w0 M Γ (Rd M (dints l) ul)) (hm1 : Kn w0 M Γ (Rd M (dints m1) um1)) (hv : Kn w0 M Γ (RdL M v.enc usv)) (hb : Kn w0 M Γ (Rd M (dbytes b) ub)) (hli : ∀ z ∈ l, InI z) (hmi1 : ∀ z ∈ m1, InI z) (hpi : InI pos) (hdi : InI dp) (hy : y < 256) (hbb : ∀ z ∈ b, z < 256) (hvo : v.Ok) (hvz : v.size ≤ 1048576) :
    CallOk Try.prog w0 M Γ 7 #[ul, um1, .agg usv.toArray, vint pos, vbyte y, ub, vint dp] (Is M Γ (.bool true)) := by
  refine CallOk.kn hl fun hl => ?_
  obtain ⟨al, cl, rfl, hcl, hliml, hlenl⟩ := hl.slice
  refine CallOk.kn hm1 fun hm1 => ?_
  obtain ⟨am1, cm1, rfl, hcm1, hlimm1, hlenm1⟩ := hm1.slice
  refine CallOk.kn hv fun hv => ?_
  rw [Val.enc_eq] at hv
  refine CallOk.kn hb fun hb => ?_
  obtain ⟨ab, cb, rfl, hcb, hlimb, hlenb⟩ := hb.slice
  have hmr := tMany_rng l
  have hdl : (typesP l).defs.length = tMany l := tDefs_len l (tMany l)
  obtain ⟨hkm, hth, hid⟩ := types_get l (i := tMany l - 1) OM
  have hp12 : (4 : Int) ^ 12 ≤ 1099511627776 := by decide
  have hwf : wfT (typesP l) 12 (ofT (idK (1 + ((tMany l - 1 : Nat) : Int)))) := wfT_mono OM (types_wf l (tMany l - 1) hkm)
  obtain ⟨hxs, _, _⟩ := types_val l m1 hkm
  simp only [tyK] at hxs
  obtain ⟨dd, hdd⟩ : ∃ dd, dd = (typesP l).defs[tMany l - 1] := ⟨_, rfl⟩
  rw [← hdd] at hth hid
  rw [← hid] at hwf hxs
  have hxf := valV_fine (l := m1) hwf
  have hr5 := around_lt dp 5 OM
  obtain ⟨N1, hN1⟩ := Int.eq_ofNat_of_zero_le (show 0 ≤ 21 + around dp 5 by omega)
  obtain ⟨N2, hN2⟩ := Int.eq_ofNat_of_zero_le (show 0 ≤ 253 + around dp 5 by omega)
  have hds := dqV_size 1 N1
  have hns := numsL_size N2
  have hms : (Val.mk 4 0 (numsL N2)).size = 1 + N2 := by simp only [Val.size]; omega
  refine enter (f := 7) Try.func7 rfl Try.ntmps7 rfl rfl fun w1 hw1 => ?_
  refine CW.addRd hl ?_
  refine CW.addRd hm1 ?_
  refine CW.addRds hv ?_
  refine CW.addRd hb ?_
  refine CW.seq fun K1 hK1 => ?_
  refine CW.region ?_
  refine RL.box _ rfl rfl rfl fun b9 => ?_
  refine RL.q (Y.assign rfl) rfl ?_
  refine RL.nil ?_
  refine hK1 _ _ _ ?_
  refine CW.kp [0, 1, 3, 4, 5, 6, 9] rfl ?_
  refine CW.seq fun K2 hK2 => ?_
  refine CW.region ?_
  refine RL.q (Y.move rfl) rfl ?_
  refine RL.call rfl func9 rfl rfl (by exact types_ok _ _ _ l _ (by exact Kn.rd MM) hli) ?_
  rintro v33 M33 _ ⟨hs33, rfl, us33, rfl, hr33⟩
  refine RL.addRds hr33 ?_
  have hul33 : us33.length = 2 := hr33.1.trans (ProgT.enc_len _)
  refine RL.alloc _ zero26 rfl rfl fun b15 => ?_
  refine RL.storeRds 2 rfl rfl RP MM EL (by first | exact Kn.lenRds MM EL | exact Kn.lenLit rfl) size26 ?_
  refine RL.nil ?_
  refine hK2 _ _ _ ?_
  refine CW.kp [1, 3, 4, 5, 6, 9, 15] rfl ?_
  refine CW.cut (fun L' M' Γ' => ∃ b16 us46, Keep L' [(3, vint pos), (4, vbyte y), (5, .slice ab b.length cb), (6, vint dp), (9, .pointer (some (adr (some ⟨b9, 0, none⟩) 0))), (16, .pointer (some (adr (some ⟨b16, 0, none⟩) 0)))] ∧ Sub M33 M' ∧ us46.length = 3 ∧ RdL M' (valV (typesP l) 12 (ofT dd.id) m1).enc us46 ∧ ∀ w, St w0 M' Γ' w → St w0 M' (.own b16 53 us46 :: .own b9 53 usv :: Γ) w) ?_ ?_
  ·refine CW.regionH mix _ _ (fun _ hw => hw) ?_
   refine HL.take 0 rfl KR KR KR rfl (Y.loadAllR rfl MM MM EL agg26) rfl ?_
   refine HL.take 1 rfl KR KR KR rfl (Y.field rfl field26_1) rfl ?_
   refine HL.loadOwnSl 2 rfl KR KR KR rfl rfl MM MM (by rfl) flat24 rfl fun a36 c36 hu36 hc36 hl36 => ?_
   refine HL.take 3 rfl KR KR KR rfl (Y.field rfl field26_1) rfl ?_
   refine HL.loadOwnSl 4 rfl KR KR KR rfl rfl MM MM (by rfl) flat24 rfl fun a38 c38 hu38 hc38 hl38 => ?_
   refine HL.take 5 rfl KR KR KR rfl (Y.len rfl Try.underlying24) rfl ?_
   refine HL.take 6 rfl KR KR KR rfl (Y.sub rfl rfl OM) rfl ?_
   refine HL.take 7 rfl KR KR KR rfl (Y.index (tMany l - 1) rfl rfl OM OM slice24 (fun _ hw => hw.rd_some MM OM)) rfl ?_
   refine HL.take 8 rfl KR KR KR rfl (Y.field rfl field46_0) rfl ?_
   refine HL.take 9 rfl KR KR KR rfl (Y.loadAggRd [_, _, _] rfl MM (Eq.trans (flat_sub DefT.enc_len _ _ _ (List.getElem?_eq_getElem AO) _ _ (Nat.le_of_ble_eq_true rfl)) (by rw [DefT.enc_eq] <;> rfl)) agg28) rfl ?_
   refine HL.take 11 rfl KR KR KR rfl (Y.move rfl) rfl ?_
   refine HL.step2 10 13 rfl rfl KR ?_ ?_
   ·refine RL.callv rfl func13 rfl rfl (by exact of_ok _ _ _ ((typesP l).defs[tMany l - 1]'OM).id) ?_
    refine RL.nil ⟨keep_same SB, ?_⟩
    refine HL.step2 12 13 rfl rfl KR ?_ ?_
    ·refine RL.call rfl func22 rfl rfl (by exact value_ok _ _ _ _ _ (ofT ((typesP l).defs[tMany l - 1]'OM).id) _ m1 _ 12 (by exact Kn.rds MM) (Kn.of (ty_rd _)) (by exact Kn.rd MM) (hdd ▸ hwf) hp12 OM hmi1) ?_
     rintro v46 M46 _ ⟨hs46, rfl, us46, rfl, hr46⟩
     refine RL.addRds hr46 ?_
     have hul46 : us46.length = 3 := hr46.1.trans (Val.enc_len _)
     refine RL.nil ⟨keep_more (hs46) SB, ?_⟩
     refine HL.step 13 rfl KR ?_
     refine RL.alloc _ zero53 rfl rfl fun b16 => ?_
     refine RL.nil ⟨keep_more (hs46) SB, ?_⟩
     refine HL.step 14 rfl KR ?_
     refine RL.storeRds 3 rfl rfl RP MM EL (by first | exact Kn.lenRds MM EL | exact Kn.lenLit rfl) size53 ?_
     refine RL.nil ⟨keep_more (hs46) SB, ?_⟩
     refine HL.done KR ?_
     dsimp only [thenX]
     exact ⟨b16, us46, (by repeat (first | exact Keep.nil _ | refine Keep.cons _ rfl ?_)), hs46, hul46, by rw [hdd]; exact hr46, fun _ hw => hw.sub SB⟩
    refine RL.alloc _ zero53 rfl rfl fun b16 => ?_
    refine RL.nil ⟨keep_same SB, ?_⟩
    refine HL.step 12 rfl KR ?_
    refine RL.call rfl func22 rfl rfl (by exact value_ok _ _ _ _ _ (ofT ((typesP l).defs[tMany l - 1]'OM).id) _ m1 _ 12 (by exact Kn.rds MM) (Kn.of (ty_rd _)) (by exact Kn.rd MM) (hdd ▸ hwf) hp12 OM hmi1) ?_
    rintro v46 M46 _ ⟨hs46, rfl, us46, rfl, hr46⟩
    refine RL.addRds hr46 ?_
    have hul46 : us46.length = 3 := hr46.1.trans (Val.enc_len _)
    refine RL.nil ⟨keep_more (hs46) SB, ?_⟩
    refine HL.step 14 rfl KR ?_
    refine RL.storeRds 3 rfl rfl RP MM EL (by first | exact Kn.lenRds MM EL | exact Kn.lenLit rfl) size53 ?_
    refine RL.nil ⟨keep_more (hs46) SB, ?_⟩
    refine HL.done KR ?_
    dsimp only [thenX]
    exact ⟨b16, us46, (by repeat (first | exact Keep.nil _ | refine Keep.cons _ rfl ?_)), hs46, hul46, by rw [hdd]; exact hr46, fun _ hw => hw.sub SB⟩
   refine RL.alloc _ zero53 rfl rfl fun b16 => ?_
   refine RL.nil ⟨keep_same SB, ?_⟩
   refine HL.step 10 rfl KR ?_
   refine RL.callv rfl func13 rfl rfl (by exact of_ok _ _ _ ((typesP l).defs[tMany l - 1]'OM).id) ?_
   refine RL.nil ⟨keep_same SB, ?_⟩
   refine HL.step 12 rfl KR ?_
   refine RL.call rfl func22 rfl rfl (by exact value_ok _ _ _ _ _ (ofT ((typesP l).defs[tMany l - 1]'OM).id) _ m1 _ 12 (by exact Kn.rds MM) (Kn.of (ty_rd _)) (by exact Kn.rd MM) (hdd ▸ hwf) hp12 OM hmi1) ?_
   rintro v46 M46 _ ⟨hs46, rfl, us46, rfl, hr46⟩
   refine RL.addRds hr46 ?_
   have hul46 : us46.length = 3 := hr46.1.trans (Val.enc_len _)
   refine RL.nil ⟨keep_more (hs46) SB, ?_⟩
   refine HL.step 14 rfl KR ?_
   refine RL.storeRds 3 rfl rfl RP MM EL (by first | exact Kn.lenRds MM EL | exact Kn.lenLit rfl) size53 ?_
   refine RL.nil ⟨keep_more (hs46) SB, ?_⟩
   refine HL.done KR ?_
   dsimp only [thenX]
   exact ⟨b16, us46, (by repeat (first | exact Keep.nil _ | refine Keep.cons _ rfl ?_)), hs46, hul46, by rw [hdd]; exact hr46, fun _ hw => hw.sub SB⟩
  rintro _ M46 Γ2 ⟨b16, us46, hk2, hs46, hul46, hr46, hG2⟩
  refine CW.pre ?_ hk2 hG2
  obtain ⟨x, hx⟩ : ∃ x, x = (valV (typesP l) 12 (ofT dd.id) m1) := ⟨_, rfl⟩
  rw [← hx] at hxs hxf hr46
  refine CW.addRds hr46 ?_
  refine CW.addRds (hv.mono (hs33.trans hs46)) ?_
  have hxp := encV_pos x
  have hxl := encV_len x hxf.1 OM
  have hvl := encV_len v hvo OM
  refine CW.seq fun K3 hK3 => ?_
  refine CW.region ?_
  refine RL.q (Y.loadAllR rfl MM MM EL agg53) rfl ?_
  refine RL.call rfl func36 rfl rfl (by exact rencode_ok _ _ _ _ x _ rfl (by exact Kn.rds MM) hxf.1 OM) ?_
  rintro v48 M48 _ ⟨hs48, rfl, hr48⟩
  obtain ⟨a48, c48, rfl, hc48, hlim48, hln48⟩ := hr48.slice
  obtain ⟨p48, rfl⟩ : ∃ p, a48 = some p := Option.isSome_iff_exists.1 (hr48.isSome (encV_pos _))
  refine RL.addRd hr48 ?_
  refine RL.q (Y.assign rfl) rfl ?_
  refine RL.nil ?_
  refine hK3 _ _ _ ?_
  refine CW.kp [3, 4, 5, 6, 9, 16, 17] rfl ?_
  refine CW.seq fun K4 hK4 => ?_
  refine CW.cut (fun L' M' Γ' => Keep L' [(63, .bool false), (3, vint pos), (4, vbyte y), (5, .slice ab b.length cb), (6, vint dp), (17, .slice (some p48) (encV x).length c48)] ∧ Sub M48 M' ∧ ∀ w, St w0 M' Γ' w → St w0 M' Γ w) ?_ ?_
  ·refine CW.regionH mix _ _ (fun _ hw => hw) ?_
   refine HL.take 0 rfl KR KR KR rfl (Y.loadAllR rfl MM MM EL agg53) rfl ?_
   refine HL.take 3 rfl KR KR KR rfl (Y.move rfl) rfl ?_
   refine HL.take 4 rfl KR KR KR rfl (Y.convSRd (encV x) rfl MM KR) rfl ?_
   refine HL.step 1 rfl KR ?_
   refine RL.call rfl func37 rfl rfl (by exact encode_ok _ _ _ _ x _ rfl (by exact Kn.rds MM) hxf.1 OM) ?_
   rintro v50 M50 _ ⟨hs50, rfl, hr50⟩
   obtain ⟨a50, c50, rfl, hc50, hlim50, hln50⟩ := hr50.slice
   obtain ⟨p50, rfl⟩ : ∃ p, a50 = some p := Option.isSome_iff_exists.1 (hr50.isSome (encV_pos _))
   refine RL.addRd hr50 ?_
   refine RL.nil ⟨keep_more (hs50) SB, ?_⟩
   refine HL.step 2 rfl KR ?_
   refine RL.q (Y.convSRd (encV x) rfl MM KR) rfl ?_
   refine RL.nil ⟨keep_more (hs50) SB, ?_⟩
   refine HL.take 5 rfl KR KR KR rfl (Y.litB false (Y.neqS rfl rfl) (congrArg Value.bool (decide_eq_false (fun h => h rfl)))) rfl ?_
   refine HL.take 6 rfl KR KR KR rfl (Y.move rfl) rfl ?_
   refine HL.take 7 rfl KR KR KR WG (Y.loadAllR rfl MM MM EL agg53) rfl ?_
   refine HL.take 10 rfl KR KR KR WG (Y.loadAllR rfl MM MM EL agg53) rfl ?_
   refine HL.step 8 rfl KR ?_
   refine RL.call WG func37 rfl rfl (by exact encode_ok _ _ _ _ v _ rfl (by exact Kn.val MM) hvo OM) ?_
   rintro v57 M57 _ ⟨hs57, rfl, hr57⟩
   obtain ⟨a57, c57, rfl, hc57, hlim57, hln57⟩ := hr57.slice
   obtain ⟨p57, rfl⟩ : ∃ p, a57 = some p := Option.isSome_iff_exists.1 (hr57.isSome (encV_pos _))
   refine RL.addRd hr57 ?_
   refine RL.nil ⟨keep_more (hs50.trans (hs57)) SB, ?_⟩
   refine HL.step2 9 11 rfl rfl KR ?_ ?_
   ·refine RL.qg WG (Y.convSRd (encV v) rfl MM KR) rfl ?_
    refine RL.nil ⟨keep_more (hs50.trans (hs57)) SB, ?_⟩
    refine HL.step 11 rfl KR ?_
    refine RL.call WG func36 rfl rfl (by exact rencode_ok _ _ _ _ v _ rfl (by exact Kn.val MM) hvo OM) ?_
    rintro v60 M60 _ ⟨hs60, rfl, hr60⟩
    obtain ⟨a60, c60, rfl, hc60, hlim60, hln60⟩ := hr60.slice
    obtain ⟨p60, rfl⟩ : ∃ p, a60 = some p := Option.isSome_iff_exists.1 (hr60.isSome (encV_pos _))
    refine RL.addRd hr60 ?_
    refine RL.nil ⟨keep_more (hs50.trans (hs57.trans (hs60))) SB, ?_⟩
    refine HL.step 12 rfl KR ?_
    refine RL.qg WG (Y.convSRd (encV v) rfl MM KR) rfl ?_
    refine RL.nil ⟨keep_more (hs50.trans (hs57.trans (hs60))) SB, ?_⟩
    refine HL.take 13 rfl KR KR KR WG (Y.litB false (Y.neqS rfl rfl) (congrArg Value.bool (decide_eq_false (fun h => h rfl)))) rfl ?_
    refine HL.take 14 rfl KR KR KR rfl (Y.pick rfl rfl rfl) rfl ?_
    refine HL.done KR ?_
    dsimp only [thenX]
    exact ⟨(by repeat (first | exact Keep.nil _ | refine Keep.cons _ rfl ?_)), hs50.trans (hs57.trans hs60), fun _ hw => hw.sub SB⟩
   refine RL.call WG func36 rfl rfl (by exact rencode_ok _ _ _ _ v _ rfl (by exact Kn.val MM) hvo OM) ?_
   rintro v60 M60 _ ⟨hs60, rfl, hr60⟩
   obtain ⟨a60, c60, rfl, hc60, hlim60, hln60⟩ := hr60.slice
   obtain ⟨p60, rfl⟩ : ∃ p, a60 = some p := Option.isSome_iff_exists.1 (hr60.isSome (encV_pos _))
   refine RL.addRd hr60 ?_
   refine RL.nil ⟨keep_more (hs50.trans (hs57.trans (hs60))) SB, ?_⟩
   refine HL.step2 9 12 rfl rfl KR ?_ ?_
   ·refine RL.qg WG (Y.convSRd (encV v) rfl MM KR) rfl ?_
    refine RL.nil ⟨keep_more (hs50.trans (hs57.trans (hs60))) SB, ?_⟩
    refine HL.step 12 rfl KR ?_
    refine RL.qg WG (Y.convSRd (encV v) rfl MM KR) rfl ?_
    refine RL.nil ⟨keep_more (hs50.trans (hs57.trans (hs60))) SB, ?_⟩
    refine HL.take 13 rfl KR KR KR WG (Y.litB false (Y.neqS rfl rfl) (congrArg Value.bool (decide_eq_false (fun h => h rfl)))) rfl ?_
    refine HL.take 14 rfl KR KR KR rfl (Y.pick rfl rfl rfl) rfl ?_
    refine HL.done KR ?_
    dsimp only [thenX]
    exact ⟨(by repeat (first | exact Keep.nil _ | refine Keep.cons _ rfl ?_)), hs50.trans (hs57.trans hs60), fun _ hw => hw.sub SB⟩
   refine RL.qg WG (Y.convSRd (encV v) rfl MM KR) rfl ?_
   refine RL.nil ⟨keep_more (hs50.trans (hs57.trans (hs60))) SB, ?_⟩
   refine HL.step 9 rfl KR ?_
   refine RL.qg WG (Y.convSRd (encV v) rfl MM KR) rfl ?_
   refine RL.nil ⟨keep_more (hs50.trans (hs57.trans (hs60))) SB, ?_⟩
   refine HL.take 13 rfl KR KR KR WG (Y.litB false (Y.neqS rfl rfl) (congrArg Value.bool (decide_eq_false (fun h => h rfl)))) rfl ?_
   refine HL.take 14 rfl KR KR KR rfl (Y.pick rfl rfl rfl) rfl ?_
   refine HL.done KR ?_
   dsimp only [thenX]
   exact ⟨(by repeat (first | exact Keep.nil _ | refine Keep.cons _ rfl ?_)), hs50.trans (hs57.trans hs60), fun _ hw => hw.sub SB⟩
  rintro _ M4 Γ4 ⟨hk4, hs4, hG4⟩
  refine CW.pre ?_ hk4 hG4
  refine CW.addRd (Rd.mono hs4 _ _ hr48) ?_
  refine CW.addRd (Rd.mono (hs33.trans (hs46.trans (hs48.trans hs4))) _ _ hb) ?_
  refine CW.no rfl ?_
  refine CW.skip ?_
  refine hK4 _ _ _ ?_
  refine CW.seq fun K5 hK5 => ?_
  refine CW.region ?_
  refine RL.q (Y.move rfl) rfl ?_
  refine RL.q (Y.move rfl) rfl ?_
  refine RL.q (Y.len rfl Try.underlying69) rfl ?_
  refine RL.callv rfl func11 rfl rfl (by exact around_ok _ _ _ pos _ hpi OM) ?_
  refine RL.q (Y.assign rfl) rfl ?_
  refine RL.nil ?_
  refine hK5 _ _ _ ?_
  refine CW.kp [4, 5, 6, 17, 18] rfl ?_
  obtain ⟨kx, hkx⟩ := Int.eq_ofNat_of_zero_le (around_lt pos ((encV x).length : Nat) (by have := encV_pos x; omega)).1
  have hkxl := (around_lt pos ((encV x).length : Nat) (by have := encV_pos x; omega)).2
  rw [hkx]
  refine CW.seq fun K6 hK6 => ?_
  refine CW.region ?_
  refine RL.buildSlice [] elem69 rfl (by decide) fill0 rfl fun b68 => ?_
  refine RL.q (Y.move rfl) rfl ?_
  refine RL.ownAcc (b := b68) (k := 0) (sz := 1) PK rfl (by decide) ?_
  refine RL.appendRd elem69 rfl rfl PK MM OM (by unfold lim; omega) rfl fun a70 c70 n70 hc70 hn70 => ?_
  obtain rfl := bytes_of_rd hn70
  refine RL.q (Y.assign rfl) rfl ?_
  refine RL.nil ?_
  refine hK6 _ _ _ ?_
  refine CW.kp [4, 5, 6, 17, 18, 19] rfl ?_
  obtain ⟨vcx, hcx⟩ : ∃ q, ([] ++ byteV (encV x))[kx * 1]? = some q := ⟨_, List.getElem?_eq_getElem (by simp; omega)⟩
  refine CW.seq fun K7 hK7 => ?_
  refine CW.region ?_
  refine RL.q (Y.move rfl) rfl ?_
  refine RL.q (Y.move rfl) rfl ?_
  refine RL.q (Y.move rfl) rfl ?_
  refine RL.q (Y.index kx rfl rfl rfl OM slice69 (fun _ hw => (hw.acc_cell MM hcx).1)) rfl ?_
  refine RL.front (x := .acc (.slice a70 (0 + (encV x).length) c70) 5 1 (0 + (encV x).length) ([] ++ byteV (encV x))) PK ?_
  refine RL.storeAcc (byteV ((encV x).set kx y)) rfl rfl (by rw [List.nil_append, Nat.mul_one, byteV_set]) (by simp; omega) rfl size5 ?_
  refine RL.nil ?_
  refine hK7 _ _ _ ?_
  refine CW.kp [4, 5, 6, 17, 18, 19] rfl ?_
  refine CW.sealAcc (u := .slice a70 (0 + (encV x).length) c70) (ds := ((encV x).set kx y).map dbyte) PK (bytes_rd _) (by unfold lim; omega) fun Mc a3 c3 hsc e3 hc3 hr3 => ?_
  injection e3 with e3a _ e3c
  subst e3a e3c
  rw [Nat.zero_add (encV x).length] at hr3 ⊢
  have hrc : Rd Mc (dbytes ((encV x).set kx y)) (.slice a70 (encV x).length c70) := by rw [dbytes, List.length_set]; exact hr3
  refine CW.seq fun K8 hK8 => ?_
  refine CW.region ?_
  refine RL.callv rfl func26 rfl rfl (by exact num_ok _ _ _ 1) ?_
  refine RL.alloc _ zero53 rfl rfl fun b20 => ?_
  refine RL.storeAgg _ rfl rfl RP (by rfl) (by first | (simp; done) | simp [IdT.vals]) (by first | (simp [Value.oneCell']; done) | simp [Value.oneCell', IdT.vals]) size53 ?_
  refine RL.nil ?_
  refine hK8 _ _ _ ?_
  refine CW.kp [4, 5, 6, 17, 18, 19, 20] rfl ?_
  refine CW.seq fun K9 hK9 => ?_
  refine CW.seq fun K10 hK10 => ?_
  refine CW.region ?_
  refine RL.q (Y.assign rfl) rfl ?_
  refine RL.nil ?_
  refine hK10 _ _ _ ?_
  refine CW.kp [4, 5, 6, 17, 18, 19, 20, 21] rfl ?_
  refine CW.block ?_
  -- LOOP 1: live [4, 5, 6, 17, 18, 19, 20, 21] changed [21]
  refine CW.kp [21, 4, 5, 6, 17, 18, 19, 20] rfl ?_
  refine CW.front (x := .own b20 53 [vint 0, vint 1, .slice none 0 0]) PK ?_
  refine CW.addRds (leaf_rd 0 1) ?_
  refine CW.loopF (fun mm Lc M1 Γc => ∃ (k : Nat) (ud : List Value), mm = N1 - k ∧ k ≤ N1 ∧ Lc = [(21, vint k)] ∧ Γc = [.rds (dqV 1 k).enc ud, .own b20 53 ud] ∧ ud.length = 3) N1 [(21, _)] [_, _] rfl rfl ⟨0, _, rfl, Nat.zero_le _, rfl, rfl, rfl⟩ ?_
  rintro mm Lc M1 Γc hs1 ⟨k, ud, rfl, hk, rfl, rfl, hud⟩
  refine CW.seq fun K11 hK11 => ?_
  refine CW.seq fun K12 hK12 => ?_
  refine CW.region ?_
  refine RL.q (Y.move rfl) rfl ?_
  refine RL.q (Y.move rfl) rfl ?_
  refine RL.callv rfl func11 rfl rfl (by exact around_ok _ _ _ dp 5 hdi OM) ?_
  refine RL.q (Y.add rfl rfl OM) rfl ?_
  refine RL.q (Y.lss rfl rfl) rfl ?_
  refine RL.nil ?_
  refine hK12 _ _ _ ?_
  refine CW.kp [4, 5, 6, 17, 18, 19, 20, 21, 80] rfl ?_
  refine CW.ite rfl (fun h2 => ?_) (fun h2 => ?_)
  ·refine CW.skip ?_
   refine hK11 _ _ _ ?_
   refine CW.seq fun K13 hK13 => ?_
   refine CW.block ?_
   refine CW.region ?_
   refine RL.q (Y.loadAllR rfl MM MM EL agg53) rfl ?_
   refine RL.buildSlice ud elem51 rfl (by decide) (fill1 rfl hud) rfl fun b84 => ?_
   refine RL.q (Y.build [_, _, _] rfl zero53 places53 (by rfl)) rfl ?_
   refine RL.storeAgg [vint 4, vint 0, .slice (some ⟨b84, 0, none⟩) 1 1] rfl rfl RP (by simp [hud]) (by simp [hud]) (by simp [Value.oneCell']) size53 ?_
   refine RL.nil ?_
   refine hK13 _ _ _ ?_
   refine CW.kp [4, 5, 6, 17, 18, 19, 20, 21] rfl ?_
   refine CW.know (Kn.rds (ds := (dqV 1 k).enc) (us := ud) MM) fun hD => ?_
   refine CW.sealOwn (b := b84) (k := 1) (sz := 3) (ds := [dqV 1 k].flatMap Val.enc) PK (by simpa using hD) hud (by unfold lim; omega) fun Ms hss hrs => ?_
   refine CW.region ?_
   refine RL.q (Y.move rfl) rfl ?_
   refine RL.q (Y.add rfl rfl OM) rfl ?_
   refine RL.q (Y.assign rfl) rfl ?_
   refine RL.nil ?_
   refine ⟨N1 - (k + 1), [(21, _)], ?_, (KP [21, 4, 5, 6, 17, 18, 19, 20]), ?_⟩
   · omega
   · refine Turn.front (x := .own b20 53 _) PK ?_
     refine Turn.addRds (node_rd 4 0 [dqV 1 k] hrs) ?_
     exact Turn.drop ⟨[_, _], rfl, hs1.trans hss, k + 1, _, rfl, by omega, rfl, rfl, rfl⟩ SB
  obtain rfl : N1 = k := by omega
  refine CW.exit ?_
  refine hK9 _ _ _ ?_
  refine CW.seq fun K14 hK14 => ?_
  refine CW.region ?_
  refine RL.q (Y.build [_, _, _] rfl zero53 places53 (by rfl)) rfl ?_
  refine RL.alloc _ zero53 rfl rfl fun b22 => ?_
  refine RL.storeAgg _ rfl rfl RP (by rfl) (by first | (simp; done) | simp [IdT.vals]) (by first | (simp [Value.oneCell']; done) | simp [Value.oneCell', IdT.vals]) size53 ?_
  refine RL.nil ?_
  refine hK14 _ _ _ ?_
  refine CW.kp [4, 5, 6, 17, 18, 19, 20, 22] rfl ?_
  refine CW.seq fun K15 hK15 => ?_
  refine CW.seq fun K16 hK16 => ?_
  refine CW.region ?_
  refine RL.q (Y.assign rfl) rfl ?_
  refine RL.nil ?_
  refine hK16 _ _ _ ?_
  refine CW.kp [4, 5, 6, 17, 18, 19, 20, 22, 23] rfl ?_
  refine CW.block ?_
  -- LOOP 2: live [4, 5, 6, 17, 18, 19, 20, 22, 23] changed [23]
  refine CW.kp [23, 4, 5, 6, 17, 18, 19, 20, 22] rfl ?_
  refine CW.front (x := .own b22 53 [vint 4, vint 0, .slice none 0 0]) PK ?_
  refine CW.accNil 53 3 ?_
  refine CW.addRds (RdL.nil _) ?_
  refine CW.loopF (fun mm Lc M2 Γc => ∃ (k2 : Nat) (ua : Option Addr) (ca : Nat) (us : List Value), mm = N2 - k2 ∧ k2 ≤ N2 ∧ Lc = [(23, vint k2)] ∧ Γc = [.rds ((numsL k2).flatMap Val.enc) us, .acc (.slice ua k2 ca) 53 3 k2 us, .own b22 53 [vint 4, vint 0, .slice ua k2 ca]] ∧ M2 = M1) N2 [(23, _)] [_, _, _] rfl rfl ⟨0, none, 0, [], rfl, Nat.zero_le _, rfl, rfl, rfl⟩ ?_
  rintro mm Lc M1 Γc hs2 ⟨k2, ua, ca, us, rfl, hk2l, rfl, rfl, rfl⟩
  refine CW.seq fun K17 hK17 => ?_
  refine CW.seq fun K18 hK18 => ?_
  refine CW.region ?_
  refine RL.q (Y.move rfl) rfl ?_
  refine RL.q (Y.move rfl) rfl ?_
  refine RL.callv rfl func11 rfl rfl (by exact around_ok _ _ _ dp 5 hdi OM) ?_
  refine RL.q (Y.add rfl rfl OM) rfl ?_
  refine RL.q (Y.lss rfl rfl) rfl ?_
  refine RL.nil ?_
  refine hK18 _ _ _ ?_
  refine CW.kp [4, 5, 6, 17, 18, 19, 20, 22, 23, 91] rfl ?_
  refine CW.ite rfl (fun h3 => ?_) (fun h3 => ?_)
  ·refine CW.skip ?_
   refine hK17 _ _ _ ?_
   refine CW.seq fun K19 hK19 => ?_
   refine CW.block ?_
   refine CW.regionGP 7 mix (x := .acc _ _ _ _ _) PK ?_
   refine HG.take 0 rfl KR KR KR rfl (Y.field rfl field53_2) rfl ?_
   refine HG.take 1 rfl KR KR KR rfl (Y.loadOwn rfl MM (by rfl) flat51) rfl ?_
   refine HG.take 2 rfl KR KR KR rfl (Y.move rfl) rfl ?_
   refine HG.step 3 rfl KR ?_
   refine RL.callv rfl func26 rfl rfl (by exact num_ok _ _ _ (k2 : Int)) ?_
   refine RL.nil ⟨keep_same SB, ?_⟩
   refine HG.step 4 rfl KR ?_
   refine RL.buildSlice [vint 0, vint k2, .slice none 0 0] elem51 rfl (by decide) (fill1 rfl rfl) rfl fun b98 => ?_
   refine RL.nil ⟨keep_same SB, ?_⟩
   refine HG.step 5 rfl KR ?_
   refine RL.append elem51 rfl rfl PK (SrcOk.own (sz := 3) (m := 1) MM (by rfl) (leaf_rd (M := M1) 0 (k2 : Int)).one) OM (by unfold lim; omega) rfl fun a99 c99 hc99 => ?_
   refine RL.nil ⟨keep_same SB, ?_⟩
   refine HG.take 6 rfl KR KR KR rfl (Y.field rfl field53_2) rfl ?_
   refine HG.last 7 rfl ⟨KR, rfl⟩ KR ?_
   refine RL.store _ rfl rfl RP (by rfl) (by exact Nat.le_of_ble_eq_true rfl) (by rfl) size51 ?_
   refine RL.nil ?_
   refine hK19 _ _ _ ?_
   refine CW.kp [4, 5, 6, 17, 18, 19, 20, 22, 23] rfl ?_
   refine CW.region ?_
   refine RL.q (Y.move rfl) rfl ?_
   refine RL.q (Y.add rfl rfl OM) rfl ?_
   refine RL.q (Y.assign rfl) rfl ?_
   refine RL.nil ?_
   refine ⟨N2 - (k2 + 1), [(23, _)], ?_, (KP [23, 4, 5, 6, 17, 18, 19, 20, 22]), ?_⟩
   · omega
   · refine Turn.kn (Kn.rds (ds := (numsL k2).flatMap Val.enc) (us := us) MM) fun hrd => ?_
     refine Turn.front (x := .own b22 53 _) PK ?_
     refine Turn.front (x := .acc (.slice a99 (k2 + 1) c99) 53 3 (k2 + 1) _) PK ?_
     refine Turn.addRds (hrd.append (leaf_rd 0 (k2 : Int))) ?_
     exact Turn.drop ⟨[_, _, _], rfl, hs2, k2 + 1, a99, c99, _, rfl, by omega, rfl, by rw [numsL_succ] <;> rfl, rfl⟩ SB
  obtain rfl : N2 = k2 := by omega
  refine CW.know (Kn.rds (ds := (numsL N2).flatMap Val.enc) (us := us) MM) fun hrd => ?_
  refine CW.sealAcc (u := .slice ua N2 ca) PK hrd (by unfold lim; omega) fun Mn a3 c3 hsq e3 hc3 hr3 => ?_
  injection e3 with e3a _ e3c
  subst e3a e3c
  have hsn : Sub Mc Mn := hs1.trans hsq
  have hsx : Sub M48 Mn := hs4.trans (hsc.trans hsn)
  refine CW.addRds (node_rd 4 0 (numsL N2) (by rw [numsL_len]; exact hr3)) ?_
  refine CW.exit ?_
  refine hK15 _ _ _ ?_
  refine CW.cut (fun L' M' Γ' => ∃ (b118 : Nat) (a4 : Option Addr) (c4 : Nat) (a5 : Option Addr) (c5 : Nat) (a6 : Option Addr) (c6 : Nat) (a7 : Option Addr) (c7 : Nat), Keep L' [(24, .slice (some ⟨b118, 0, none⟩) 7 7)] ∧ Sub Mn M' ∧ Rd M' (dbytes (b.take 60)) (.slice a5 (b.take 60).length c5) ∧ Rd M' (dbytes (encV (dqV 1 N1))) (.slice a6 (encV (dqV 1 N1)).length c6) ∧ Rd M' (dbytes (encV (.mk 4 0 (numsL N2)))) (.slice a7 (encV (.mk 4 0 (numsL N2))).length c7) ∧ ∀ w, St w0 M' Γ' w → St w0 M' (.own b118 69 [.slice (some p48) (encV x).length c48, .slice a70 (encV x).length c70, .slice (some p48) kx c48, .slice a4 (0 + (encV x).length + 1) c4, .slice a5 (b.take 60).length c5, .slice a6 (encV (dqV 1 N1)).length c6, .slice a7 (encV (.mk 4 0 (numsL N2))).length c7] :: .acc (.slice a4 (0 + (encV x).length + 1) c4) 5 1 (0 + (encV x).length + 1) (byteV (encV x) ++ byteV [y]) :: Γ) w) ?_ ?_
  ·refine CW.regionH mix _ _ (fun _ hw => hw) ?_
   refine HL.take 0 rfl KR KR KR rfl (Y.move rfl) rfl ?_
   refine HL.take 1 rfl KR KR KR rfl (Y.move rfl) rfl ?_
   refine HL.take 2 rfl KR KR KR rfl (Y.move rfl) rfl ?_
   refine HL.take 3 rfl KR KR KR rfl (Y.move rfl) rfl ?_
   refine HL.take 4 rfl KR KR KR rfl (Y.slice0 kx c48 rfl ⟨_, rfl, OM⟩ rfl (by simp) OM OM slice69) rfl ?_
   refine HL.take 6 rfl KR KR KR rfl (Y.move rfl) rfl ?_
   refine HL.take 8 rfl KR KR KR rfl (Y.move rfl) rfl ?_
   refine HL.take 11 rfl KR KR KR rfl (Y.move rfl) rfl ?_
   refine HL.take 13 rfl KR KR KR rfl (Y.loadAllR rfl MM MM EL agg53) rfl ?_
   refine HL.take 15 rfl KR KR KR rfl (Y.loadAllR rfl MM MM EL agg53) rfl ?_
   refine HL.step2 5 9 rfl rfl KR ?_ ?_
   ·refine RL.buildSlice [] elem69 rfl (by decide) fill0 rfl fun b106 => ?_
    refine RL.nil ⟨keep_same SB, ?_⟩
    refine HL.step2 7 9 rfl rfl KR ?_ ?_
    ·refine RL.ownAcc (b := b106) (k := 0) (sz := 1) PK rfl (by decide) ?_
     refine RL.appendRd elem69 rfl rfl PK MM OM (by unfold lim; omega) rfl fun a108 c108 n108 hc108 hn108 => ?_
     obtain rfl := bytes_of_rd hn108
     refine RL.nil ⟨keep_same SB, ?_⟩
     refine HL.step 9 rfl KR ?_
     refine RL.buildSlice [vbyte y] elem69 rfl (by decide) (fill1 rfl rfl) rfl fun b110 => ?_
     refine RL.nil ⟨keep_same SB, ?_⟩
     refine HL.step 10 rfl KR ?_
     refine RL.append elem69 rfl rfl PK (SrcOk.own (sz := 1) (m := 1) MM rfl (bytes_one [y])) OM (by unfold lim; omega) rfl fun a111 c111 hc111 => ?_
     refine RL.nil ⟨keep_same SB, ?_⟩
     refine HL.step 12 rfl KR ?_
     refine RL.call rfl func38 rfl rfl (by exact fewB_ok _ _ _ b _ 60 (by exact Kn.rd MM) (by decide)) ?_
     rintro v113 M113 _ ⟨hs113, rfl, hr113⟩
     obtain ⟨a113, c113, rfl, hc113, hlim113, hln113⟩ := hr113.slice
     refine RL.addRd hr113 ?_
     refine RL.nil ⟨keep_more (hs113) SB, ?_⟩
     refine HL.step 14 rfl KR ?_
     refine RL.call rfl func36 rfl rfl (by exact rencode_ok _ _ _ _ (dqV 1 N1) _ rfl (by exact Kn.rds MM) (dqV_ok (by unfold InI; decide) N1) OM) ?_
     rintro v115 M115 _ ⟨hs115, rfl, hr115⟩
     obtain ⟨a115, c115, rfl, hc115, hlim115, hln115⟩ := hr115.slice
     refine RL.addRd hr115 ?_
     refine RL.nil ⟨keep_more (hs113.trans (hs115)) SB, ?_⟩
     refine HL.step 16 rfl KR ?_
     refine RL.call rfl func36 rfl rfl (by exact rencode_ok _ _ _ _ (.mk 4 0 (numsL N2)) _ rfl (by exact Kn.rds MM) (many_ok OM) OM) ?_
     rintro v117 M117 _ ⟨hs117, rfl, hr117⟩
     obtain ⟨a117, c117, rfl, hc117, hlim117, hln117⟩ := hr117.slice
     refine RL.addRd hr117 ?_
     refine RL.nil ⟨keep_more (hs113.trans (hs115.trans (hs117))) SB, ?_⟩
     refine HL.step 17 rfl KR ?_
     refine RL.buildSlice ([[.slice (some p48) (encV x).length c48], [.slice a70 (encV x).length c70], [.slice (some p48) kx c48], [.slice a111 (0 + (encV x).length + 1) c111], [.slice a113 (b.take 60).length c113], [.slice a115 (encV (dqV 1 N1)).length c115], [.slice a117 (encV (.mk 4 0 (numsL N2))).length c117]].flatten) elem72 rfl (by decide) (fillRow (vs := [.slice (some p48) (encV x).length c48, .slice a70 (encV x).length c70, .slice (some p48) kx c48, .slice a111 (0 + (encV x).length + 1) c111, .slice a113 (b.take 60).length c113, .slice a115 (encV (dqV 1 N1)).length c115, .slice a117 (encV (.mk 4 0 (numsL N2))).length c117]) (outs := [[.slice (some p48) (encV x).length c48], [.slice a70 (encV x).length c70], [.slice (some p48) kx c48], [.slice a111 (0 + (encV x).length + 1) c111], [.slice a113 (b.take 60).length c113], [.slice a115 (encV (dqV 1 N1)).length c115], [.slice a117 (encV (.mk 4 0 (numsL N2))).length c117]]) rfl (by simp)) rfl fun b118 => ?_
     refine RL.nil ⟨keep_more (hs113.trans (hs115.trans (hs117))) SB, ?_⟩
     refine HL.take 18 rfl KR KR KR rfl (Y.assign rfl) rfl ?_
     refine HL.done KR ?_
     dsimp only [thenX]
     exact ⟨b118, a111, c111, a113, c113, a115, c115, a117, c117, (by repeat (first | exact Keep.nil _ | refine Keep.cons _ rfl ?_)), hs113.trans (hs115.trans hs117), Rd.mono (hs115.trans hs117) _ _ hr113, Rd.mono hs117 _ _ hr115, hr117, fun _ hw => hw.sub SB⟩
    refine RL.buildSlice [vbyte y] elem69 rfl (by decide) (fill1 rfl rfl) rfl fun b110 => ?_
    refine RL.nil ⟨keep_same SB, ?_⟩
    refine HL.step 7 rfl KR ?_
    refine RL.ownAcc (b := b106) (k := 0) (sz := 1) PK rfl (by decide) ?_
    refine RL.appendRd elem69 rfl rfl PK MM OM (by unfold lim; omega) rfl fun a108 c108 n108 hc108 hn108 => ?_
    obtain rfl := bytes_of_rd hn108
    refine RL.nil ⟨keep_same SB, ?_⟩
    refine HL.step 10 rfl KR ?_
    refine RL.append elem69 rfl rfl PK (SrcOk.own (sz := 1) (m := 1) MM rfl (bytes_one [y])) OM (by unfold lim; omega) rfl fun a111 c111 hc111 => ?_
    refine RL.nil ⟨keep_same SB, ?_⟩
    refine HL.step 12 rfl KR ?_
    refine RL.call rfl func38 rfl rfl (by exact fewB_ok _ _ _ b _ 60 (by exact Kn.rd MM) (by decide)) ?_
    rintro v113 M113 _ ⟨hs113, rfl, hr113⟩
    obtain ⟨a113, c113, rfl, hc113, hlim113, hln113⟩ := hr113.slice
    refine RL.addRd hr113 ?_
    refine RL.nil ⟨keep_more (hs113) SB, ?_⟩
    refine HL.step 14 rfl KR ?_
    refine RL.call rfl func36 rfl rfl (by exact rencode_ok _ _ _ _ (dqV 1 N1) _ rfl (by exact Kn.rds MM) (dqV_ok (by unfold InI; decide) N1) OM) ?_
    rintro v115 M115 _ ⟨hs115, rfl, hr115⟩
    obtain ⟨a115, c115, rfl, hc115, hlim115, hln115⟩ := hr115.slice
    refine RL.addRd hr115 ?_
    refine RL.nil ⟨keep_more (hs113.trans (hs115)) SB, ?_⟩
    refine HL.step 16 rfl KR ?_
    refine RL.call rfl func36 rfl rfl (by exact rencode_ok _ _ _ _ (.mk 4 0 (numsL N2)) _ rfl (by exact Kn.rds MM) (many_ok OM) OM) ?_
    rintro v117 M117 _ ⟨hs117, rfl, hr117⟩
    obtain ⟨a117, c117, rfl, hc117, hlim117, hln117⟩ := hr117.slice
    refine RL.addRd hr117 ?_
    refine RL.nil ⟨keep_more (hs113.trans (hs115.trans (hs117))) SB, ?_⟩
    refine HL.step 17 rfl KR ?_
    refine RL.buildSlice ([[.slice (some p48) (encV x).length c48], [.slice a70 (encV x).length c70], [.slice (some p48) kx c48], [.slice a111 (0 + (encV x).length + 1) c111], [.slice a113 (b.take 60).length c113], [.slice a115 (encV (dqV 1 N1)).length c115], [.slice a117 (encV (.mk 4 0 (numsL N2))).length c117]].flatten) elem72 rfl (by decide) (fillRow (vs := [.slice (some p48) (encV x).length c48, .slice a70 (encV x).length c70, .slice (some p48) kx c48, .slice a111 (0 + (encV x).length + 1) c111, .slice a113 (b.take 60).length c113, .slice a115 (encV (dqV 1 N1)).length c115, .slice a117 (encV (.mk 4 0 (numsL N2))).length c117]) (outs := [[.slice (some p48) (encV x).length c48], [.slice a70 (encV x).length c70], [.slice (some p48) kx c48], [.slice a111 (0 + (encV x).length + 1) c111], [.slice a113 (b.take 60).length c113], [.slice a115 (encV (dqV 1 N1)).length c115], [.slice a117 (encV (.mk 4 0 (numsL N2))).length c117]]) rfl (by simp)) rfl fun b118 => ?_
    refine RL.nil ⟨keep_more (hs113.trans (hs115.trans (hs117))) SB, ?_⟩
    refine HL.take 18 rfl KR KR KR rfl (Y.assign rfl) rfl ?_
    refine HL.done KR ?_
    dsimp only [thenX]
    exact ⟨b118, a111, c111, a113, c113, a115, c115, a117, c117, (by repeat (first | exact Keep.nil _ | refine Keep.cons _ rfl ?_)), hs113.trans (hs115.trans hs117), Rd.mono (hs115.trans hs117) _ _ hr113, Rd.mono hs117 _ _ hr115, hr117, fun _ hw => hw.sub SB⟩
   refine RL.buildSlice [vbyte y] elem69 rfl (by decide) (fill1 rfl rfl) rfl fun b110 => ?_
   refine RL.nil ⟨keep_same SB, ?_⟩
   refine HL.step 5 rfl KR ?_
   refine RL.buildSlice [] elem69 rfl (by decide) fill0 rfl fun b106 => ?_
   refine RL.nil ⟨keep_same SB, ?_⟩
   refine HL.step 7 rfl KR ?_
   refine RL.ownAcc (b := b106) (k := 0) (sz := 1) PK rfl (by decide) ?_
   refine RL.appendRd elem69 rfl rfl PK MM OM (by unfold lim; omega) rfl fun a108 c108 n108 hc108 hn108 => ?_
   obtain rfl := bytes_of_rd hn108
   refine RL.nil ⟨keep_same SB, ?_⟩
   refine HL.step 10 rfl KR ?_
   refine RL.append elem69 rfl rfl PK (SrcOk.own (sz := 1) (m := 1) MM rfl (bytes_one [y])) OM (by unfold lim; omega) rfl fun a111 c111 hc111 => ?_
   refine RL.nil ⟨keep_same SB, ?_⟩
   refine HL.step 12 rfl KR ?_
   refine RL.call rfl func38 rfl rfl (by exact fewB_ok _ _ _ b _ 60 (by exact Kn.rd MM) (by decide)) ?_
   rintro v113 M113 _ ⟨hs113, rfl, hr113⟩
   obtain ⟨a113, c113, rfl, hc113, hlim113, hln113⟩ := hr113.slice
   refine RL.addRd hr113 ?_
   refine RL.nil ⟨keep_more (hs113) SB, ?_⟩
   refine HL.step 14 rfl KR ?_
   refine RL.call rfl func36 rfl rfl (by exact rencode_ok _ _ _ _ (dqV 1 N1) _ rfl (by exact Kn.rds MM) (dqV_ok (by unfold InI; decide) N1) OM) ?_
   rintro v115 M115 _ ⟨hs115, rfl, hr115⟩
   obtain ⟨a115, c115, rfl, hc115, hlim115, hln115⟩ := hr115.slice
   refine RL.addRd hr115 ?_
   refine RL.nil ⟨keep_more (hs113.trans (hs115)) SB, ?_⟩
   refine HL.step 16 rfl KR ?_
   refine RL.call rfl func36 rfl rfl (by exact rencode_ok _ _ _ _ (.mk 4 0 (numsL N2)) _ rfl (by exact Kn.rds MM) (many_ok OM) OM) ?_
   rintro v117 M117 _ ⟨hs117, rfl, hr117⟩
   obtain ⟨a117, c117, rfl, hc117, hlim117, hln117⟩ := hr117.slice
   refine RL.addRd hr117 ?_
   refine RL.nil ⟨keep_more (hs113.trans (hs115.trans (hs117))) SB, ?_⟩
   refine HL.step 17 rfl KR ?_
   refine RL.buildSlice ([[.slice (some p48) (encV x).length c48], [.slice a70 (encV x).length c70], [.slice (some p48) kx c48], [.slice a111 (0 + (encV x).length + 1) c111], [.slice a113 (b.take 60).length c113], [.slice a115 (encV (dqV 1 N1)).length c115], [.slice a117 (encV (.mk 4 0 (numsL N2))).length c117]].flatten) elem72 rfl (by decide) (fillRow (vs := [.slice (some p48) (encV x).length c48, .slice a70 (encV x).length c70, .slice (some p48) kx c48, .slice a111 (0 + (encV x).length + 1) c111, .slice a113 (b.take 60).length c113, .slice a115 (encV (dqV 1 N1)).length c115, .slice a117 (encV (.mk 4 0 (numsL N2))).length c117]) (outs := [[.slice (some p48) (encV x).length c48], [.slice a70 (encV x).length c70], [.slice (some p48) kx c48], [.slice a111 (0 + (encV x).length + 1) c111], [.slice a113 (b.take 60).length c113], [.slice a115 (encV (dqV 1 N1)).length c115], [.slice a117 (encV (.mk 4 0 (numsL N2))).length c117]]) rfl (by simp)) rfl fun b118 => ?_
   refine RL.nil ⟨keep_more (hs113.trans (hs115.trans (hs117))) SB, ?_⟩
   refine HL.take 18 rfl KR KR KR rfl (Y.assign rfl) rfl ?_
   refine HL.done KR ?_
   dsimp only [thenX]
   exact ⟨b118, a111, c111, a113, c113, a115, c115, a117, c117, (by repeat (first | exact Keep.nil _ | refine Keep.cons _ rfl ?_)), hs113.trans (hs115.trans hs117), Rd.mono (hs115.trans hs117) _ _ hr113, Rd.mono hs117 _ _ hr115, hr117, fun _ hw => hw.sub SB⟩
  rintro _ M19 Γ19 ⟨b118, a4, c4, a5, c5, a6, c6, a7, c7, hk19, hs19, hq5, hq6, hq7, hG19⟩
  refine CW.pre ?_ hk19 hG19
  refine CW.sealAcc (u := .slice a4 (0 + (encV x).length + 1) c4) (ds := (encV x ++ [y]).map dbyte) PK (by have h1 := bytes_rd (M := M19) (encV x ++ [y]); rw [show byteV (encV x ++ [y]) = byteV (encV x) ++ byteV [y] from List.map_append] at h1; exact h1) (by unfold lim; omega) fun Ma a3 c3 hsa e3 hc3 hr3 => ?_
  injection e3 with e3a _ e3c
  subst e3a e3c
  obtain ⟨ls, hls⟩ : ∃ ls, ls = [encV x, (encV x).set kx y, (encV x).take kx, encV x ++ [y], b.take 60, encV (dqV 1 N1), encV (.mk 4 0 (numsL N2))] := ⟨_, rfl⟩
  have hlsl : ls.length = 7 := by rw [hls]; rfl
  have hlb : ∀ q ∈ ls, ∀ z ∈ q, z < 256 := by
    have hxb := encV_byte x hxf.1 OM
    intro q hq z hz
    rw [hls] at hq
    simp only [List.mem_cons, List.not_mem_nil, or_false] at hq
    rcases hq with rfl | rfl | rfl | rfl | rfl | rfl | rfl
    · exact hxb z hz
    · rcases List.mem_or_eq_of_mem_set hz with h | h
      · exact hxb z h
      · omega
    · exact hxb z (List.mem_of_mem_take hz)
    · rcases List.mem_append.1 hz with h | h
      · exact hxb z h
      · rw [List.mem_singleton] at h; omega
    · exact hbb z (List.mem_of_mem_take hz)
    · exact encV_byte _ (dqV_ok (by unfold InI; decide) N1) OM z hz
    · exact encV_byte _ (many_ok OM) OM z hz
  have hrow : RdL Ma (ls.map dbytes) [.slice (some p48) (encV x).length c48, .slice a70 (encV x).length c70, .slice (some p48) kx c48, .slice a4 (0 + (encV x).length + 1) c4, .slice a5 (b.take 60).length c5, .slice a6 (encV (dqV 1 N1)).length c6, .slice a7 (encV (.mk 4 0 (numsL N2))).length c7] := by
    rw [hls]
    have e4 : Rd Ma (dbytes (encV x ++ [y])) (.slice a4 (0 + (encV x).length + 1) c4) := by rw [dbytes, show (encV x ++ [y]).length = 0 + (encV x).length + 1 from by simp]; exact hr3
    exact RdL.cons (Rd.mono (hsx.trans (hs19.trans hsa)) _ _ hr48) (RdL.cons (Rd.mono (hsn.trans (hs19.trans hsa)) _ _ hrc) (RdL.cons (takeB_rd (Rd.mono (hsx.trans (hs19.trans hsa)) _ _ hr48) kx OM) (RdL.cons e4 (RdL.cons (Rd.mono hsa _ _ hq5) (RdL.cons (Rd.mono hsa _ _ hq6) (RdL.cons (Rd.mono hsa _ _ hq7) (RdL.nil _)))))))
  refine CW.sealOwn (b := b118) (k := 7) (sz := 1) (ds := ls.map dbytes) PK hrow rfl (by unfold lim; omega) fun Ml hsl hrl => ?_
  refine CW.addRd hrl ?_
  refine CW.seq fun K20 hK20 => ?_
  refine CW.seq fun K21 hK21 => ?_
  refine CW.region ?_
  refine RL.q (Y.assign rfl) rfl ?_
  refine RL.nil ?_
  refine hK21 _ _ _ ?_
  refine CW.kp [24, 25] rfl ?_
  refine CW.block ?_
  -- LOOP 3: live [24, 25] changed [25]
  refine CW.kp [25, 24] rfl ?_
  refine CW.loopF (fun mm Lc M3 Γc => ∃ k : Nat, mm = ls.length - k ∧ k ≤ ls.length ∧ Lc = [(25, vint k)] ∧ Γc = []) ls.length [(25, _)] [] rfl rfl ⟨0, rfl, Nat.zero_le _, rfl, rfl⟩ ?_
  rintro mm Lc M3 Γc hs3 ⟨k, rfl, hk, rfl, rfl⟩
  refine CW.seq fun K22 hK22 => ?_
  refine CW.seq fun K23 hK23 => ?_
  refine CW.region ?_
  refine RL.q (Y.move rfl) rfl ?_
  refine RL.q (Y.move rfl) rfl ?_
  refine RL.q (Y.len rfl Try.underlying72) rfl ?_
  refine RL.q (Y.lss rfl rfl) rfl ?_
  refine RL.nil ?_
  refine hK23 _ _ _ ?_
  refine CW.kp [24, 25, 122] rfl ?_
  refine CW.ite rfl (fun h4 => ?_) (fun h4 => ?_)
  ·have hka : k < ls.length := by omega
   refine CW.skip ?_
   refine hK22 _ _ _ ?_
   refine CW.seq fun K24 hK24 => ?_
   refine CW.block ?_
   refine CW.seq fun K25 hK25 => ?_
   refine CW.region ?_
   refine RL.q (Y.move rfl) rfl ?_
   refine RL.q (Y.move rfl) rfl ?_
   refine RL.q (Y.index _ rfl rfl rfl AO slice72 SM) rfl ?_
   refine RL.loadSl rfl rfl MM (by rw [Nat.mul_one, List.getElem?_map, List.getElem?_eq_getElem hka]; rfl) flat69 rfl fun a129 c129 hc129 hl129 => ?_
   refine RL.call rfl func39 rfl rfl (by exact decode_ok _ _ _ ls[k] _ (by exact Kn.rd MM) (hlb _ (List.getElem_mem hka))) ?_
   rintro v130 M130 _ ⟨hs130, rfl, us130, rfl, hr130⟩
   refine RL.addRds hr130 ?_
   have hul130 : us130.length = 3 := hr130.1.trans (Val.enc_len _)
   refine RL.q (Y.move rfl) rfl ?_
   refine RL.q (Y.extract rfl rfl) rfl ?_
   refine RL.q (Y.extract rfl rfl) rfl ?_
   refine RL.q (Y.extract rfl rfl) rfl ?_
   refine RL.alloc _ zero53 rfl rfl fun b26 => ?_
   refine RL.storeRds 3 rfl rfl RP MM EL (by first | exact Kn.lenRds MM EL | exact Kn.lenLit rfl) size53 ?_
   refine RL.q (Y.assign rfl) rfl ?_
   refine RL.q (Y.assign rfl) rfl ?_
   refine RL.nil ?_
   refine hK25 _ _ _ ?_
   refine CW.kp [24, 25, 26, 27, 28] rfl ?_
   refine CW.seq fun K26 hK26 => ?_
   refine CW.region ?_
   refine RL.q (Y.move rfl) rfl ?_
   refine RL.q (Y.move rfl) rfl ?_
   refine RL.q (Y.index _ rfl rfl rfl AO slice72 SM) rfl ?_
   refine RL.loadSl rfl rfl MM (by rw [Nat.mul_one, List.getElem?_map, List.getElem?_eq_getElem hka]; rfl) flat69 rfl fun a138 c138 hc138 hl138 => ?_
   refine RL.call rfl func40 rfl rfl (by exact rdecode_ok _ _ _ ls[k] _ (by exact Kn.rd MM) (hlb _ (List.getElem_mem hka))) ?_
   rintro v139 M139 _ ⟨hs139, rfl, us139, rfl, hr139⟩
   refine RL.addRds hr139 ?_
   have hul139 : us139.length = 3 := hr139.1.trans (Val.enc_len _)
   refine RL.q (Y.move rfl) rfl ?_
   refine RL.q (Y.extract rfl rfl) rfl ?_
   refine RL.q (Y.extract rfl rfl) rfl ?_
   refine RL.q (Y.extract rfl rfl) rfl ?_
   refine RL.alloc _ zero53 rfl rfl fun b29 => ?_
   refine RL.storeRds 3 rfl rfl RP MM EL (by first | exact Kn.lenRds MM EL | exact Kn.lenLit rfl) size53 ?_
   refine RL.q (Y.assign rfl) rfl ?_
   refine RL.q (Y.assign rfl) rfl ?_
   refine RL.nil ?_
   refine hK26 _ _ _ ?_
   refine CW.kp [24, 25, 26, 27, 28, 29, 30, 31] rfl ?_
   refine CW.seq fun K27 hK27 => ?_
   refine CW.region ?_
   refine RL.q (Y.move rfl) rfl ?_
   refine RL.q (Y.move rfl) rfl ?_
   refine RL.q (Y.litB false (Y.neq rfl rfl) (congrArg Value.bool (decide_eq_false (fun h => h rfl)))) rfl ?_
   refine RL.q (Y.move rfl) rfl ?_
   refine RL.qg WG (Y.move rfl) rfl ?_
   refine RL.qg WG (Y.move rfl) rfl ?_
   refine RL.qg WG (Y.litB false (Y.neq rfl rfl) (congrArg Value.bool (decide_eq_false (fun h => h rfl)))) rfl ?_
   refine RL.q (Y.pickF rfl rfl) rfl ?_
   refine RL.q (Y.move rfl) rfl ?_
   refine RL.qg WG (Y.loadAllR rfl MM MM EL agg53) rfl ?_
   refine RL.qg WG (Y.loadAllR rfl MM MM EL agg53) rfl ?_
   refine RL.callv WG func35 rfl rfl (by exact CallOk.val (same_ok _ _ _ (decV ls[k]).1 _ (decV ls[k]).1 _ (by exact Kn.rds MM) (by exact Kn.rds MM)) (v' := .bool true) (congrArg Value.bool (decide_eq_true (cmpV_self _)))) ?_
   refine RL.qg WG (Y.not rfl) rfl ?_
   refine RL.q (Y.pickF rfl rfl) rfl ?_
   refine RL.nil ?_
   refine hK27 _ _ _ ?_
   refine CW.kp [24, 25, 156] rfl ?_
   refine CW.no rfl ?_
   refine CW.skip ?_
   refine hK24 _ _ _ ?_
   refine CW.region ?_
   refine RL.q (Y.move rfl) rfl ?_
   refine RL.q (Y.add rfl rfl OM) rfl ?_
   refine RL.q (Y.assign rfl) rfl ?_
   refine RL.nil ?_
   refine ⟨ls.length - (k + 1), [(25, _)], ?_, (KP [25, 24]), ?_⟩
   · omega
   · exact Turn.drop ⟨[], rfl, hs3.trans (hs130.trans hs139), k + 1, rfl, by omega, rfl, rfl⟩ SB
  refine CW.exit ?_
  refine hK20 _ _ _ ?_
  refine CW.seq fun K28 hK28 => ?_
  refine CW.region ?_
  refine RL.callv rfl func21 rfl rfl (by exact lives_ok _ _ _) ?_
  refine RL.q (Y.assign rfl) rfl ?_
  refine RL.nil ?_
  refine hK28 _ _ _ ?_
  refine CW.kp [14] rfl ?_
  refine CW.ret ?_
  exact ⟨_, rfl, Turn.back hw1 (hs33.trans (hs46.trans (hs48.trans (hsx.trans (hs19.trans (hsa.trans (hsl.trans hs3))))))) ⟨rfl, rfl, rfl⟩ SB⟩
end Go.Proofs.Ytfgkhhfkodlbpaa
