/- THE LAW ValueOrders. Printed by m04A.py. -/
import Derived.Test.YtfgkhhfkodlbpaaVz
import Derived.Test.YtfgkhhfkodlbpaaPure13
import Derived.Test.YtfgkhhfkodlbpaaPure16
namespace Go.Proofs.Ytfgkhhfkodlbpaa
open Xe

set_option maxHeartbeats 2000000 in
set_option maxRecDepth 4000 in
theorem ValueOrders_ok (w0 : World) (M : Mem) (Γ : List As) (l : List Int) (ul : Value) (m1 : List Int) (um1 : Value) (m2 : List Int) (um2 : Value) (x : Val) (usx : List Value) (y : Val) (usy : List Value)  (hl : Kn w0 M Γ (Rd M (dints l) ul)) (hm1 : Kn w0 M Γ (Rd M (dints m1) um1)) (hm2 : Kn w0 M Γ (Rd M (dints m2) um2)) (hx : Kn w0 M Γ (RdL M x.enc usx)) (hy : Kn w0 M Γ (RdL M y.enc usy)) (hli : ∀ z ∈ l, InI z) (hmi1 : ∀ z ∈ m1, InI z) (hmi2 : ∀ z ∈ m2, InI z) (hxo : x.Ok) (hyo : y.Ok) :
    CallOk Try.prog w0 M Γ 5 #[ul, um1, um2, .agg usx.toArray, .agg usy.toArray] (Is M Γ (.bool true)) := by
  refine CallOk.kn hl fun hl => ?_
  obtain ⟨al, cl, rfl, hcl, hliml, hlenl⟩ := hl.slice
  refine CallOk.kn hm1 fun hm1 => ?_
  obtain ⟨am1, cm1, rfl, hcm1, hlimm1, hlenm1⟩ := hm1.slice
  refine CallOk.kn hm2 fun hm2 => ?_
  obtain ⟨am2, cm2, rfl, hcm2, hlimm2, hlenm2⟩ := hm2.slice
  refine CallOk.kn hx fun hx => ?_
  rw [Val.enc_eq] at hx
  refine CallOk.kn hy fun hy => ?_
  rw [Val.enc_eq] at hy
  have hmr := tMany_rng l
  have hdl : (typesP l).defs.length = tMany l := tDefs_len l (tMany l)
  have hid : ((typesP l).defs[tMany l - 1]'OM).id = idK (1 + ((tMany l - 1 : Nat) : Int)) := by rw [show (typesP l).defs[tMany l - 1]'OM = tDef l (tMany l - 1) from tDefs_get l OM]; rfl
  obtain ⟨f12, hf12⟩ : ∃ q : Nat, q = 12 := ⟨_, rfl⟩
  have hp12 : (4 : Int) ^ f12 ≤ 1099511627776 := by rw [hf12]; decide
  have hwf : wfT (typesP l) f12 (ofT (idK (1 + ((tMany l - 1 : Nat) : Int)))) := wfT_mono OM (types_wf l (tMany l - 1) OM)
  have hfi := valV_fine (l := m1) hwf
  have hszv := valV_size (l := m1) hwf hp12
  have hsp : (spoil 2 0 (valV (typesP l) f12 (ofT (idK (1 + ((tMany l - 1 : Nat) : Int)))) m1) 2).Ok := spoil_ok 2 0 (by unfold InI; decide) _ 2 hfi
  refine enter (f := 5) Try.func5 rfl Try.ntmps5 rfl rfl fun w1 hw1 => ?_
  refine CW.addRd hl ?_
  refine CW.addRd hm1 ?_
  refine CW.addRd hm2 ?_
  refine CW.addRds hx ?_
  refine CW.addRds hy ?_
  refine CW.addRds (by rw [Val.enc_eq]; exact hx : RdL M x.enc usx) ?_
  refine CW.addRds (by rw [Val.enc_eq]; exact hy : RdL M y.enc usy) ?_
  refine CW.seq fun K1 hK1 => ?_
  refine CW.region ?_
  refine RL.box _ rfl rfl rfl fun b8 => ?_
  refine RL.box _ rfl rfl rfl fun b9 => ?_
  refine RL.q (Y.assign rfl) rfl ?_
  refine RL.nil ?_
  refine hK1 _ _ _ ?_
  refine CW.kp [0, 1, 2, 8, 9] rfl ?_
  refine CW.seq fun K2 hK2 => ?_
  refine CW.region ?_
  refine RL.q (Y.move rfl) rfl ?_
  refine RL.call rfl func9 rfl rfl (by exact types_ok _ _ _ l _ (by exact Kn.rd MM) hli) ?_
  rintro v19 M19 _ ⟨hs19, rfl, us19, rfl, hr19⟩
  refine RL.addRds hr19 ?_
  have hul19 : us19.length = 2 := hr19.1.trans (ProgT.enc_len _)
  refine RL.alloc _ zero26 rfl rfl fun b11 => ?_
  refine RL.storeRds 2 rfl rfl RP MM EL (by first | exact Kn.lenRds MM EL | exact Kn.lenLit rfl) size26 ?_
  refine RL.nil ?_
  refine hK2 _ _ _ ?_
  refine CW.kp [1, 2, 8, 9, 11] rfl ?_
  refine CW.seq fun K3 hK3 => ?_
  refine CW.know (Kn.rds (ds := (typesP l).enc) (us := us19) MM) fun hP0 => ?_
  refine CW.region ?_
  refine RL.q (Y.field rfl field26_1) rfl ?_
  refine RL.loadOwnSl rfl rfl MM MM (by rfl) flat24 rfl fun a21 c21 hu21 hc21 hl21 => ?_
  refine RL.q (Y.field rfl field26_1) rfl ?_
  refine RL.loadOwnSl rfl rfl MM MM (by rfl) flat24 rfl fun a23 c23 hu23 hc23 hl23 => ?_
  refine RL.q (Y.len rfl Try.underlying24) rfl ?_
  refine RL.q (Y.sub rfl rfl OM) rfl ?_
  refine RL.q (Y.index (tMany l - 1) rfl rfl OM OM slice24 (fun _ hw => hw.rd_some MM OM)) rfl ?_
  refine RL.q (Y.field rfl field46_0) rfl ?_
  refine RL.q (Y.loadAggRd [_, _, _] rfl MM (Eq.trans (flat_sub DefT.enc_len _ _ _ (List.getElem?_eq_getElem AO) _ _ (Nat.le_of_ble_eq_true rfl)) (by rw [DefT.enc_eq] <;> rfl)) agg28) rfl ?_
  refine RL.callv rfl func13 rfl rfl (by exact of_ok _ _ _ _) ?_
  refine RL.alloc _ zero31 rfl rfl fun b12 => ?_
  refine RL.storeAgg _ rfl rfl RP (by rfl) (by first | (simp; done) | simp [IdT.vals]) (by first | (simp [Value.oneCell']; done) | simp [Value.oneCell', IdT.vals]) size31 ?_
  refine RL.nil ?_
  refine hK3 _ _ _ ?_
  refine CW.kp [1, 2, 8, 9, 11, 12] rfl ?_
  rw [hid]
  refine CW.seq fun K4 hK4 => ?_
  have hulx : usx.length = 3 := hx.1
  have huly : usy.length = 3 := hy.1
  refine CW.regionH mix _ _ (fun _ hw => hw) ?_
  refine HL.take 0 rfl KR KR KR rfl (Y.loadAllR rfl MM MM EL agg53) rfl ?_
  refine HL.take 1 rfl KR KR KR rfl (Y.loadAllR rfl MM MM EL agg53) rfl ?_
  refine HL.take 2 rfl KR KR KR rfl (Y.loadAllR rfl MM MM EL agg26) rfl ?_
  refine HL.take 3 rfl KR KR KR rfl (Y.loadAll rfl MM (by rfl) agg31) rfl ?_
  refine HL.take 4 rfl KR KR KR rfl (Y.move rfl) rfl ?_
  refine HL.take 6 rfl KR KR KR rfl (Y.loadAllR rfl MM MM EL agg26) rfl ?_
  refine HL.take 7 rfl KR KR KR rfl (Y.loadAll rfl MM (by rfl) agg31) rfl ?_
  refine HL.take 8 rfl KR KR KR rfl (Y.move rfl) rfl ?_
  refine HL.take 10 rfl KR KR KR rfl (Y.loadAllR rfl MM MM EL agg26) rfl ?_
  refine HL.take 11 rfl KR KR KR rfl (Y.loadAll rfl MM (by rfl) agg31) rfl ?_
  refine HL.take 12 rfl KR KR KR rfl (Y.move rfl) rfl ?_
  refine HL.step 5 rfl KR ?_
  refine RL.call rfl func22 rfl rfl (by exact value_ok _ _ _ (typesP l) _ (ofT (idK (1 + ((tMany l - 1 : Nat) : Int)))) _ m1 _ f12 (by exact Kn.rds MM) (Kn.of (ty_rd (idK (1 + ((tMany l - 1 : Nat) : Int))))) (by exact Kn.rd MM) hwf hp12 OM hmi1) ?_
  rintro v35 M35 _ ⟨hs35, rfl, us35, rfl, hr35⟩
  refine RL.addRds hr35 ?_
  have hul35 : us35.length = 3 := hr35.1.trans (Val.enc_len _)
  refine RL.nil ⟨keep_more (hs35) SB, ?_⟩
  refine HL.step 9 rfl KR ?_
  refine RL.call rfl func22 rfl rfl (by exact value_ok _ _ _ (typesP l) _ (ofT (idK (1 + ((tMany l - 1 : Nat) : Int)))) _ m2 _ f12 (by exact Kn.rds MM) (Kn.of (ty_rd (idK (1 + ((tMany l - 1 : Nat) : Int))))) (by exact Kn.rd MM) hwf hp12 OM hmi2) ?_
  rintro v39 M39 _ ⟨hs39, rfl, us39, rfl, hr39⟩
  refine RL.addRds hr39 ?_
  have hul39 : us39.length = 3 := hr39.1.trans (Val.enc_len _)
  refine RL.nil ⟨keep_more (hs35.trans (hs39)) SB, ?_⟩
  refine HL.step 13 rfl KR ?_
  refine RL.call rfl func22 rfl rfl (by exact value_ok _ _ _ (typesP l) _ (ofT (idK (1 + ((tMany l - 1 : Nat) : Int)))) _ m1 _ f12 (by exact Kn.rds MM) (Kn.of (ty_rd (idK (1 + ((tMany l - 1 : Nat) : Int))))) (by exact Kn.rd MM) hwf hp12 OM hmi1) ?_
  rintro v43 M43 _ ⟨hs43, rfl, us43, rfl, hr43⟩
  refine RL.addRds hr43 ?_
  have hul43 : us43.length = 3 := hr43.1.trans (Val.enc_len _)
  refine RL.nil ⟨keep_more (hs35.trans (hs39.trans (hs43))) SB, ?_⟩
  refine HL.step 14 rfl KR ?_
  refine RL.call rfl func23 rfl rfl (by exact spoilt_ok _ _ _ _ (valV (typesP l) f12 (ofT (idK (1 + ((tMany l - 1 : Nat) : Int)))) m1) _ 2 2 0 rfl hszv hfi.1 hfi.2 (by decide) (by decide) (by unfold InI; decide) (by unfold InI; decide) (by exact Kn.rds MM)) ?_
  rintro v44 M44 _ ⟨hs44, rfl, us44, rfl, hr44⟩
  refine RL.addRds hr44 ?_
  have hul44 : us44.length = 3 := hr44.1.trans (Val.enc_len _)
  refine RL.nil ⟨keep_more (hs35.trans (hs39.trans (hs43.trans (hs44)))) SB, ?_⟩
  refine HL.step 15 rfl KR ?_
  refine RL.buildSlice (([usx, usy, us35, us39, us44]).flatten) elem51 rfl (by decide) (fillRow (vs := [.agg usx.toArray, .agg usy.toArray, .agg us35.toArray, .agg us39.toArray, .agg us44.toArray]) (outs := [usx, usy, us35, us39, us44]) rfl (by simp [hulx, huly, hul35, hul39, hul44])) rfl fun b45 => ?_
  refine RL.nil ⟨keep_more (hs35.trans (hs39.trans (hs43.trans (hs44)))) SB, ?_⟩
  refine HL.take 16 rfl KR KR KR rfl (Y.assign rfl) rfl ?_
  refine HL.done KR ?_
  refine hK4 _ _ _ ?_
  refine CW.kp [13] rfl ?_
  refine CW.know (Kn.rds (ds := x.enc) (us := usx) MM) fun hX => ?_
  refine CW.know (Kn.rds (ds := y.enc) (us := usy) MM) fun hY => ?_
  refine CW.know (Kn.rds (ds := (valV (typesP l) f12 (ofT (idK (1 + ((tMany l - 1 : Nat) : Int)))) m1).enc) (us := us35) MM) fun hA => ?_
  refine CW.know (Kn.rds (ds := (valV (typesP l) f12 (ofT (idK (1 + ((tMany l - 1 : Nat) : Int)))) m2).enc) (us := us39) MM) fun hB => ?_
  refine CW.sealOwn (b := b45) (k := 5) (sz := 3) (ds := ([x, y, (valV (typesP l) f12 (ofT (idK (1 + ((tMany l - 1 : Nat) : Int)))) m1), (valV (typesP l) f12 (ofT (idK (1 + ((tMany l - 1 : Nat) : Int)))) m2), spoil 2 0 (valV (typesP l) f12 (ofT (idK (1 + ((tMany l - 1 : Nat) : Int)))) m1) 2]).flatMap Val.enc) PK (by simpa using hX.append (hY.append (hA.append (hB.append hr44)))) (by simp [hulx, huly, hul35, hul39, hul44]) (by unfold lim; omega) fun Mb45 hsb45 hrb45 => ?_
  obtain ⟨vs, hvs⟩ : ∃ vs, vs = [x, y, (valV (typesP l) f12 (ofT (idK (1 + ((tMany l - 1 : Nat) : Int)))) m1), (valV (typesP l) f12 (ofT (idK (1 + ((tMany l - 1 : Nat) : Int)))) m2), spoil 2 0 (valV (typesP l) f12 (ofT (idK (1 + ((tMany l - 1 : Nat) : Int)))) m1) 2] := ⟨_, rfl⟩
  rw [← hvs] at hrb45
  have hlts : vs.length = 5 := by rw [hvs]; rfl
  have hvo : ∀ v ∈ vs, v.Ok := by
    intro v hv2
    rw [hvs] at hv2
    simp only [List.mem_cons, List.not_mem_nil, or_false] at hv2
    rcases hv2 with rfl | rfl | rfl | rfl | rfl
    · exact hxo
    · exact hyo
    · exact hfi.1
    · exact (valV_fine hwf).1
    · exact hsp
  refine CW.addRd hrb45 ?_
  clear hvs
  refine CW.pre (Γ' := .rd (.sl 5 3 (vs.flatMap Val.enc)) (.slice (some ⟨b45, 0, none⟩) 5 5) :: Γ) ?_ (Keep.refl _) (fun _ hw => hw.sub SB)
  refine CW.seq fun K5 hK5 => ?_
  refine CW.seq fun K6 hK6 => ?_
  refine CW.region ?_
  refine RL.q (Y.assign rfl) rfl ?_
  refine RL.nil ?_
  refine hK6 _ _ _ ?_
  refine CW.kp [13, 14] rfl ?_
  refine CW.block ?_
  -- LOOP 1: live [13, 14] changed [14]
  refine CW.kp [14, 13] rfl ?_
  refine CW.loopF (fun mm Lc M1 Γc => ∃ i1 : Nat, mm = 5 - i1 ∧ i1 ≤ 5 ∧ Lc = [(14, vint i1)] ∧ Γc = [] ∧ M1 = Mb45) 5 [(14, _)] [] rfl rfl ⟨0, rfl, Nat.zero_le _, rfl, rfl, rfl⟩ ?_
  rintro mm Lc Mb45 Γc hsi1 ⟨i1, rfl, hi1k, rfl, rfl, rfl⟩
  refine CW.seq fun K7 hK7 => ?_
  refine CW.seq fun K8 hK8 => ?_
  refine CW.region ?_
  refine RL.q (Y.move rfl) rfl ?_
  refine RL.q (Y.lss rfl rfl) rfl ?_
  refine RL.nil ?_
  refine hK8 _ _ _ ?_
  refine CW.kp [13, 14, 47] rfl ?_
  refine CW.ite rfl (fun h1 => ?_) (fun h1 => ?_)
  ·refine CW.skip ?_
   refine hK7 _ _ _ ?_
   refine CW.seq fun K9 hK9 => ?_
   refine CW.block ?_
   refine CW.seq fun K10 hK10 => ?_
   refine CW.seq fun K11 hK11 => ?_
   refine CW.regionQ mix KR ?_
   refine QL.q (Y.move rfl) rfl ?_
   refine QL.q (Y.move rfl) rfl ?_
   refine QL.q (Y.index _ rfl rfl rfl AO slice51 SM) rfl ?_
   refine QL.loadAgg rfl rfl MM (Eq.trans (flat_take Val.enc_len _ _ _ (List.getElem?_eq_getElem AO)) (Val.enc_eq _)) (by rfl) agg53 rfl fun us53 hul53 hur53 => ?_
   refine QL.callv rfl func27 rfl rfl (by exact fun _ hC => size_ok _ _ _ _ vs[i1] _ rfl (Kn.via hC KK)) ?_
   refine QL.q (Y.move rfl) rfl ?_
   refine QL.q (Y.move rfl) rfl ?_
   refine QL.q (Y.index _ rfl rfl rfl AO slice51 SM) rfl ?_
   refine QL.loadAgg rfl rfl MM (Eq.trans (flat_take Val.enc_len _ _ _ (List.getElem?_eq_getElem AO)) (Val.enc_eq _)) (by rfl) agg53 rfl fun us58 hul58 hur58 => ?_
   refine QL.callv rfl func28 rfl rfl (by exact fun _ hC => rsize_ok _ _ _ _ vs[i1] _ rfl (Kn.via hC KK)) ?_
   refine QL.q (Y.litB false (Y.neq rfl rfl) (congrArg Value.bool (decide_eq_false (fun h => h rfl)))) rfl ?_
   refine QL.q (Y.move rfl) rfl ?_
   refine QL.qg WG (Y.move rfl) rfl ?_
   refine QL.qg WG (Y.move rfl) rfl ?_
   refine QL.qg WG (Y.index _ rfl rfl rfl AO slice51 SM) rfl ?_
   refine QL.loadAgg WG rfl MM (Eq.trans (flat_take Val.enc_len _ _ _ (List.getElem?_eq_getElem AO)) (Val.enc_eq _)) (by rfl) agg53 rfl fun us65 hul65 hur65 => ?_
   refine QL.callv WG func29 rfl rfl (by exact fun _ hC => weight_ok _ _ _ _ vs[i1] _ rfl (Kn.via hC KK) (hvo _ (List.getElem_mem OM))) ?_
   refine QL.qg WG (Y.move rfl) rfl ?_
   refine QL.qg WG (Y.move rfl) rfl ?_
   refine QL.qg WG (Y.index _ rfl rfl rfl AO slice51 SM) rfl ?_
   refine QL.loadAgg WG rfl MM (Eq.trans (flat_take Val.enc_len _ _ _ (List.getElem?_eq_getElem AO)) (Val.enc_eq _)) (by rfl) agg53 rfl fun us70 hul70 hur70 => ?_
   refine QL.callv WG func30 rfl rfl (by exact fun _ hC => rweight_ok _ _ _ _ vs[i1] _ rfl (Kn.via hC KK) (hvo _ (List.getElem_mem OM))) ?_
   refine QL.qg WG (Y.litB false (Y.neq rfl rfl) (congrArg Value.bool (decide_eq_false (fun h => h rfl)))) rfl ?_
   refine QL.q (Y.pickF rfl rfl) rfl ?_
   refine QL.q (Y.move rfl) rfl ?_
   refine QL.qg WG (Y.move rfl) rfl ?_
   refine QL.qg WG (Y.move rfl) rfl ?_
   refine QL.qg WG (Y.index _ rfl rfl rfl AO slice51 SM) rfl ?_
   refine QL.loadAgg WG rfl MM (Eq.trans (flat_take Val.enc_len _ _ _ (List.getElem?_eq_getElem AO)) (Val.enc_eq _)) (by rfl) agg53 rfl fun us78 hul78 hur78 => ?_
   refine QL.qg WG (Y.move rfl) rfl ?_
   refine QL.qg WG (Y.move rfl) rfl ?_
   refine QL.qg WG (Y.index _ rfl rfl rfl AO slice51 SM) rfl ?_
   refine QL.loadAgg WG rfl MM (Eq.trans (flat_take Val.enc_len _ _ _ (List.getElem?_eq_getElem AO)) (Val.enc_eq _)) (by rfl) agg53 rfl fun us82 hul82 hur82 => ?_
   refine QL.callv WG func31 rfl rfl (by exact fun _ hC => cmpV_ok _ _ _ _ (vs[i1]'OM) us78 (vs[i1]'OM) us82 rfl (Kn.via hC (by exact Kn.val MM)) (Kn.via hC (by exact Kn.val MM))) ?_
   refine QL.qg WG (Y.litB false (Y.neq rfl rfl) (congrArg Value.bool (decide_eq_false (fun h => h (cmpV_self _))))) rfl ?_
   refine QL.q (Y.pickF rfl rfl) rfl ?_
   refine QL.nil ?_
   refine hK11 _ _ _ ?_
   refine CW.kp [13, 14, 85] rfl ?_
   refine CW.no rfl ?_
   refine CW.skip ?_
   refine hK10 _ _ _ ?_
   refine CW.seq fun K12 hK12 => ?_
   refine CW.region ?_
   refine RL.q (Y.assign rfl) rfl ?_
   refine RL.nil ?_
   refine hK12 _ _ _ ?_
   refine CW.kp [13, 14, 15] rfl ?_
   refine CW.block ?_
   -- LOOP 2: live [13, 14, 15] changed [15]
   refine CW.kp [15, 13, 14] rfl ?_
   refine CW.loopF (fun mm Lc M1 Γc => ∃ j1 : Nat, mm = 5 - j1 ∧ j1 ≤ 5 ∧ Lc = [(15, vint j1)] ∧ Γc = [] ∧ M1 = Mb45) 5 [(15, _)] [] rfl rfl ⟨0, rfl, Nat.zero_le _, rfl, rfl, rfl⟩ ?_
   rintro mm Lc Mb45 Γc hsj1 ⟨j1, rfl, hj1k, rfl, rfl, rfl⟩
   refine CW.seq fun K13 hK13 => ?_
   refine CW.seq fun K14 hK14 => ?_
   refine CW.region ?_
   refine RL.q (Y.move rfl) rfl ?_
   refine RL.q (Y.lss rfl rfl) rfl ?_
   refine RL.nil ?_
   refine hK14 _ _ _ ?_
   refine CW.kp [13, 14, 15, 87] rfl ?_
   refine CW.ite rfl (fun h3 => ?_) (fun h3 => ?_)
   ·refine CW.skip ?_
    refine hK13 _ _ _ ?_
    refine CW.seq fun K15 hK15 => ?_
    refine CW.block ?_
    refine CW.seq fun K16 hK16 => ?_
    refine CW.regionQ mix KR ?_
    refine QL.q (Y.move rfl) rfl ?_
    refine QL.q (Y.move rfl) rfl ?_
    refine QL.q (Y.index _ rfl rfl rfl AO slice51 SM) rfl ?_
    refine QL.loadAgg rfl rfl MM (Eq.trans (flat_take Val.enc_len _ _ _ (List.getElem?_eq_getElem AO)) (Val.enc_eq _)) (by rfl) agg53 rfl fun us93 hul93 hur93 => ?_
    refine QL.q (Y.move rfl) rfl ?_
    refine QL.q (Y.move rfl) rfl ?_
    refine QL.q (Y.index _ rfl rfl rfl AO slice51 SM) rfl ?_
    refine QL.loadAgg rfl rfl MM (Eq.trans (flat_take Val.enc_len _ _ _ (List.getElem?_eq_getElem AO)) (Val.enc_eq _)) (by rfl) agg53 rfl fun us97 hul97 hur97 => ?_
    refine QL.callv rfl func31 rfl rfl (by exact fun _ hC => cmpV_ok _ _ _ _ (vs[i1]'OM) us93 (vs[j1]'OM) us97 rfl (Kn.via hC (by exact Kn.val MM)) (Kn.via hC (by exact Kn.val MM))) ?_
    refine QL.q (Y.assign rfl) rfl ?_
    refine QL.nil ?_
    refine hK16 _ _ _ ?_
    refine CW.kp [13, 14, 15, 16] rfl ?_
    refine CW.seq fun K17 hK17 => ?_
    refine CW.seq fun K18 hK18 => ?_
    refine CW.regionQ mix KR ?_
    refine QL.q (Y.move rfl) rfl ?_
    refine QL.q (Y.move rfl) rfl ?_
    refine QL.q (Y.move rfl) rfl ?_
    refine QL.q (Y.index _ rfl rfl rfl AO slice51 SM) rfl ?_
    refine QL.loadAgg rfl rfl MM (Eq.trans (flat_take Val.enc_len _ _ _ (List.getElem?_eq_getElem AO)) (Val.enc_eq _)) (by rfl) agg53 rfl fun us103 hul103 hur103 => ?_
    refine QL.q (Y.move rfl) rfl ?_
    refine QL.q (Y.move rfl) rfl ?_
    refine QL.q (Y.index _ rfl rfl rfl AO slice51 SM) rfl ?_
    refine QL.loadAgg rfl rfl MM (Eq.trans (flat_take Val.enc_len _ _ _ (List.getElem?_eq_getElem AO)) (Val.enc_eq _)) (by rfl) agg53 rfl fun us107 hul107 hur107 => ?_
    refine QL.callv rfl func32 rfl rfl (by exact fun _ hC => rcmpV_ok _ _ _ _ (vs[i1]'OM) us103 (vs[j1]'OM) us107 rfl (Kn.via hC (by exact Kn.val MM)) (Kn.via hC (by exact Kn.val MM))) ?_
    refine QL.q (Y.litB false (Y.neq rfl rfl) (congrArg Value.bool (decide_eq_false (fun h => h rfl)))) rfl ?_
    refine QL.q (Y.move rfl) rfl ?_
    refine QL.qg WG (Y.move rfl) rfl ?_
    refine QL.qg WG (Y.move rfl) rfl ?_
    refine QL.qg WG (Y.move rfl) rfl ?_
    refine QL.qg WG (Y.index _ rfl rfl rfl AO slice51 SM) rfl ?_
    refine QL.loadAgg WG rfl MM (Eq.trans (flat_take Val.enc_len _ _ _ (List.getElem?_eq_getElem AO)) (Val.enc_eq _)) (by rfl) agg53 rfl fun us115 hul115 hur115 => ?_
    refine QL.qg WG (Y.move rfl) rfl ?_
    refine QL.qg WG (Y.move rfl) rfl ?_
    refine QL.qg WG (Y.index _ rfl rfl rfl AO slice51 SM) rfl ?_
    refine QL.loadAgg WG rfl MM (Eq.trans (flat_take Val.enc_len _ _ _ (List.getElem?_eq_getElem AO)) (Val.enc_eq _)) (by rfl) agg53 rfl fun us119 hul119 hur119 => ?_
    refine QL.callv WG func31 rfl rfl (by exact fun _ hC => cmpV_ok _ _ _ _ (vs[j1]'OM) us115 (vs[i1]'OM) us119 rfl (Kn.via hC (by exact Kn.val MM)) (Kn.via hC (by exact Kn.val MM))) ?_
    refine QL.qg WG (Y.neg rfl (by have := cmpV_range (vs[j1]'OM) (vs[i1]'OM); omega)) rfl ?_
    refine QL.qg WG (Y.litB false (Y.neq rfl rfl) (congrArg Value.bool (decide_eq_false (fun h => h (cmpV_neg _ _))))) rfl ?_
    refine QL.q (Y.pickF rfl rfl) rfl ?_
    refine QL.nil ?_
    refine hK18 _ _ _ ?_
    refine CW.kp [13, 14, 15, 16, 123] rfl ?_
    refine CW.no rfl ?_
    refine CW.skip ?_
    refine hK17 _ _ _ ?_
    refine CW.seq fun K19 hK19 => ?_
    refine CW.region ?_
    refine RL.q (Y.assign rfl) rfl ?_
    refine RL.nil ?_
    refine hK19 _ _ _ ?_
    refine CW.kp [13, 14, 15, 16, 17] rfl ?_
    refine CW.block ?_
    -- LOOP 3: live [13, 14, 15, 16, 17] changed [17]
    refine CW.kp [17, 13, 14, 15, 16] rfl ?_
    refine CW.loopF (fun mm Lc M1 Γc => ∃ k1 : Nat, mm = 5 - k1 ∧ k1 ≤ 5 ∧ Lc = [(17, vint k1)] ∧ Γc = [] ∧ M1 = Mb45) 5 [(17, _)] [] rfl rfl ⟨0, rfl, Nat.zero_le _, rfl, rfl, rfl⟩ ?_
    rintro mm Lc Mb45 Γc hsk1 ⟨k1, rfl, hk1k, rfl, rfl, rfl⟩
    refine CW.seq fun K20 hK20 => ?_
    refine CW.seq fun K21 hK21 => ?_
    refine CW.region ?_
    refine RL.q (Y.move rfl) rfl ?_
    refine RL.q (Y.lss rfl rfl) rfl ?_
    refine RL.nil ?_
    refine hK21 _ _ _ ?_
    refine CW.kp [13, 14, 15, 16, 17, 125] rfl ?_
    refine CW.ite rfl (fun h5 => ?_) (fun h5 => ?_)
    ·refine CW.skip ?_
     refine hK20 _ _ _ ?_
     refine CW.seq fun K22 hK22 => ?_
     refine CW.block ?_
     refine CW.seq fun K23 hK23 => ?_
     refine CW.regionQ mix KR ?_
     refine QL.q (Y.move rfl) rfl ?_
     refine QL.qs (Y.leq rfl rfl) rfl (fun g129 => ?_) (fun g129 => ?_)
     ·refine QL.q (Y.move rfl) rfl ?_
      refine QL.qg WG (Y.move rfl) rfl ?_
      refine QL.qg WG (Y.move rfl) rfl ?_
      refine QL.qg WG (Y.index _ rfl rfl rfl AO slice51 SM) rfl ?_
      refine QL.loadAgg WG rfl MM (Eq.trans (flat_take Val.enc_len _ _ _ (List.getElem?_eq_getElem AO)) (Val.enc_eq _)) (by rfl) agg53 rfl fun us134 hul134 hur134 => ?_
      refine QL.qg WG (Y.move rfl) rfl ?_
      refine QL.qg WG (Y.move rfl) rfl ?_
      refine QL.qg WG (Y.index _ rfl rfl rfl AO slice51 SM) rfl ?_
      refine QL.loadAgg WG rfl MM (Eq.trans (flat_take Val.enc_len _ _ _ (List.getElem?_eq_getElem AO)) (Val.enc_eq _)) (by rfl) agg53 rfl fun us138 hul138 hur138 => ?_
      refine QL.callv WG func31 rfl rfl (by exact fun _ hC => cmpV_ok _ _ _ _ (vs[j1]'OM) us134 (vs[k1]'OM) us138 rfl (Kn.via hC (by exact Kn.val MM)) (Kn.via hC (by exact Kn.val MM))) ?_
      refine QL.qgs WG (Y.leq rfl rfl) rfl (fun g140 => ?_) (fun g140 => ?_)
      ·refine QL.q (Y.pickT rfl rfl) rfl ?_
       refine QL.q (Y.move rfl) rfl ?_
       refine QL.qg WG (Y.move rfl) rfl ?_
       refine QL.qg WG (Y.move rfl) rfl ?_
       refine QL.qg WG (Y.index _ rfl rfl rfl AO slice51 SM) rfl ?_
       refine QL.loadAgg WG rfl MM (Eq.trans (flat_take Val.enc_len _ _ _ (List.getElem?_eq_getElem AO)) (Val.enc_eq _)) (by rfl) agg53 rfl fun us146 hul146 hur146 => ?_
       refine QL.qg WG (Y.move rfl) rfl ?_
       refine QL.qg WG (Y.move rfl) rfl ?_
       refine QL.qg WG (Y.index _ rfl rfl rfl AO slice51 SM) rfl ?_
       refine QL.loadAgg WG rfl MM (Eq.trans (flat_take Val.enc_len _ _ _ (List.getElem?_eq_getElem AO)) (Val.enc_eq _)) (by rfl) agg53 rfl fun us150 hul150 hur150 => ?_
       refine QL.callv WG func31 rfl rfl (by exact fun _ hC => cmpV_ok _ _ _ _ (vs[i1]'OM) us146 (vs[k1]'OM) us150 rfl (Kn.via hC (by exact Kn.val MM)) (Kn.via hC (by exact Kn.val MM))) ?_
       refine QL.qg WG (Y.litB false (Y.gtr rfl rfl) (congrArg Value.bool (decide_eq_false (fun h => absurd (cmpV_trans g129 g140) OM)))) rfl ?_
       refine QL.q (Y.pickT rfl rfl) rfl ?_
       refine QL.nil ?_
       refine hK23 _ _ _ ?_
       refine CW.kp [13, 14, 15, 16, 17, 153] rfl ?_
       refine CW.no rfl ?_
       refine CW.skip ?_
       refine hK22 _ _ _ ?_
       refine CW.region ?_
       refine RL.q (Y.move rfl) rfl ?_
       refine RL.q (Y.add rfl rfl OM) rfl ?_
       refine RL.q (Y.assign rfl) rfl ?_
       refine RL.nil ?_
       refine ⟨5 - (k1 + 1), [(17, _)], ?_, (KP [17, 13, 14, 15, 16]), ?_⟩
       · omega
       · exact Turn.drop ⟨[], rfl, hsk1, k1 + 1, rfl, by omega, rfl, rfl, rfl⟩ SB
      refine QL.q (Y.pickT rfl rfl) rfl ?_
      refine QL.q (Y.move rfl) rfl ?_
      refine QL.no WG rfl ?_
      refine QL.no WG rfl ?_
      refine QL.no WG rfl ?_
      refine QL.no WG rfl ?_
      refine QL.no WG rfl ?_
      refine QL.no WG rfl ?_
      refine QL.no WG rfl ?_
      refine QL.no WG rfl ?_
      refine QL.no WG rfl ?_
      refine QL.no WG rfl ?_
      refine QL.q (Y.pickF rfl rfl) rfl ?_
      refine QL.nil ?_
      refine hK23 _ _ _ ?_
      refine CW.kp [13, 14, 15, 16, 17, 153] rfl ?_
      refine CW.no rfl ?_
      refine CW.skip ?_
      refine hK22 _ _ _ ?_
      refine CW.region ?_
      refine RL.q (Y.move rfl) rfl ?_
      refine RL.q (Y.add rfl rfl OM) rfl ?_
      refine RL.q (Y.assign rfl) rfl ?_
      refine RL.nil ?_
      refine ⟨5 - (k1 + 1), [(17, _)], ?_, (KP [17, 13, 14, 15, 16]), ?_⟩
      · omega
      · exact Turn.drop ⟨[], rfl, hsk1, k1 + 1, rfl, by omega, rfl, rfl, rfl⟩ SB
     refine QL.q (Y.move rfl) rfl ?_
     refine QL.no WG rfl ?_
     refine QL.no WG rfl ?_
     refine QL.no WG rfl ?_
     refine QL.no WG rfl ?_
     refine QL.no WG rfl ?_
     refine QL.no WG rfl ?_
     refine QL.no WG rfl ?_
     refine QL.no WG rfl ?_
     refine QL.no WG rfl ?_
     refine QL.no WG rfl ?_
     refine QL.q (Y.pickF rfl rfl) rfl ?_
     refine QL.q (Y.move rfl) rfl ?_
     refine QL.no WG rfl ?_
     refine QL.no WG rfl ?_
     refine QL.no WG rfl ?_
     refine QL.no WG rfl ?_
     refine QL.no WG rfl ?_
     refine QL.no WG rfl ?_
     refine QL.no WG rfl ?_
     refine QL.no WG rfl ?_
     refine QL.no WG rfl ?_
     refine QL.no WG rfl ?_
     refine QL.q (Y.pickF rfl rfl) rfl ?_
     refine QL.nil ?_
     refine hK23 _ _ _ ?_
     refine CW.kp [13, 14, 15, 16, 17, 153] rfl ?_
     refine CW.no rfl ?_
     refine CW.skip ?_
     refine hK22 _ _ _ ?_
     refine CW.region ?_
     refine RL.q (Y.move rfl) rfl ?_
     refine RL.q (Y.add rfl rfl OM) rfl ?_
     refine RL.q (Y.assign rfl) rfl ?_
     refine RL.nil ?_
     refine ⟨5 - (k1 + 1), [(17, _)], ?_, (KP [17, 13, 14, 15, 16]), ?_⟩
     · omega
     · exact Turn.drop ⟨[], rfl, hsk1, k1 + 1, rfl, by omega, rfl, rfl, rfl⟩ SB
    refine CW.exit ?_
    refine hK15 _ _ _ ?_
    refine CW.region ?_
    refine RL.q (Y.move rfl) rfl ?_
    refine RL.q (Y.add rfl rfl OM) rfl ?_
    refine RL.q (Y.assign rfl) rfl ?_
    refine RL.nil ?_
    refine ⟨5 - (j1 + 1), [(15, _)], ?_, (KP [15, 13, 14]), ?_⟩
    · omega
    · exact Turn.drop ⟨[], rfl, hsj1, j1 + 1, rfl, by omega, rfl, rfl, rfl⟩ SB
   refine CW.exit ?_
   refine hK9 _ _ _ ?_
   refine CW.region ?_
   refine RL.q (Y.move rfl) rfl ?_
   refine RL.q (Y.add rfl rfl OM) rfl ?_
   refine RL.q (Y.assign rfl) rfl ?_
   refine RL.nil ?_
   refine ⟨5 - (i1 + 1), [(14, _)], ?_, (KP [14, 13]), ?_⟩
   · omega
   · exact Turn.drop ⟨[], rfl, hsi1, i1 + 1, rfl, by omega, rfl, rfl, rfl⟩ SB
  refine CW.exit ?_
  refine hK5 _ _ _ ?_
  refine CW.seq fun K24 hK24 => ?_
  refine CW.region ?_
  refine RL.callv rfl func21 rfl rfl (by exact lives_ok _ _ _) ?_
  refine RL.q (Y.assign rfl) rfl ?_
  refine RL.nil ?_
  refine hK24 _ _ _ ?_
  refine CW.kp [10] rfl ?_
  refine CW.ret ?_
  exact ⟨_, rfl, Turn.back hw1 (hs19.trans (hs35.trans (hs39.trans (hs43.trans (hs44.trans (hsb45.trans hsi1)))))) ⟨rfl, rfl, rfl⟩ SB⟩
end Go.Proofs.Ytfgkhhfkodlbpaa
