/- THE LAW ValueZeros. Printed by m04C.py. -/
import Derived.Test.YtfgkhhfkodlbpaaVy
import Derived.Test.YtfgkhhfkodlbpaaPureB
namespace Go.Proofs.Ytfgkhhfkodlbpaa
open Xe

set_option maxHeartbeats 4000000 in
set_option maxRecDepth 4000 in
theorem ValueZeros_ok (w0 : World) (M : Mem) (Γ : List As) (l : List Int) (ul : Value) (m1 : List Int) (um1 : Value) (p : ProgT) (usp : List Value) (t : Ty) (ust : List Value) (tu : Int)  (hl : Kn w0 M Γ (Rd M (dints l) ul)) (hm1 : Kn w0 M Γ (Rd M (dints m1) um1)) (hp : Kn w0 M Γ (RdL M p.enc usp)) (ht : Kn w0 M Γ (RdL M t.enc ust)) (hli : ∀ z ∈ l, InI z) (hmi1 : ∀ z ∈ m1, InI z) (hti : InI tu) :
    CallOk Try.prog w0 M Γ 6 #[ul, um1, .agg usp.toArray, .agg ust.toArray, vint tu] (Is M Γ (.bool true)) := by
  refine CallOk.kn hl fun hl => ?_
  obtain ⟨al, cl, rfl, hcl, hliml, hlenl⟩ := hl.slice
  refine CallOk.kn hm1 fun hm1 => ?_
  obtain ⟨am1, cm1, rfl, hcm1, hlimm1, hlenm1⟩ := hm1.slice
  refine CallOk.kn hp fun hp => ?_
  rw [ProgT.enc_eq] at hp
  refine CallOk.kn ht fun ht => ?_
  rw [Ty.enc_eq] at ht
  have hmr := tMany_rng l
  have hdl : (typesP l).defs.length = tMany l := tDefs_len l (tMany l)
  have har := around_lt tu (tMany l : Nat) OM
  obtain ⟨kk, hkk⟩ := Int.eq_ofNat_of_zero_le har.1
  have hkl : kk < (typesP l).defs.length := by omega
  have hp12 : (4 : Int) ^ 12 ≤ 1099511627776 := by decide
  have har5 := around_lt (tu.tdiv 16) 5 OM
  refine enter (f := 6) Try.func6 rfl Try.ntmps6 rfl rfl fun w1 hw1 => ?_
  refine CW.addRd hl ?_
  refine CW.addRd hm1 ?_
  refine CW.addRds hp ?_
  refine CW.addRds ht ?_
  refine CW.seq fun K1 hK1 => ?_
  refine CW.region ?_
  refine RL.box _ rfl rfl rfl fun b7 => ?_
  refine RL.box _ rfl rfl rfl fun b8 => ?_
  refine RL.q (Y.assign rfl) rfl ?_
  refine RL.nil ?_
  refine hK1 _ _ _ ?_
  refine CW.kp [0, 1, 4, 7, 8] rfl ?_
  refine CW.seq fun K2 hK2 => ?_
  refine CW.region ?_
  refine RL.q (Y.move rfl) rfl ?_
  refine RL.call rfl func9 rfl rfl (by exact types_own _ _ _ l _ (by exact Kn.rd MM) hli) ?_
  rintro v28 M28 _ ⟨ua, ca, usd, vm, hs28, rfl, rfl, hvm, hds28⟩
  obtain ⟨am, cm, rfl, _, _, _⟩ := hvm.slice
  refine RL.alloc _ zero26 rfl rfl fun b11 => ?_
  refine RL.storeAgg _ rfl rfl RP (by rfl) (by first | (simp; done) | simp [IdT.vals]) (by first | (simp [Value.oneCell']; done) | simp [Value.oneCell', IdT.vals]) size26 ?_
  refine RL.nil ?_
  refine hK2 _ _ _ ?_
  refine CW.kp [1, 4, 7, 8, 11] rfl ?_
  have hul : usd.length = tMany l * 31 := by rw [hds28.1, flatLen DefT.enc_len, tDefs_len]
  refine CW.lendAcc (u := .slice ua (tMany l) ca) PK hds28 (by unfold lim; omega) OM fun Md hsd hrd hlent => ?_
  have hrd2 : Rd Md (.sl (tMany l) 31 ((typesP l).defs.flatMap DefT.enc)) (.slice ua (tMany l) ca) := hrd
  refine CW.addRd hrd2 ?_
  have hP : RdL Md (typesP l).enc [.slice am 1 cm, .slice ua (tMany l) ca] := by rw [ProgT.enc_eq]; exact RdL.cons (by simpa [typesP] using Rd.mono hsd _ _ hvm) (RdL.cons (by rw [hdl]; exact hrd2) (RdL.nil _))
  refine CW.addRds hP ?_
  refine CW.seq fun K3 hK3 => ?_
  refine CW.seq fun K4 hK4 => ?_
  refine CW.region ?_
  refine RL.q (Y.assign rfl) rfl ?_
  refine RL.nil ?_
  refine hK4 _ _ _ ?_
  refine CW.kp [1, 4, 7, 8, 11, 12] rfl ?_
  refine CW.block ?_
  -- LOOP 1: live [1, 4, 7, 8, 11, 12] changed [12]
  refine CW.kp [12, 1, 4, 7, 8, 11] rfl ?_
  refine CW.loopF (fun mm Lc M1 Γc => ∃ k : Nat, mm = tMany l - k ∧ k ≤ tMany l ∧ Lc = [(12, vint k)] ∧ Γc = []) (tMany l) [(12, _)] [] rfl rfl ⟨0, rfl, Nat.zero_le _, rfl, rfl⟩ ?_
  rintro mm Lc M1 Γc hs ⟨k, rfl, hk, rfl, rfl⟩
  refine CW.seq fun K5 hK5 => ?_
  refine CW.seq fun K6 hK6 => ?_
  refine CW.region ?_
  refine RL.q (Y.move rfl) rfl ?_
  refine RL.q (Y.field rfl field26_1) rfl ?_
  refine RL.q (Y.loadOwn rfl MM (by rfl) flat24) rfl ?_
  refine RL.q (Y.len rfl Try.underlying24) rfl ?_
  refine RL.q (Y.lss rfl rfl) rfl ?_
  refine RL.nil ?_
  refine hK6 _ _ _ ?_
  refine CW.kp [1, 4, 7, 8, 11, 12, 33] rfl ?_
  refine CW.ite rfl (fun h1 => ?_) (fun h1 => ?_)
  ·have hka : k < (typesP l).defs.length := by omega
   obtain ⟨hkm, hth, hid⟩ := types_get l hka
   obtain ⟨dd, hdd⟩ : ∃ dd, dd = (typesP l).defs[k] := ⟨_, rfl⟩
   rw [← hdd] at hth hid
   have hz := types_zero l hkm
   have hwf : wfT (typesP l) 12 (ofT (idK (1 + (k : Int)))) := wfT_mono OM (types_wf l k hkm)
   have hwt := types_wt l m1 hkm
   simp only [tyK] at hz hwt
   rw [← hid] at hz hwf hwt
   refine CW.skip ?_
   refine hK5 _ _ _ ?_
   refine CW.seq fun K7 hK7 => ?_
   refine CW.block ?_
   refine CW.seq fun K8 hK8 => ?_
   refine CW.region ?_
   refine RL.q (Y.field rfl field26_1) rfl ?_
   refine RL.q (Y.loadOwn rfl MM (by rfl) flat24) rfl ?_
   refine RL.q (Y.move rfl) rfl ?_
   refine RL.q (Y.index _ rfl rfl rfl AO slice24 SM) rfl ?_
   refine RL.q (Y.field rfl field46_0) rfl ?_
   refine RL.q (Y.loadAggRd [_, _, _] rfl MM (Eq.trans (flat_sub DefT.enc_len _ _ _ (List.getElem?_eq_getElem AO) _ _ (Nat.le_of_ble_eq_true rfl)) (by rw [DefT.enc_eq] <;> rfl)) agg28) rfl ?_
   refine RL.callv rfl func13 rfl rfl (by exact of_ok _ _ _ ((typesP l).defs[k]).id) ?_
   refine RL.alloc _ zero31 rfl rfl fun b13 => ?_
   refine RL.storeAgg _ rfl rfl RP (by rfl) (by first | (simp; done) | simp [IdT.vals]) (by first | (simp [Value.oneCell']; done) | simp [Value.oneCell', IdT.vals]) size31 ?_
   refine RL.nil ?_
   refine hK8 _ _ _ ?_
   refine CW.kp [1, 4, 7, 8, 11, 12, 13] rfl ?_
   rw [← hdd]
   refine CW.seq fun K9 hK9 => ?_
   refine CW.region ?_
   refine RL.q (Y.loadAllR rfl MM MM EL agg26) rfl ?_
   refine RL.q (Y.loadAll rfl MM (by rfl) agg31) rfl ?_
   refine RL.call rfl func33 rfl rfl (by exact zero_ok _ _ _ (typesP l) _ (ofT dd.id) _ (by exact Kn.rds MM) (Kn.of (ty_rd dd.id))) ?_
   rintro v46 M46 _ ⟨hs46, rfl, us46, rfl, hr46⟩
   rw [hz.1]
   refine RL.addRds hr46 ?_
   have hul46 : us46.length = 3 := hr46.1.trans (Val.enc_len _)
   refine RL.q (Y.move rfl) rfl ?_
   refine RL.q (Y.extract rfl rfl) rfl ?_
   refine RL.q (Y.extract rfl rfl) rfl ?_
   refine RL.alloc _ zero53 rfl rfl fun b14 => ?_
   refine RL.storeRds 3 rfl rfl RP MM EL (by first | exact Kn.lenRds MM EL | exact Kn.lenLit rfl) size53 ?_
   refine RL.q (Y.assign rfl) rfl ?_
   refine RL.nil ?_
   refine hK9 _ _ _ ?_
   refine CW.kp [1, 4, 7, 8, 11, 12, 13, 14, 15] rfl ?_
   refine CW.seq fun K10 hK10 => ?_
   refine CW.region ?_
   refine RL.q (Y.move rfl) rfl ?_
   refine RL.q (Y.litB false (Y.neq rfl rfl) (congrArg Value.bool (decide_eq_false (fun h => h rfl)))) rfl ?_
   refine RL.q (Y.move rfl) rfl ?_
   refine RL.qg WG (Y.loadAllR rfl MM MM EL agg53) rfl ?_
   refine RL.callv WG func29 rfl rfl (by exact weight_ok _ _ _ _ (zeroV (typesP l) (ofT dd.id)).1 _ rfl KK (zeroF_fine _ _ _ _).1) ?_
   refine RL.qg WG (Y.litB false (Y.neq rfl rfl) (congrArg Value.bool (decide_eq_false (fun h => h (by rw [hz.2.1]; exact w64_in (by decide)))))) rfl ?_
   refine RL.q (Y.pickF rfl rfl) rfl ?_
   refine RL.q (Y.move rfl) rfl ?_
   refine RL.qg WG (Y.loadAllR rfl MM MM EL agg26) rfl ?_
   refine RL.qg WG (Y.loadAll rfl MM (by rfl) agg31) rfl ?_
   refine RL.qg WG (Y.loadAllR rfl MM MM EL agg53) rfl ?_
   refine RL.callv WG func24 rfl rfl (by exact CallOk.val (valid_ok _ _ _ (typesP l) _ (ofT dd.id) _ (zeroV (typesP l) (ofT dd.id)).1 _ KK (Kn.of (ty_rd dd.id)) KK) (v' := .bool true) (congrArg Value.bool (decide_eq_true hz.2.2))) ?_
   refine RL.qg WG (Y.not rfl) rfl ?_
   refine RL.q (Y.pickF rfl rfl) rfl ?_
   refine RL.q (Y.move rfl) rfl ?_
   refine RL.qg WG (Y.loadAllR rfl MM MM EL agg26) rfl ?_
   refine RL.qg WG (Y.loadAll rfl MM (by rfl) agg31) rfl ?_
   refine RL.qg WG (Y.move rfl) rfl ?_
   refine RL.call WG func22 rfl rfl (by exact value_ok _ _ _ (typesP l) _ (ofT dd.id) _ m1 _ 12 (by exact Kn.rds MM) (Kn.of (ty_rd dd.id)) (by exact Kn.rd MM) hwf hp12 OM hmi1) ?_
   rintro v67 M67 _ ⟨hs67, rfl, us67, rfl, hr67⟩
   refine RL.addRds hr67 ?_
   have hul67 : us67.length = 3 := hr67.1.trans (Val.enc_len _)
   refine RL.callv WG func29 rfl rfl (by exact weight_ok _ _ _ _ (valV (typesP l) 12 (ofT dd.id) m1) _ rfl KK (valV_fine hwf).1) ?_
   refine RL.qg WG (Y.litB false (Y.lss rfl rfl) (congrArg Value.bool (decide_eq_false hwt))) rfl ?_
   refine RL.q (Y.pickF rfl rfl) rfl ?_
   refine RL.nil ?_
   refine hK10 _ _ _ ?_
   refine CW.kp [1, 4, 7, 8, 11, 12, 70] rfl ?_
   refine CW.no rfl ?_
   refine CW.skip ?_
   refine hK7 _ _ _ ?_
   refine CW.region ?_
   refine RL.q (Y.move rfl) rfl ?_
   refine RL.q (Y.add rfl rfl OM) rfl ?_
   refine RL.q (Y.assign rfl) rfl ?_
   refine RL.nil ?_
   refine ⟨tMany l - (k + 1), [(12, _)], ?_, (KP [12, 1, 4, 7, 8, 11]), ?_⟩
   · omega
   · exact Turn.drop ⟨[], rfl, hs.trans (hs46.trans hs67), k + 1, rfl, by omega, rfl, rfl⟩ SB
  refine CW.exit ?_
  refine hK3 _ _ _ ?_
  refine CW.seq fun K11 hK11 => ?_
  refine CW.backAcc [.own b11 26 [.slice am 1 cm, .slice ua (tMany l) ca], .own b8 31 ust, .own b7 26 usp] hlent hs hw1 hs28 hsd SB (by intro x hx; simp only [List.mem_cons, List.not_mem_nil, or_false] at hx; rcases hx with rfl | rfl | rfl <;> simp [As.blk]) fun Mr hsr => ?_
  refine CW.addRds (hp.mono (hs28.trans hsr)) ?_
  refine CW.addRds (ht.mono (hs28.trans hsr)) ?_
  refine CW.region ?_
  refine RL.q (Y.loadAllR rfl MM MM EL agg26) rfl ?_
  refine RL.call rfl func10 rfl rfl (by exact few_ok _ _ _ p _ (by exact KK)) ?_
  rintro v72 M72 _ ⟨hs72, rfl, us72, rfl, hr72⟩
  refine RL.addRds hr72 ?_
  have hul72 : us72.length = 2 := hr72.1.trans (ProgT.enc_len _)
  refine RL.alloc _ zero26 rfl rfl fun b16 => ?_
  refine RL.storeRds 2 rfl rfl RP MM EL (by first | exact Kn.lenRds MM EL | exact Kn.lenLit rfl) size26 ?_
  refine RL.nil ?_
  refine hK11 _ _ _ ?_
  refine CW.kp [4, 8, 11, 16] rfl ?_
  refine CW.seq fun K12 hK12 => ?_
  refine CW.region ?_
  refine RL.q (Y.loadAllR rfl MM MM EL agg26) rfl ?_
  refine RL.q (Y.loadAllR rfl MM MM EL agg31) rfl ?_
  refine RL.call rfl func33 rfl rfl (by exact zero_ok _ _ _ (fewP p) _ t _ (by exact Kn.rds MM) (by exact Kn.ty MM)) ?_
  rintro v76 M76 _ ⟨hs76, rfl, us76, rfl, hr76⟩
  refine RL.addRds hr76 ?_
  have hul76 : us76.length = 3 := hr76.1.trans (Val.enc_len _)
  refine RL.q (Y.move rfl) rfl ?_
  refine RL.q (Y.extract rfl rfl) rfl ?_
  refine RL.q (Y.extract rfl rfl) rfl ?_
  refine RL.alloc _ zero53 rfl rfl fun b17 => ?_
  refine RL.storeRds 3 rfl rfl RP MM EL (by first | exact Kn.lenRds MM EL | exact Kn.lenLit rfl) size53 ?_
  refine RL.q (Y.assign rfl) rfl ?_
  refine RL.nil ?_
  refine hK12 _ _ _ ?_
  refine CW.kp [4, 8, 11, 16, 17, 18] rfl ?_
  refine CW.seq fun K13 hK13 => ?_
  refine CW.region ?_
  refine RL.q (Y.loadAllR rfl MM MM EL agg26) rfl ?_
  refine RL.q (Y.loadAllR rfl MM MM EL agg31) rfl ?_
  refine RL.call rfl func34 rfl rfl (by exact rzero_ok _ _ _ (fewP p) _ t _ (by exact Kn.rds MM) (by exact Kn.ty MM)) ?_
  rintro v82 M82 _ ⟨hs82, rfl, us82, rfl, hr82⟩
  refine RL.addRds hr82 ?_
  have hul82 : us82.length = 3 := hr82.1.trans (Val.enc_len _)
  refine RL.q (Y.move rfl) rfl ?_
  refine RL.q (Y.extract rfl rfl) rfl ?_
  refine RL.q (Y.extract rfl rfl) rfl ?_
  refine RL.alloc _ zero53 rfl rfl fun b19 => ?_
  refine RL.storeRds 3 rfl rfl RP MM EL (by first | exact Kn.lenRds MM EL | exact Kn.lenLit rfl) size53 ?_
  refine RL.q (Y.assign rfl) rfl ?_
  refine RL.nil ?_
  refine hK13 _ _ _ ?_
  refine CW.kp [4, 11, 17, 18, 19, 20] rfl ?_
  refine CW.seq fun K14 hK14 => ?_
  refine CW.region ?_
  refine RL.q (Y.move rfl) rfl ?_
  refine RL.q (Y.field rfl field26_1) rfl ?_
  refine RL.q (Y.loadOwn rfl MM (by rfl) flat24) rfl ?_
  refine RL.q (Y.len rfl Try.underlying24) rfl ?_
  refine RL.callv rfl func11 rfl rfl (by exact around_ok _ _ _ tu _ hti OM) ?_
  refine RL.q (Y.assign rfl) rfl ?_
  refine RL.nil ?_
  refine hK14 _ _ _ ?_
  refine CW.kp [4, 11, 17, 18, 19, 20, 21] rfl ?_
  refine CW.seq fun K15 hK15 => ?_
  refine CW.region ?_
  refine RL.q (Y.assign rfl) rfl ?_
  refine RL.nil ?_
  refine hK15 _ _ _ ?_
  refine CW.kp [4, 11, 17, 18, 19, 20, 21, 22] rfl ?_
  refine CW.seq fun K16 hK16 => ?_
  obtain ⟨asl, csl, hcell, hcr⟩ := cell_sl (ds := (typesP l).defs.flatMap DefT.enc) hds28 (def_slots_at hkl)
  obtain ⟨dk, hdk⟩ : ∃ dk, dk = (typesP l).defs[kk] := ⟨_, rfl⟩
  rw [← hdk] at hcell hcr
  have hnr : 1 ≤ dk.slots.length ∧ dk.slots.length ≤ 3 := by
    have h1 := tArity_rng l kk
    rw [hdk, show (typesP l).defs[kk] = tDef l kk from tDefs_get l OM]
    show 1 ≤ (tSlots l kk (tArity l kk)).length ∧ (tSlots l kk (tArity l kk)).length ≤ 3
    rw [tSlots_len]; exact h1
  obtain ⟨nn, hnn⟩ : ∃ nn, nn = dk.slots.length := ⟨_, rfl⟩
  rw [← hnn] at hcell hcr hnr
  have har4 := around_lt (tu.tdiv 4) (nn : Nat) OM
  obtain ⟨jj, hjj⟩ := Int.eq_ofNat_of_zero_le har4.1
  refine CW.addRd (Rd.mono (hsr.trans (hs72.trans (hs76.trans hs82))) _ _ hcr) ?_
  refine CW.accNil 66 11 ?_
  refine CW.regionGP 13 mix (x := .acc _ _ _ _ _) PK ?_
  refine HG.take 0 rfl KR KR KR rfl (Y.field rfl field26_1) rfl ?_
  refine HG.take 1 rfl KR KR KR rfl (Y.loadOwn rfl MM (by rfl) flat24) rfl ?_
  refine HG.take 2 rfl KR KR KR rfl (Y.move rfl) rfl ?_
  refine HG.take 3 rfl KR KR KR rfl (Y.move rfl) rfl ?_
  refine HG.take 4 rfl KR KR KR rfl (Y.field rfl field26_1) rfl ?_
  refine HG.take 5 rfl KR KR KR rfl (Y.loadOwn rfl MM (by rfl) flat24) rfl ?_
  refine HG.take 6 rfl KR KR KR rfl (Y.move rfl) rfl ?_
  refine HG.take 7 rfl KR KR KR rfl (Y.index kk rfl rfl hkk OM slice24 (fun _ hw => (hw.acc_cell MM hcell).1)) rfl ?_
  refine HG.take 8 rfl KR KR KR rfl (Y.field rfl field46_4) rfl ?_
  refine HG.take 9 rfl KR KR KR rfl (Y.loadAcc rfl MM hcell flat40) rfl ?_
  refine HG.step 10 rfl KR ?_
  refine RL.appendRd elem40 rfl rfl PK MM OM (by unfold lim; omega) rfl fun a100 c100 n100 hc100 hn100 => ?_
  rw [Nat.zero_add nn, List.nil_append n100]
  refine RL.nil ⟨keep_same SB, ?_⟩
  refine HG.step 11 rfl KR ?_
  refine RL.q (Y.index kk rfl rfl hkk OM slice24 (fun _ hw => (hw.acc_cell MM hcell).1)) rfl ?_
  refine RL.nil ⟨keep_same SB, ?_⟩
  refine HG.take 12 rfl KR KR KR rfl (Y.field rfl field46_4) rfl ?_
  refine HG.last 13 rfl ⟨KR, rfl⟩ KR ?_
  refine RL.front (x := .acc (.slice ua (tMany l) ca) 46 31 (tMany l) usd) PK ?_
  refine RL.storeAcc (usd.set (kk * 31 + 8) (.slice a100 nn c100)) rfl rfl rfl OM (by rfl) size40 ?_
  refine RL.nil ?_
  refine hK16 _ _ _ ?_
  refine CW.kp [4, 11, 17, 18, 19, 20, 21] rfl ?_
  obtain ⟨us2, hus2⟩ : ∃ q, q = usd.set (kk * 31 + 8) (.slice a100 nn c100) := ⟨_, rfl⟩
  rw [← hus2]
  have hcell2 : us2[kk * 31 + 8]? = some (.slice a100 nn c100) := by rw [hus2, List.getElem?_set_self OM]
  have hul2 : us2.length = tMany l * 31 := by rw [hus2, List.length_set, hul]
  have hnl : n100.length = nn * 11 := by rw [hn100.1, flatLen SlotT.enc_len, hnn]
  obtain ⟨vq, hcs⟩ : ∃ x, n100[jj * 11 + 4]? = some x := ⟨_, List.getElem?_eq_getElem OM⟩
  refine CW.seq fun K17 hK17 => ?_
  refine CW.regionG 24 mix _ _ (fun _ hw => hw) ?_
  refine HG.take 0 rfl KR KR KR rfl (Y.field rfl field26_1) rfl ?_
  refine HG.take 1 rfl KR KR KR rfl (Y.loadOwn rfl MM (by rfl) flat24) rfl ?_
  refine HG.take 2 rfl KR KR KR rfl (Y.move rfl) rfl ?_
  refine HG.take 3 rfl KR KR KR rfl (Y.index kk rfl rfl hkk OM slice24 (fun _ hw => (hw.acc_cell MM hcell2).1)) rfl ?_
  refine HG.take 4 rfl KR KR KR rfl (Y.field rfl field46_4) rfl ?_
  refine HG.take 5 rfl KR KR KR rfl (Y.loadAcc rfl MM hcell2 flat40) rfl ?_
  refine HG.take 6 rfl KR KR KR rfl (Y.move rfl) rfl ?_
  refine HG.take 7 rfl KR KR KR rfl (Y.quo rfl rfl (by decide) (tdiv_InI hti 4 (by decide))) rfl ?_
  refine HG.take 8 rfl KR KR KR rfl (Y.field rfl field26_1) rfl ?_
  refine HG.take 9 rfl KR KR KR rfl (Y.loadOwn rfl MM (by rfl) flat24) rfl ?_
  refine HG.take 10 rfl KR KR KR rfl (Y.move rfl) rfl ?_
  refine HG.take 11 rfl KR KR KR rfl (Y.index kk rfl rfl hkk OM slice24 (fun _ hw => (hw.acc_cell MM hcell2).1)) rfl ?_
  refine HG.take 12 rfl KR KR KR rfl (Y.field rfl field46_4) rfl ?_
  refine HG.take 13 rfl KR KR KR rfl (Y.loadAcc rfl MM hcell2 flat40) rfl ?_
  refine HG.take 14 rfl KR KR KR rfl (Y.len rfl Try.underlying40) rfl ?_
  refine HG.take 16 rfl KR KR KR rfl (Y.move rfl) rfl ?_
  refine HG.take 17 rfl KR KR KR rfl (Y.quo rfl rfl (by decide) (tdiv_InI hti 16 (by decide))) rfl ?_
  refine HG.step 15 rfl KR ?_
  refine RL.callv rfl func11 rfl rfl (by exact around_ok _ _ _ (tu.tdiv 4) (nn : Nat) (tdiv_InI hti 4 (by decide)) OM) ?_
  refine RL.nil ⟨keep_same SB, ?_⟩
  refine HG.step 18 rfl KR ?_
  refine RL.callv rfl func11 rfl rfl (by exact around_ok _ _ _ (tu.tdiv 16) 5 (tdiv_InI hti 16 (by decide)) OM) ?_
  refine RL.nil ⟨keep_same SB, ?_⟩
  refine HG.take 19 rfl KR KR KR rfl (Y.add rfl rfl OM) rfl ?_
  refine HG.step 20 rfl KR ?_
  refine RL.callv rfl func14 rfl rfl (by exact id_ok _ _ _ (1 + around (tu.tdiv 16) 5) OM OM) ?_
  refine RL.nil ⟨keep_same SB, ?_⟩
  refine HG.step 21 rfl KR ?_
  refine RL.callv rfl func13 rfl rfl (by exact of_ok _ _ _ (idK (1 + around (tu.tdiv 16) 5))) ?_
  refine RL.nil ⟨keep_same SB, ?_⟩
  refine HG.step 22 rfl KR ?_
  refine RL.q (Y.index jj rfl rfl hjj OM slice40 (fun _ hw => (hw.acc_cell MM hcs).1)) rfl ?_
  refine RL.nil ⟨keep_same SB, ?_⟩
  refine HG.take 23 rfl KR KR KR rfl (Y.field rfl field66_2) rfl ?_
  refine HG.last 24 rfl ⟨KR, rfl⟩ KR ?_
  refine RL.front (x := .acc (.slice a100 nn c100) 66 11 nn n100) PK ?_
  refine RL_storeAggAcc (n100.take (jj * 11 + 4) ++ ([vint 3, vint (idK (1 + around (tu.tdiv 16) 5)).shop, vint (idK (1 + around (tu.tdiv 16) 5)).seq, vint (idK (1 + around (tu.tdiv 16) 5)).index, .slice none 0 0] ++ n100.drop (jj * 11 + 4 + 5))) rfl rfl (by rw [List.append_assoc]; rfl) (by simp; omega) (ty_rd (M := M82) (idK (1 + around (tu.tdiv 16) 5))).one size31 ?_
  refine RL.nil ?_
  refine hK17 _ _ _ ?_
  refine CW.kp [11, 17, 18, 19, 20, 21] rfl ?_
  have hjl : jj < dk.slots.length := by omega
  obtain ⟨sN, hsN⟩ : ∃ sN, sN = dk.slots.take jj ++ ((dk.slots[jj].withTy (ofT (idK (1 + around (tu.tdiv 16) 5)))) :: dk.slots.drop (jj + 1)) := ⟨_, rfl⟩
  have hsl : sN.length = nn := by rw [hsN]; simp; omega
  have hslr : RdL M82 (sN.flatMap SlotT.enc) (n100.take (jj * 11 + 4) ++ ([vint 3, vint (idK (1 + around (tu.tdiv 16) 5)).shop, vint (idK (1 + around (tu.tdiv 16) 5)).seq, vint (idK (1 + around (tu.tdiv 16) 5)).index, .slice none 0 0] ++ n100.drop (jj * 11 + 4 + 5))) := by
    rw [hsN, ← slot_mid hjl]
    have h1 := hn100.put (ty_rd (idK (1 + around (tu.tdiv 16) 5))) (jj * 11 + 4) (by simp; omega)
    rw [Ty.enc_len] at h1
    exact h1
  refine CW.sealAcc (u := .slice a100 nn c100) PK hslr (by unfold lim; omega) fun Ms a3 c3 hss e3 hc3 hr3 => ?_
  injection e3 with e3a _ e3c
  subst e3a e3c
  obtain ⟨p2, hp2⟩ : ∃ p2, p2 = ProgT.mk (typesP l).mods ((typesP l).defs.take kk ++ (((typesP l).defs[kk].withSlots sN) :: (typesP l).defs.drop (kk + 1))) := ⟨_, rfl⟩
  have hdl2 : p2.defs.length = tMany l := by rw [hp2]; simp; omega
  have hk2 : kk < p2.defs.length := by omega
  have hdr : RdL Ms (p2.defs.flatMap DefT.enc) us2 := by
    rw [hp2, hus2, set_put OM]
    have h1 := RdL.put (ds := (typesP l).defs.flatMap DefT.enc) (hds28.mono (hsr.trans (hs72.trans (hs76.trans (hs82.trans hss))))) (RdL.cons (hsl.symm ▸ hr3) (RdL.nil _)) (kk * 31 + 8) (by simp; omega)
    rw [← def_mid hkl sN]
    rw [← hsl]
    simpa using h1
  refine CW.sealAcc (u := .slice ua (tMany l) ca) PK hdr (by unfold lim; omega) fun Mt a4 c4 hst e4 hc4 hr4 => ?_
  injection e4 with e4a _ e4c
  subst e4a e4c
  have hP2 : RdL Mt p2.enc [.slice am 1 cm, .slice ua (tMany l) ca] := by rw [ProgT.enc_eq]; exact RdL.cons (by rw [show p2.mods = (typesP l).mods by rw [hp2]]; simpa [typesP] using Rd.mono (hsr.trans (hs72.trans (hs76.trans (hs82.trans (hss.trans hst))))) _ _ hvm) (RdL.cons (by rw [hdl2]; exact hr4) (RdL.nil _))
  refine CW.addRds hP2 ?_
  refine CW.seq fun K18 hK18 => ?_
  refine CW.regionH mix _ _ (fun _ hw => hw) ?_
  refine HL.take 0 rfl KR KR KR rfl (Y.loadAllR rfl MM MM EL agg26) rfl ?_
  refine HL.take 1 rfl KR KR KR rfl (Y.field rfl field26_1) rfl ?_
  refine HL.take 2 rfl KR KR KR rfl (Y.loadOwn rfl MM (by rfl) flat24) rfl ?_
  refine HL.take 3 rfl KR KR KR rfl (Y.move rfl) rfl ?_
  refine HL.take 4 rfl KR KR KR rfl (Y.index kk rfl rfl hkk OM slice24 (fun _ hw => hw.rd_some MM OM)) rfl ?_
  refine HL.take 5 rfl KR KR KR rfl (Y.field rfl field46_0) rfl ?_
  refine HL.take 6 rfl KR KR KR rfl (Y.loadAggRd [_, _, _] rfl MM (Eq.trans (flat_sub DefT.enc_len _ _ _ (List.getElem?_eq_getElem AO) _ _ (Nat.le_of_ble_eq_true rfl)) (by rw [DefT.enc_eq] <;> rfl)) agg28) rfl ?_
  refine HL.step2 7 12 rfl rfl KR ?_ ?_
  ·refine RL.callv rfl func13 rfl rfl (by exact of_ok _ _ _ (p2.defs[kk]'hk2).id) ?_
   refine RL.nil ⟨keep_same SB, ?_⟩
   refine HL.step2 8 12 rfl rfl KR ?_ ?_
   ·refine RL.call rfl func33 rfl rfl (by exact zero_ok _ _ _ p2 _ (ofT (p2.defs[kk]'hk2).id) _ (by exact Kn.rds MM) (Kn.of (ty_rd _))) ?_
    rintro v136 M136 _ ⟨hs136, rfl, us136, rfl, hr136⟩
    refine RL.addRds hr136 ?_
    have hul136 : us136.length = 3 := hr136.1.trans (Val.enc_len _)
    refine RL.nil ⟨keep_more (hs136) SB, ?_⟩
    refine HL.take 9 rfl KR KR KR rfl (Y.move rfl) rfl ?_
    refine HL.take 10 rfl KR KR KR rfl (Y.extract rfl rfl) rfl ?_
    refine HL.take 11 rfl KR KR KR rfl (Y.extract rfl rfl) rfl ?_
    refine HL.step 12 rfl KR ?_
    refine RL.alloc _ zero53 rfl rfl fun b23 => ?_
    refine RL.nil ⟨keep_more (hs136) SB, ?_⟩
    refine HL.step 13 rfl KR ?_
    refine RL.storeRds 3 rfl rfl RP MM EL (by first | exact Kn.lenRds MM EL | exact Kn.lenLit rfl) size53 ?_
    refine RL.nil ⟨keep_more (hs136) SB, ?_⟩
    refine HL.take 14 rfl KR KR KR rfl (Y.assign rfl) rfl ?_
    refine HL.done KR ?_
    refine hK18 _ _ _ ?_
    refine CW.kp [11, 17, 18, 19, 20, 21, 23, 24] rfl ?_
    refine CW.seq fun K19 hK19 => ?_
    refine CW.regionH mix _ _ (fun _ hw => hw) ?_
    refine HL.take 0 rfl KR KR KR rfl (Y.loadAllR rfl MM MM EL agg26) rfl ?_
    refine HL.take 1 rfl KR KR KR rfl (Y.field rfl field26_1) rfl ?_
    refine HL.take 2 rfl KR KR KR rfl (Y.loadOwn rfl MM (by rfl) flat24) rfl ?_
    refine HL.take 3 rfl KR KR KR rfl (Y.move rfl) rfl ?_
    refine HL.take 4 rfl KR KR KR rfl (Y.index kk rfl rfl hkk OM slice24 (fun _ hw => hw.rd_some MM OM)) rfl ?_
    refine HL.take 5 rfl KR KR KR rfl (Y.field rfl field46_0) rfl ?_
    refine HL.take 6 rfl KR KR KR rfl (Y.loadAggRd [_, _, _] rfl MM (Eq.trans (flat_sub DefT.enc_len _ _ _ (List.getElem?_eq_getElem AO) _ _ (Nat.le_of_ble_eq_true rfl)) (by rw [DefT.enc_eq] <;> rfl)) agg28) rfl ?_
    refine HL.step2 7 12 rfl rfl KR ?_ ?_
    ·refine RL.callv rfl func13 rfl rfl (by exact of_ok _ _ _ (p2.defs[kk]'hk2).id) ?_
     refine RL.nil ⟨keep_same SB, ?_⟩
     refine HL.step2 8 12 rfl rfl KR ?_ ?_
     ·refine RL.call rfl func34 rfl rfl (by exact rzero_ok _ _ _ p2 _ (ofT (p2.defs[kk]'hk2).id) _ (by exact Kn.rds MM) (Kn.of (ty_rd _))) ?_
      rintro v148 M148 _ ⟨hs148, rfl, us148, rfl, hr148⟩
      refine RL.addRds hr148 ?_
      have hul148 : us148.length = 3 := hr148.1.trans (Val.enc_len _)
      refine RL.nil ⟨keep_more (hs148) SB, ?_⟩
      refine HL.take 9 rfl KR KR KR rfl (Y.move rfl) rfl ?_
      refine HL.take 10 rfl KR KR KR rfl (Y.extract rfl rfl) rfl ?_
      refine HL.take 11 rfl KR KR KR rfl (Y.extract rfl rfl) rfl ?_
      refine HL.step 12 rfl KR ?_
      refine RL.alloc _ zero53 rfl rfl fun b25 => ?_
      refine RL.nil ⟨keep_more (hs148) SB, ?_⟩
      refine HL.step 13 rfl KR ?_
      refine RL.storeRds 3 rfl rfl RP MM EL (by first | exact Kn.lenRds MM EL | exact Kn.lenLit rfl) size53 ?_
      refine RL.nil ⟨keep_more (hs148) SB, ?_⟩
      refine HL.take 14 rfl KR KR KR rfl (Y.assign rfl) rfl ?_
      refine HL.done KR ?_
      refine hK19 _ _ _ ?_
      refine CW.kp [17, 18, 19, 20, 23, 24, 25, 26] rfl ?_
      refine CW.seq fun K20 hK20 => ?_
      refine CW.region ?_
      refine RL.q (Y.move rfl) rfl ?_
      refine RL.q (Y.move rfl) rfl ?_
      refine RL.q (Y.litB true (Y.eql rfl rfl) (congrArg Value.bool (decide_eq_true rfl))) rfl ?_
      refine RL.q (Y.move rfl) rfl ?_
      refine RL.qg WG (Y.loadAllR rfl MM MM EL agg53) rfl ?_
      refine RL.qg WG (Y.loadAllR rfl MM MM EL agg53) rfl ?_
      refine RL.callv WG func35 rfl rfl (by exact CallOk.val (same_ok _ _ _ (zeroV (fewP p) t).1 _ (if (zeroV (fewP p) t).2.1 ≠ 0 then v0 else (zeroV (fewP p) t).1) _ KK KK) (v' := .bool true) (congrArg Value.bool (decide_eq_true (same_zero _ _)))) ?_
      refine RL.q (Y.pickT rfl rfl) rfl ?_
      refine RL.q (Y.move rfl) rfl ?_
      refine RL.qg WG (Y.move rfl) rfl ?_
      refine RL.qg WG (Y.move rfl) rfl ?_
      refine RL.qg WG (Y.litB true (Y.eql rfl rfl) (congrArg Value.bool (decide_eq_true rfl))) rfl ?_
      refine RL.q (Y.pickT rfl rfl) rfl ?_
      refine RL.q (Y.move rfl) rfl ?_
      refine RL.qg WG (Y.loadAllR rfl MM MM EL agg53) rfl ?_
      refine RL.qg WG (Y.loadAllR rfl MM MM EL agg53) rfl ?_
      refine RL.callv WG func35 rfl rfl (by exact CallOk.val (same_ok _ _ _ (zeroV p2 (ofT (p2.defs[kk]'hk2).id)).1 _ (if (zeroV p2 (ofT (p2.defs[kk]'hk2).id)).2.1 ≠ 0 then v0 else (zeroV p2 (ofT (p2.defs[kk]'hk2).id)).1) _ KK KK) (v' := .bool true) (congrArg Value.bool (decide_eq_true (same_zero _ _)))) ?_
      refine RL.q (Y.pickT rfl rfl) rfl ?_
      refine RL.q (Y.move rfl) rfl ?_
      refine RL.callv WG func21 rfl rfl (by exact lives_ok _ _ _) ?_
      refine RL.q (Y.pickT rfl rfl) rfl ?_
      refine RL.q (Y.assign rfl) rfl ?_
      refine RL.nil ?_
      refine hK20 _ _ _ ?_
      refine CW.kp [10] rfl ?_
      refine CW.ret ?_
      exact ⟨_, rfl, Turn.back hw1 (hs28.trans (hsr.trans (hs72.trans (hs76.trans (hs82.trans (hss.trans (hst.trans (hs136.trans hs148)))))))) ⟨rfl, rfl, rfl⟩ SB⟩
     refine RL.alloc _ zero53 rfl rfl fun b25 => ?_
     refine RL.nil ⟨keep_same SB, ?_⟩
     refine HL.step 8 rfl KR ?_
     refine RL.call rfl func34 rfl rfl (by exact rzero_ok _ _ _ p2 _ (ofT (p2.defs[kk]'hk2).id) _ (by exact Kn.rds MM) (Kn.of (ty_rd _))) ?_
     rintro v148 M148 _ ⟨hs148, rfl, us148, rfl, hr148⟩
     refine RL.addRds hr148 ?_
     have hul148 : us148.length = 3 := hr148.1.trans (Val.enc_len _)
     refine RL.nil ⟨keep_more (hs148) SB, ?_⟩
     refine HL.take 9 rfl KR KR KR rfl (Y.move rfl) rfl ?_
     refine HL.take 10 rfl KR KR KR rfl (Y.extract rfl rfl) rfl ?_
     refine HL.take 11 rfl KR KR KR rfl (Y.extract rfl rfl) rfl ?_
     refine HL.step 13 rfl KR ?_
     refine RL.storeRds 3 rfl rfl RP MM EL (by first | exact Kn.lenRds MM EL | exact Kn.lenLit rfl) size53 ?_
     refine RL.nil ⟨keep_more (hs148) SB, ?_⟩
     refine HL.take 14 rfl KR KR KR rfl (Y.assign rfl) rfl ?_
     refine HL.done KR ?_
     refine hK19 _ _ _ ?_
     refine CW.kp [17, 18, 19, 20, 23, 24, 25, 26] rfl ?_
     refine CW.seq fun K21 hK21 => ?_
     refine CW.region ?_
     refine RL.q (Y.move rfl) rfl ?_
     refine RL.q (Y.move rfl) rfl ?_
     refine RL.q (Y.litB true (Y.eql rfl rfl) (congrArg Value.bool (decide_eq_true rfl))) rfl ?_
     refine RL.q (Y.move rfl) rfl ?_
     refine RL.qg WG (Y.loadAllR rfl MM MM EL agg53) rfl ?_
     refine RL.qg WG (Y.loadAllR rfl MM MM EL agg53) rfl ?_
     refine RL.callv WG func35 rfl rfl (by exact CallOk.val (same_ok _ _ _ (zeroV (fewP p) t).1 _ (if (zeroV (fewP p) t).2.1 ≠ 0 then v0 else (zeroV (fewP p) t).1) _ KK KK) (v' := .bool true) (congrArg Value.bool (decide_eq_true (same_zero _ _)))) ?_
     refine RL.q (Y.pickT rfl rfl) rfl ?_
     refine RL.q (Y.move rfl) rfl ?_
     refine RL.qg WG (Y.move rfl) rfl ?_
     refine RL.qg WG (Y.move rfl) rfl ?_
     refine RL.qg WG (Y.litB true (Y.eql rfl rfl) (congrArg Value.bool (decide_eq_true rfl))) rfl ?_
     refine RL.q (Y.pickT rfl rfl) rfl ?_
     refine RL.q (Y.move rfl) rfl ?_
     refine RL.qg WG (Y.loadAllR rfl MM MM EL agg53) rfl ?_
     refine RL.qg WG (Y.loadAllR rfl MM MM EL agg53) rfl ?_
     refine RL.callv WG func35 rfl rfl (by exact CallOk.val (same_ok _ _ _ (zeroV p2 (ofT (p2.defs[kk]'hk2).id)).1 _ (if (zeroV p2 (ofT (p2.defs[kk]'hk2).id)).2.1 ≠ 0 then v0 else (zeroV p2 (ofT (p2.defs[kk]'hk2).id)).1) _ KK KK) (v' := .bool true) (congrArg Value.bool (decide_eq_true (same_zero _ _)))) ?_
     refine RL.q (Y.pickT rfl rfl) rfl ?_
     refine RL.q (Y.move rfl) rfl ?_
     refine RL.callv WG func21 rfl rfl (by exact lives_ok _ _ _) ?_
     refine RL.q (Y.pickT rfl rfl) rfl ?_
     refine RL.q (Y.assign rfl) rfl ?_
     refine RL.nil ?_
     refine hK21 _ _ _ ?_
     refine CW.kp [10] rfl ?_
     refine CW.ret ?_
     exact ⟨_, rfl, Turn.back hw1 (hs28.trans (hsr.trans (hs72.trans (hs76.trans (hs82.trans (hss.trans (hst.trans (hs136.trans hs148)))))))) ⟨rfl, rfl, rfl⟩ SB⟩
    refine RL.alloc _ zero53 rfl rfl fun b25 => ?_
    refine RL.nil ⟨keep_same SB, ?_⟩
    refine HL.step 7 rfl KR ?_
    refine RL.callv rfl func13 rfl rfl (by exact of_ok _ _ _ (p2.defs[kk]'hk2).id) ?_
    refine RL.nil ⟨keep_same SB, ?_⟩
    refine HL.step 8 rfl KR ?_
    refine RL.call rfl func34 rfl rfl (by exact rzero_ok _ _ _ p2 _ (ofT (p2.defs[kk]'hk2).id) _ (by exact Kn.rds MM) (Kn.of (ty_rd _))) ?_
    rintro v148 M148 _ ⟨hs148, rfl, us148, rfl, hr148⟩
    refine RL.addRds hr148 ?_
    have hul148 : us148.length = 3 := hr148.1.trans (Val.enc_len _)
    refine RL.nil ⟨keep_more (hs148) SB, ?_⟩
    refine HL.take 9 rfl KR KR KR rfl (Y.move rfl) rfl ?_
    refine HL.take 10 rfl KR KR KR rfl (Y.extract rfl rfl) rfl ?_
    refine HL.take 11 rfl KR KR KR rfl (Y.extract rfl rfl) rfl ?_
    refine HL.step 13 rfl KR ?_
    refine RL.storeRds 3 rfl rfl RP MM EL (by first | exact Kn.lenRds MM EL | exact Kn.lenLit rfl) size53 ?_
    refine RL.nil ⟨keep_more (hs148) SB, ?_⟩
    refine HL.take 14 rfl KR KR KR rfl (Y.assign rfl) rfl ?_
    refine HL.done KR ?_
    refine hK19 _ _ _ ?_
    refine CW.kp [17, 18, 19, 20, 23, 24, 25, 26] rfl ?_
    refine CW.seq fun K22 hK22 => ?_
    refine CW.region ?_
    refine RL.q (Y.move rfl) rfl ?_
    refine RL.q (Y.move rfl) rfl ?_
    refine RL.q (Y.litB true (Y.eql rfl rfl) (congrArg Value.bool (decide_eq_true rfl))) rfl ?_
    refine RL.q (Y.move rfl) rfl ?_
    refine RL.qg WG (Y.loadAllR rfl MM MM EL agg53) rfl ?_
    refine RL.qg WG (Y.loadAllR rfl MM MM EL agg53) rfl ?_
    refine RL.callv WG func35 rfl rfl (by exact CallOk.val (same_ok _ _ _ (zeroV (fewP p) t).1 _ (if (zeroV (fewP p) t).2.1 ≠ 0 then v0 else (zeroV (fewP p) t).1) _ KK KK) (v' := .bool true) (congrArg Value.bool (decide_eq_true (same_zero _ _)))) ?_
    refine RL.q (Y.pickT rfl rfl) rfl ?_
    refine RL.q (Y.move rfl) rfl ?_
    refine RL.qg WG (Y.move rfl) rfl ?_
    refine RL.qg WG (Y.move rfl) rfl ?_
    refine RL.qg WG (Y.litB true (Y.eql rfl rfl) (congrArg Value.bool (decide_eq_true rfl))) rfl ?_
    refine RL.q (Y.pickT rfl rfl) rfl ?_
    refine RL.q (Y.move rfl) rfl ?_
    refine RL.qg WG (Y.loadAllR rfl MM MM EL agg53) rfl ?_
    refine RL.qg WG (Y.loadAllR rfl MM MM EL agg53) rfl ?_
    refine RL.callv WG func35 rfl rfl (by exact CallOk.val (same_ok _ _ _ (zeroV p2 (ofT (p2.defs[kk]'hk2).id)).1 _ (if (zeroV p2 (ofT (p2.defs[kk]'hk2).id)).2.1 ≠ 0 then v0 else (zeroV p2 (ofT (p2.defs[kk]'hk2).id)).1) _ KK KK) (v' := .bool true) (congrArg Value.bool (decide_eq_true (same_zero _ _)))) ?_
    refine RL.q (Y.pickT rfl rfl) rfl ?_
    refine RL.q (Y.move rfl) rfl ?_
    refine RL.callv WG func21 rfl rfl (by exact lives_ok _ _ _) ?_
    refine RL.q (Y.pickT rfl rfl) rfl ?_
    refine RL.q (Y.assign rfl) rfl ?_
    refine RL.nil ?_
    refine hK22 _ _ _ ?_
    refine CW.kp [10] rfl ?_
    refine CW.ret ?_
    exact ⟨_, rfl, Turn.back hw1 (hs28.trans (hsr.trans (hs72.trans (hs76.trans (hs82.trans (hss.trans (hst.trans (hs136.trans hs148)))))))) ⟨rfl, rfl, rfl⟩ SB⟩
   refine RL.alloc _ zero53 rfl rfl fun b23 => ?_
   refine RL.nil ⟨keep_same SB, ?_⟩
   refine HL.step 8 rfl KR ?_
   refine RL.call rfl func33 rfl rfl (by exact zero_ok _ _ _ p2 _ (ofT (p2.defs[kk]'hk2).id) _ (by exact Kn.rds MM) (Kn.of (ty_rd _))) ?_
   rintro v136 M136 _ ⟨hs136, rfl, us136, rfl, hr136⟩
   refine RL.addRds hr136 ?_
   have hul136 : us136.length = 3 := hr136.1.trans (Val.enc_len _)
   refine RL.nil ⟨keep_more (hs136) SB, ?_⟩
   refine HL.take 9 rfl KR KR KR rfl (Y.move rfl) rfl ?_
   refine HL.take 10 rfl KR KR KR rfl (Y.extract rfl rfl) rfl ?_
   refine HL.take 11 rfl KR KR KR rfl (Y.extract rfl rfl) rfl ?_
   refine HL.step 13 rfl KR ?_
   refine RL.storeRds 3 rfl rfl RP MM EL (by first | exact Kn.lenRds MM EL | exact Kn.lenLit rfl) size53 ?_
   refine RL.nil ⟨keep_more (hs136) SB, ?_⟩
   refine HL.take 14 rfl KR KR KR rfl (Y.assign rfl) rfl ?_
   refine HL.done KR ?_
   refine hK18 _ _ _ ?_
   refine CW.kp [11, 17, 18, 19, 20, 21, 23, 24] rfl ?_
   refine CW.seq fun K23 hK23 => ?_
   refine CW.regionH mix _ _ (fun _ hw => hw) ?_
   refine HL.take 0 rfl KR KR KR rfl (Y.loadAllR rfl MM MM EL agg26) rfl ?_
   refine HL.take 1 rfl KR KR KR rfl (Y.field rfl field26_1) rfl ?_
   refine HL.take 2 rfl KR KR KR rfl (Y.loadOwn rfl MM (by rfl) flat24) rfl ?_
   refine HL.take 3 rfl KR KR KR rfl (Y.move rfl) rfl ?_
   refine HL.take 4 rfl KR KR KR rfl (Y.index kk rfl rfl hkk OM slice24 (fun _ hw => hw.rd_some MM OM)) rfl ?_
   refine HL.take 5 rfl KR KR KR rfl (Y.field rfl field46_0) rfl ?_
   refine HL.take 6 rfl KR KR KR rfl (Y.loadAggRd [_, _, _] rfl MM (Eq.trans (flat_sub DefT.enc_len _ _ _ (List.getElem?_eq_getElem AO) _ _ (Nat.le_of_ble_eq_true rfl)) (by rw [DefT.enc_eq] <;> rfl)) agg28) rfl ?_
   refine HL.step2 7 12 rfl rfl KR ?_ ?_
   ·refine RL.callv rfl func13 rfl rfl (by exact of_ok _ _ _ (p2.defs[kk]'hk2).id) ?_
    refine RL.nil ⟨keep_same SB, ?_⟩
    refine HL.step2 8 12 rfl rfl KR ?_ ?_
    ·refine RL.call rfl func34 rfl rfl (by exact rzero_ok _ _ _ p2 _ (ofT (p2.defs[kk]'hk2).id) _ (by exact Kn.rds MM) (Kn.of (ty_rd _))) ?_
     rintro v148 M148 _ ⟨hs148, rfl, us148, rfl, hr148⟩
     refine RL.addRds hr148 ?_
     have hul148 : us148.length = 3 := hr148.1.trans (Val.enc_len _)
     refine RL.nil ⟨keep_more (hs148) SB, ?_⟩
     refine HL.take 9 rfl KR KR KR rfl (Y.move rfl) rfl ?_
     refine HL.take 10 rfl KR KR KR rfl (Y.extract rfl rfl) rfl ?_
     refine HL.take 11 rfl KR KR KR rfl (Y.extract rfl rfl) rfl ?_
     refine HL.step 12 rfl KR ?_
     refine RL.alloc _ zero53 rfl rfl fun b25 => ?_
     refine RL.nil ⟨keep_more (hs148) SB, ?_⟩
     refine HL.step 13 rfl KR ?_
     refine RL.storeRds 3 rfl rfl RP MM EL (by first | exact Kn.lenRds MM EL | exact Kn.lenLit rfl) size53 ?_
     refine RL.nil ⟨keep_more (hs148) SB, ?_⟩
     refine HL.take 14 rfl KR KR KR rfl (Y.assign rfl) rfl ?_
     refine HL.done KR ?_
     refine hK23 _ _ _ ?_
     refine CW.kp [17, 18, 19, 20, 23, 24, 25, 26] rfl ?_
     refine CW.seq fun K24 hK24 => ?_
     refine CW.region ?_
     refine RL.q (Y.move rfl) rfl ?_
     refine RL.q (Y.move rfl) rfl ?_
     refine RL.q (Y.litB true (Y.eql rfl rfl) (congrArg Value.bool (decide_eq_true rfl))) rfl ?_
     refine RL.q (Y.move rfl) rfl ?_
     refine RL.qg WG (Y.loadAllR rfl MM MM EL agg53) rfl ?_
     refine RL.qg WG (Y.loadAllR rfl MM MM EL agg53) rfl ?_
     refine RL.callv WG func35 rfl rfl (by exact CallOk.val (same_ok _ _ _ (zeroV (fewP p) t).1 _ (if (zeroV (fewP p) t).2.1 ≠ 0 then v0 else (zeroV (fewP p) t).1) _ KK KK) (v' := .bool true) (congrArg Value.bool (decide_eq_true (same_zero _ _)))) ?_
     refine RL.q (Y.pickT rfl rfl) rfl ?_
     refine RL.q (Y.move rfl) rfl ?_
     refine RL.qg WG (Y.move rfl) rfl ?_
     refine RL.qg WG (Y.move rfl) rfl ?_
     refine RL.qg WG (Y.litB true (Y.eql rfl rfl) (congrArg Value.bool (decide_eq_true rfl))) rfl ?_
     refine RL.q (Y.pickT rfl rfl) rfl ?_
     refine RL.q (Y.move rfl) rfl ?_
     refine RL.qg WG (Y.loadAllR rfl MM MM EL agg53) rfl ?_
     refine RL.qg WG (Y.loadAllR rfl MM MM EL agg53) rfl ?_
     refine RL.callv WG func35 rfl rfl (by exact CallOk.val (same_ok _ _ _ (zeroV p2 (ofT (p2.defs[kk]'hk2).id)).1 _ (if (zeroV p2 (ofT (p2.defs[kk]'hk2).id)).2.1 ≠ 0 then v0 else (zeroV p2 (ofT (p2.defs[kk]'hk2).id)).1) _ KK KK) (v' := .bool true) (congrArg Value.bool (decide_eq_true (same_zero _ _)))) ?_
     refine RL.q (Y.pickT rfl rfl) rfl ?_
     refine RL.q (Y.move rfl) rfl ?_
     refine RL.callv WG func21 rfl rfl (by exact lives_ok _ _ _) ?_
     refine RL.q (Y.pickT rfl rfl) rfl ?_
     refine RL.q (Y.assign rfl) rfl ?_
     refine RL.nil ?_
     refine hK24 _ _ _ ?_
     refine CW.kp [10] rfl ?_
     refine CW.ret ?_
     exact ⟨_, rfl, Turn.back hw1 (hs28.trans (hsr.trans (hs72.trans (hs76.trans (hs82.trans (hss.trans (hst.trans (hs136.trans hs148)))))))) ⟨rfl, rfl, rfl⟩ SB⟩
    refine RL.alloc _ zero53 rfl rfl fun b25 => ?_
    refine RL.nil ⟨keep_same SB, ?_⟩
    refine HL.step 8 rfl KR ?_
    refine RL.call rfl func34 rfl rfl (by exact rzero_ok _ _ _ p2 _ (ofT (p2.defs[kk]'hk2).id) _ (by exact Kn.rds MM) (Kn.of (ty_rd _))) ?_
    rintro v148 M148 _ ⟨hs148, rfl, us148, rfl, hr148⟩
    refine RL.addRds hr148 ?_
    have hul148 : us148.length = 3 := hr148.1.trans (Val.enc_len _)
    refine RL.nil ⟨keep_more (hs148) SB, ?_⟩
    refine HL.take 9 rfl KR KR KR rfl (Y.move rfl) rfl ?_
    refine HL.take 10 rfl KR KR KR rfl (Y.extract rfl rfl) rfl ?_
    refine HL.take 11 rfl KR KR KR rfl (Y.extract rfl rfl) rfl ?_
    refine HL.step 13 rfl KR ?_
    refine RL.storeRds 3 rfl rfl RP MM EL (by first | exact Kn.lenRds MM EL | exact Kn.lenLit rfl) size53 ?_
    refine RL.nil ⟨keep_more (hs148) SB, ?_⟩
    refine HL.take 14 rfl KR KR KR rfl (Y.assign rfl) rfl ?_
    refine HL.done KR ?_
    refine hK23 _ _ _ ?_
    refine CW.kp [17, 18, 19, 20, 23, 24, 25, 26] rfl ?_
    refine CW.seq fun K25 hK25 => ?_
    refine CW.region ?_
    refine RL.q (Y.move rfl) rfl ?_
    refine RL.q (Y.move rfl) rfl ?_
    refine RL.q (Y.litB true (Y.eql rfl rfl) (congrArg Value.bool (decide_eq_true rfl))) rfl ?_
    refine RL.q (Y.move rfl) rfl ?_
    refine RL.qg WG (Y.loadAllR rfl MM MM EL agg53) rfl ?_
    refine RL.qg WG (Y.loadAllR rfl MM MM EL agg53) rfl ?_
    refine RL.callv WG func35 rfl rfl (by exact CallOk.val (same_ok _ _ _ (zeroV (fewP p) t).1 _ (if (zeroV (fewP p) t).2.1 ≠ 0 then v0 else (zeroV (fewP p) t).1) _ KK KK) (v' := .bool true) (congrArg Value.bool (decide_eq_true (same_zero _ _)))) ?_
    refine RL.q (Y.pickT rfl rfl) rfl ?_
    refine RL.q (Y.move rfl) rfl ?_
    refine RL.qg WG (Y.move rfl) rfl ?_
    refine RL.qg WG (Y.move rfl) rfl ?_
    refine RL.qg WG (Y.litB true (Y.eql rfl rfl) (congrArg Value.bool (decide_eq_true rfl))) rfl ?_
    refine RL.q (Y.pickT rfl rfl) rfl ?_
    refine RL.q (Y.move rfl) rfl ?_
    refine RL.qg WG (Y.loadAllR rfl MM MM EL agg53) rfl ?_
    refine RL.qg WG (Y.loadAllR rfl MM MM EL agg53) rfl ?_
    refine RL.callv WG func35 rfl rfl (by exact CallOk.val (same_ok _ _ _ (zeroV p2 (ofT (p2.defs[kk]'hk2).id)).1 _ (if (zeroV p2 (ofT (p2.defs[kk]'hk2).id)).2.1 ≠ 0 then v0 else (zeroV p2 (ofT (p2.defs[kk]'hk2).id)).1) _ KK KK) (v' := .bool true) (congrArg Value.bool (decide_eq_true (same_zero _ _)))) ?_
    refine RL.q (Y.pickT rfl rfl) rfl ?_
    refine RL.q (Y.move rfl) rfl ?_
    refine RL.callv WG func21 rfl rfl (by exact lives_ok _ _ _) ?_
    refine RL.q (Y.pickT rfl rfl) rfl ?_
    refine RL.q (Y.assign rfl) rfl ?_
    refine RL.nil ?_
    refine hK25 _ _ _ ?_
    refine CW.kp [10] rfl ?_
    refine CW.ret ?_
    exact ⟨_, rfl, Turn.back hw1 (hs28.trans (hsr.trans (hs72.trans (hs76.trans (hs82.trans (hss.trans (hst.trans (hs136.trans hs148)))))))) ⟨rfl, rfl, rfl⟩ SB⟩
   refine RL.alloc _ zero53 rfl rfl fun b25 => ?_
   refine RL.nil ⟨keep_same SB, ?_⟩
   refine HL.step 7 rfl KR ?_
   refine RL.callv rfl func13 rfl rfl (by exact of_ok _ _ _ (p2.defs[kk]'hk2).id) ?_
   refine RL.nil ⟨keep_same SB, ?_⟩
   refine HL.step 8 rfl KR ?_
   refine RL.call rfl func34 rfl rfl (by exact rzero_ok _ _ _ p2 _ (ofT (p2.defs[kk]'hk2).id) _ (by exact Kn.rds MM) (Kn.of (ty_rd _))) ?_
   rintro v148 M148 _ ⟨hs148, rfl, us148, rfl, hr148⟩
   refine RL.addRds hr148 ?_
   have hul148 : us148.length = 3 := hr148.1.trans (Val.enc_len _)
   refine RL.nil ⟨keep_more (hs148) SB, ?_⟩
   refine HL.take 9 rfl KR KR KR rfl (Y.move rfl) rfl ?_
   refine HL.take 10 rfl KR KR KR rfl (Y.extract rfl rfl) rfl ?_
   refine HL.take 11 rfl KR KR KR rfl (Y.extract rfl rfl) rfl ?_
   refine HL.step 13 rfl KR ?_
   refine RL.storeRds 3 rfl rfl RP MM EL (by first | exact Kn.lenRds MM EL | exact Kn.lenLit rfl) size53 ?_
   refine RL.nil ⟨keep_more (hs148) SB, ?_⟩
   refine HL.take 14 rfl KR KR KR rfl (Y.assign rfl) rfl ?_
   refine HL.done KR ?_
   refine hK23 _ _ _ ?_
   refine CW.kp [17, 18, 19, 20, 23, 24, 25, 26] rfl ?_
   refine CW.seq fun K26 hK26 => ?_
   refine CW.region ?_
   refine RL.q (Y.move rfl) rfl ?_
   refine RL.q (Y.move rfl) rfl ?_
   refine RL.q (Y.litB true (Y.eql rfl rfl) (congrArg Value.bool (decide_eq_true rfl))) rfl ?_
   refine RL.q (Y.move rfl) rfl ?_
   refine RL.qg WG (Y.loadAllR rfl MM MM EL agg53) rfl ?_
   refine RL.qg WG (Y.loadAllR rfl MM MM EL agg53) rfl ?_
   refine RL.callv WG func35 rfl rfl (by exact CallOk.val (same_ok _ _ _ (zeroV (fewP p) t).1 _ (if (zeroV (fewP p) t).2.1 ≠ 0 then v0 else (zeroV (fewP p) t).1) _ KK KK) (v' := .bool true) (congrArg Value.bool (decide_eq_true (same_zero _ _)))) ?_
   refine RL.q (Y.pickT rfl rfl) rfl ?_
   refine RL.q (Y.move rfl) rfl ?_
   refine RL.qg WG (Y.move rfl) rfl ?_
   refine RL.qg WG (Y.move rfl) rfl ?_
   refine RL.qg WG (Y.litB true (Y.eql rfl rfl) (congrArg Value.bool (decide_eq_true rfl))) rfl ?_
   refine RL.q (Y.pickT rfl rfl) rfl ?_
   refine RL.q (Y.move rfl) rfl ?_
   refine RL.qg WG (Y.loadAllR rfl MM MM EL agg53) rfl ?_
   refine RL.qg WG (Y.loadAllR rfl MM MM EL agg53) rfl ?_
   refine RL.callv WG func35 rfl rfl (by exact CallOk.val (same_ok _ _ _ (zeroV p2 (ofT (p2.defs[kk]'hk2).id)).1 _ (if (zeroV p2 (ofT (p2.defs[kk]'hk2).id)).2.1 ≠ 0 then v0 else (zeroV p2 (ofT (p2.defs[kk]'hk2).id)).1) _ KK KK) (v' := .bool true) (congrArg Value.bool (decide_eq_true (same_zero _ _)))) ?_
   refine RL.q (Y.pickT rfl rfl) rfl ?_
   refine RL.q (Y.move rfl) rfl ?_
   refine RL.callv WG func21 rfl rfl (by exact lives_ok _ _ _) ?_
   refine RL.q (Y.pickT rfl rfl) rfl ?_
   refine RL.q (Y.assign rfl) rfl ?_
   refine RL.nil ?_
   refine hK26 _ _ _ ?_
   refine CW.kp [10] rfl ?_
   refine CW.ret ?_
   exact ⟨_, rfl, Turn.back hw1 (hs28.trans (hsr.trans (hs72.trans (hs76.trans (hs82.trans (hss.trans (hst.trans (hs136.trans hs148)))))))) ⟨rfl, rfl, rfl⟩ SB⟩
  refine RL.alloc _ zero53 rfl rfl fun b23 => ?_
  refine RL.nil ⟨keep_same SB, ?_⟩
  refine HL.step 7 rfl KR ?_
  refine RL.callv rfl func13 rfl rfl (by exact of_ok _ _ _ (p2.defs[kk]'hk2).id) ?_
  refine RL.nil ⟨keep_same SB, ?_⟩
  refine HL.step 8 rfl KR ?_
  refine RL.call rfl func33 rfl rfl (by exact zero_ok _ _ _ p2 _ (ofT (p2.defs[kk]'hk2).id) _ (by exact Kn.rds MM) (Kn.of (ty_rd _))) ?_
  rintro v136 M136 _ ⟨hs136, rfl, us136, rfl, hr136⟩
  refine RL.addRds hr136 ?_
  have hul136 : us136.length = 3 := hr136.1.trans (Val.enc_len _)
  refine RL.nil ⟨keep_more (hs136) SB, ?_⟩
  refine HL.take 9 rfl KR KR KR rfl (Y.move rfl) rfl ?_
  refine HL.take 10 rfl KR KR KR rfl (Y.extract rfl rfl) rfl ?_
  refine HL.take 11 rfl KR KR KR rfl (Y.extract rfl rfl) rfl ?_
  refine HL.step 13 rfl KR ?_
  refine RL.storeRds 3 rfl rfl RP MM EL (by first | exact Kn.lenRds MM EL | exact Kn.lenLit rfl) size53 ?_
  refine RL.nil ⟨keep_more (hs136) SB, ?_⟩
  refine HL.take 14 rfl KR KR KR rfl (Y.assign rfl) rfl ?_
  refine HL.done KR ?_
  refine hK18 _ _ _ ?_
  refine CW.kp [11, 17, 18, 19, 20, 21, 23, 24] rfl ?_
  refine CW.seq fun K27 hK27 => ?_
  refine CW.regionH mix _ _ (fun _ hw => hw) ?_
  refine HL.take 0 rfl KR KR KR rfl (Y.loadAllR rfl MM MM EL agg26) rfl ?_
  refine HL.take 1 rfl KR KR KR rfl (Y.field rfl field26_1) rfl ?_
  refine HL.take 2 rfl KR KR KR rfl (Y.loadOwn rfl MM (by rfl) flat24) rfl ?_
  refine HL.take 3 rfl KR KR KR rfl (Y.move rfl) rfl ?_
  refine HL.take 4 rfl KR KR KR rfl (Y.index kk rfl rfl hkk OM slice24 (fun _ hw => hw.rd_some MM OM)) rfl ?_
  refine HL.take 5 rfl KR KR KR rfl (Y.field rfl field46_0) rfl ?_
  refine HL.take 6 rfl KR KR KR rfl (Y.loadAggRd [_, _, _] rfl MM (Eq.trans (flat_sub DefT.enc_len _ _ _ (List.getElem?_eq_getElem AO) _ _ (Nat.le_of_ble_eq_true rfl)) (by rw [DefT.enc_eq] <;> rfl)) agg28) rfl ?_
  refine HL.step2 7 12 rfl rfl KR ?_ ?_
  ·refine RL.callv rfl func13 rfl rfl (by exact of_ok _ _ _ (p2.defs[kk]'hk2).id) ?_
   refine RL.nil ⟨keep_same SB, ?_⟩
   refine HL.step2 8 12 rfl rfl KR ?_ ?_
   ·refine RL.call rfl func34 rfl rfl (by exact rzero_ok _ _ _ p2 _ (ofT (p2.defs[kk]'hk2).id) _ (by exact Kn.rds MM) (Kn.of (ty_rd _))) ?_
    rintro v148 M148 _ ⟨hs148, rfl, us148, rfl, hr148⟩
    refine RL.addRds hr148 ?_
    have hul148 : us148.length = 3 := hr148.1.trans (Val.enc_len _)
    refine RL.nil ⟨keep_more (hs148) SB, ?_⟩
    refine HL.take 9 rfl KR KR KR rfl (Y.move rfl) rfl ?_
    refine HL.take 10 rfl KR KR KR rfl (Y.extract rfl rfl) rfl ?_
    refine HL.take 11 rfl KR KR KR rfl (Y.extract rfl rfl) rfl ?_
    refine HL.step 12 rfl KR ?_
    refine RL.alloc _ zero53 rfl rfl fun b25 => ?_
    refine RL.nil ⟨keep_more (hs148) SB, ?_⟩
    refine HL.step 13 rfl KR ?_
    refine RL.storeRds 3 rfl rfl RP MM EL (by first | exact Kn.lenRds MM EL | exact Kn.lenLit rfl) size53 ?_
    refine RL.nil ⟨keep_more (hs148) SB, ?_⟩
    refine HL.take 14 rfl KR KR KR rfl (Y.assign rfl) rfl ?_
    refine HL.done KR ?_
    refine hK27 _ _ _ ?_
    refine CW.kp [17, 18, 19, 20, 23, 24, 25, 26] rfl ?_
    refine CW.seq fun K28 hK28 => ?_
    refine CW.region ?_
    refine RL.q (Y.move rfl) rfl ?_
    refine RL.q (Y.move rfl) rfl ?_
    refine RL.q (Y.litB true (Y.eql rfl rfl) (congrArg Value.bool (decide_eq_true rfl))) rfl ?_
    refine RL.q (Y.move rfl) rfl ?_
    refine RL.qg WG (Y.loadAllR rfl MM MM EL agg53) rfl ?_
    refine RL.qg WG (Y.loadAllR rfl MM MM EL agg53) rfl ?_
    refine RL.callv WG func35 rfl rfl (by exact CallOk.val (same_ok _ _ _ (zeroV (fewP p) t).1 _ (if (zeroV (fewP p) t).2.1 ≠ 0 then v0 else (zeroV (fewP p) t).1) _ KK KK) (v' := .bool true) (congrArg Value.bool (decide_eq_true (same_zero _ _)))) ?_
    refine RL.q (Y.pickT rfl rfl) rfl ?_
    refine RL.q (Y.move rfl) rfl ?_
    refine RL.qg WG (Y.move rfl) rfl ?_
    refine RL.qg WG (Y.move rfl) rfl ?_
    refine RL.qg WG (Y.litB true (Y.eql rfl rfl) (congrArg Value.bool (decide_eq_true rfl))) rfl ?_
    refine RL.q (Y.pickT rfl rfl) rfl ?_
    refine RL.q (Y.move rfl) rfl ?_
    refine RL.qg WG (Y.loadAllR rfl MM MM EL agg53) rfl ?_
    refine RL.qg WG (Y.loadAllR rfl MM MM EL agg53) rfl ?_
    refine RL.callv WG func35 rfl rfl (by exact CallOk.val (same_ok _ _ _ (zeroV p2 (ofT (p2.defs[kk]'hk2).id)).1 _ (if (zeroV p2 (ofT (p2.defs[kk]'hk2).id)).2.1 ≠ 0 then v0 else (zeroV p2 (ofT (p2.defs[kk]'hk2).id)).1) _ KK KK) (v' := .bool true) (congrArg Value.bool (decide_eq_true (same_zero _ _)))) ?_
    refine RL.q (Y.pickT rfl rfl) rfl ?_
    refine RL.q (Y.move rfl) rfl ?_
    refine RL.callv WG func21 rfl rfl (by exact lives_ok _ _ _) ?_
    refine RL.q (Y.pickT rfl rfl) rfl ?_
    refine RL.q (Y.assign rfl) rfl ?_
    refine RL.nil ?_
    refine hK28 _ _ _ ?_
    refine CW.kp [10] rfl ?_
    refine CW.ret ?_
    exact ⟨_, rfl, Turn.back hw1 (hs28.trans (hsr.trans (hs72.trans (hs76.trans (hs82.trans (hss.trans (hst.trans (hs136.trans hs148)))))))) ⟨rfl, rfl, rfl⟩ SB⟩
   refine RL.alloc _ zero53 rfl rfl fun b25 => ?_
   refine RL.nil ⟨keep_same SB, ?_⟩
   refine HL.step 8 rfl KR ?_
   refine RL.call rfl func34 rfl rfl (by exact rzero_ok _ _ _ p2 _ (ofT (p2.defs[kk]'hk2).id) _ (by exact Kn.rds MM) (Kn.of (ty_rd _))) ?_
   rintro v148 M148 _ ⟨hs148, rfl, us148, rfl, hr148⟩
   refine RL.addRds hr148 ?_
   have hul148 : us148.length = 3 := hr148.1.trans (Val.enc_len _)
   refine RL.nil ⟨keep_more (hs148) SB, ?_⟩
   refine HL.take 9 rfl KR KR KR rfl (Y.move rfl) rfl ?_
   refine HL.take 10 rfl KR KR KR rfl (Y.extract rfl rfl) rfl ?_
   refine HL.take 11 rfl KR KR KR rfl (Y.extract rfl rfl) rfl ?_
   refine HL.step 13 rfl KR ?_
   refine RL.storeRds 3 rfl rfl RP MM EL (by first | exact Kn.lenRds MM EL | exact Kn.lenLit rfl) size53 ?_
   refine RL.nil ⟨keep_more (hs148) SB, ?_⟩
   refine HL.take 14 rfl KR KR KR rfl (Y.assign rfl) rfl ?_
   refine HL.done KR ?_
   refine hK27 _ _ _ ?_
   refine CW.kp [17, 18, 19, 20, 23, 24, 25, 26] rfl ?_
   refine CW.seq fun K29 hK29 => ?_
   refine CW.region ?_
   refine RL.q (Y.move rfl) rfl ?_
   refine RL.q (Y.move rfl) rfl ?_
   refine RL.q (Y.litB true (Y.eql rfl rfl) (congrArg Value.bool (decide_eq_true rfl))) rfl ?_
   refine RL.q (Y.move rfl) rfl ?_
   refine RL.qg WG (Y.loadAllR rfl MM MM EL agg53) rfl ?_
   refine RL.qg WG (Y.loadAllR rfl MM MM EL agg53) rfl ?_
   refine RL.callv WG func35 rfl rfl (by exact CallOk.val (same_ok _ _ _ (zeroV (fewP p) t).1 _ (if (zeroV (fewP p) t).2.1 ≠ 0 then v0 else (zeroV (fewP p) t).1) _ KK KK) (v' := .bool true) (congrArg Value.bool (decide_eq_true (same_zero _ _)))) ?_
   refine RL.q (Y.pickT rfl rfl) rfl ?_
   refine RL.q (Y.move rfl) rfl ?_
   refine RL.qg WG (Y.move rfl) rfl ?_
   refine RL.qg WG (Y.move rfl) rfl ?_
   refine RL.qg WG (Y.litB true (Y.eql rfl rfl) (congrArg Value.bool (decide_eq_true rfl))) rfl ?_
   refine RL.q (Y.pickT rfl rfl) rfl ?_
   refine RL.q (Y.move rfl) rfl ?_
   refine RL.qg WG (Y.loadAllR rfl MM MM EL agg53) rfl ?_
   refine RL.qg WG (Y.loadAllR rfl MM MM EL agg53) rfl ?_
   refine RL.callv WG func35 rfl rfl (by exact CallOk.val (same_ok _ _ _ (zeroV p2 (ofT (p2.defs[kk]'hk2).id)).1 _ (if (zeroV p2 (ofT (p2.defs[kk]'hk2).id)).2.1 ≠ 0 then v0 else (zeroV p2 (ofT (p2.defs[kk]'hk2).id)).1) _ KK KK) (v' := .bool true) (congrArg Value.bool (decide_eq_true (same_zero _ _)))) ?_
   refine RL.q (Y.pickT rfl rfl) rfl ?_
   refine RL.q (Y.move rfl) rfl ?_
   refine RL.callv WG func21 rfl rfl (by exact lives_ok _ _ _) ?_
   refine RL.q (Y.pickT rfl rfl) rfl ?_
   refine RL.q (Y.assign rfl) rfl ?_
   refine RL.nil ?_
   refine hK29 _ _ _ ?_
   refine CW.kp [10] rfl ?_
   refine CW.ret ?_
   exact ⟨_, rfl, Turn.back hw1 (hs28.trans (hsr.trans (hs72.trans (hs76.trans (hs82.trans (hss.trans (hst.trans (hs136.trans hs148)))))))) ⟨rfl, rfl, rfl⟩ SB⟩
  refine RL.alloc _ zero53 rfl rfl fun b25 => ?_
  refine RL.nil ⟨keep_same SB, ?_⟩
  refine HL.step 7 rfl KR ?_
  refine RL.callv rfl func13 rfl rfl (by exact of_ok _ _ _ (p2.defs[kk]'hk2).id) ?_
  refine RL.nil ⟨keep_same SB, ?_⟩
  refine HL.step 8 rfl KR ?_
  refine RL.call rfl func34 rfl rfl (by exact rzero_ok _ _ _ p2 _ (ofT (p2.defs[kk]'hk2).id) _ (by exact Kn.rds MM) (Kn.of (ty_rd _))) ?_
  rintro v148 M148 _ ⟨hs148, rfl, us148, rfl, hr148⟩
  refine RL.addRds hr148 ?_
  have hul148 : us148.length = 3 := hr148.1.trans (Val.enc_len _)
  refine RL.nil ⟨keep_more (hs148) SB, ?_⟩
  refine HL.take 9 rfl KR KR KR rfl (Y.move rfl) rfl ?_
  refine HL.take 10 rfl KR KR KR rfl (Y.extract rfl rfl) rfl ?_
  refine HL.take 11 rfl KR KR KR rfl (Y.extract rfl rfl) rfl ?_
  refine HL.step 13 rfl KR ?_
  refine RL.storeRds 3 rfl rfl RP MM EL (by first | exact Kn.lenRds MM EL | exact Kn.lenLit rfl) size53 ?_
  refine RL.nil ⟨keep_more (hs148) SB, ?_⟩
  refine HL.take 14 rfl KR KR KR rfl (Y.assign rfl) rfl ?_
  refine HL.done KR ?_
  refine hK27 _ _ _ ?_
  refine CW.kp [17, 18, 19, 20, 23, 24, 25, 26] rfl ?_
  refine CW.seq fun K30 hK30 => ?_
  refine CW.region ?_
  refine RL.q (Y.move rfl) rfl ?_
  refine RL.q (Y.move rfl) rfl ?_
  refine RL.q (Y.litB true (Y.eql rfl rfl) (congrArg Value.bool (decide_eq_true rfl))) rfl ?_
  refine RL.q (Y.move rfl) rfl ?_
  refine RL.qg WG (Y.loadAllR rfl MM MM EL agg53) rfl ?_
  refine RL.qg WG (Y.loadAllR rfl MM MM EL agg53) rfl ?_
  refine RL.callv WG func35 rfl rfl (by exact CallOk.val (same_ok _ _ _ (zeroV (fewP p) t).1 _ (if (zeroV (fewP p) t).2.1 ≠ 0 then v0 else (zeroV (fewP p) t).1) _ KK KK) (v' := .bool true) (congrArg Value.bool (decide_eq_true (same_zero _ _)))) ?_
  refine RL.q (Y.pickT rfl rfl) rfl ?_
  refine RL.q (Y.move rfl) rfl ?_
  refine RL.qg WG (Y.move rfl) rfl ?_
  refine RL.qg WG (Y.move rfl) rfl ?_
  refine RL.qg WG (Y.litB true (Y.eql rfl rfl) (congrArg Value.bool (decide_eq_true rfl))) rfl ?_
  refine RL.q (Y.pickT rfl rfl) rfl ?_
  refine RL.q (Y.move rfl) rfl ?_
  refine RL.qg WG (Y.loadAllR rfl MM MM EL agg53) rfl ?_
  refine RL.qg WG (Y.loadAllR rfl MM MM EL agg53) rfl ?_
  refine RL.callv WG func35 rfl rfl (by exact CallOk.val (same_ok _ _ _ (zeroV p2 (ofT (p2.defs[kk]'hk2).id)).1 _ (if (zeroV p2 (ofT (p2.defs[kk]'hk2).id)).2.1 ≠ 0 then v0 else (zeroV p2 (ofT (p2.defs[kk]'hk2).id)).1) _ KK KK) (v' := .bool true) (congrArg Value.bool (decide_eq_true (same_zero _ _)))) ?_
  refine RL.q (Y.pickT rfl rfl) rfl ?_
  refine RL.q (Y.move rfl) rfl ?_
  refine RL.callv WG func21 rfl rfl (by exact lives_ok _ _ _) ?_
  refine RL.q (Y.pickT rfl rfl) rfl ?_
  refine RL.q (Y.assign rfl) rfl ?_
  refine RL.nil ?_
  refine hK30 _ _ _ ?_
  refine CW.kp [10] rfl ?_
  refine CW.ret ?_
  exact ⟨_, rfl, Turn.back hw1 (hs28.trans (hsr.trans (hs72.trans (hs76.trans (hs82.trans (hss.trans (hst.trans (hs136.trans hs148)))))))) ⟨rfl, rfl, rfl⟩ SB⟩
end Go.Proofs.Ytfgkhhfkodlbpaa
