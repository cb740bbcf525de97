/- THE WALKS, 22: the small examples live. Printed by m04v.py. -/
import Derived.Test.YtfgkhhfkodlbpaaVu
import Derived.Test.YtfgkhhfkodlbpaaPureA
namespace Go.Proofs.Ytfgkhhfkodlbpaa
open Xe

set_option maxHeartbeats 1000000 in
theorem lives_ok (w0 : World) (M : Mem) (Γ : List As)     :
    CallOk Try.prog w0 M Γ 21 #[] (Is M Γ (.bool true)) := by
  refine enter (f := 21) Try.func21 rfl Try.ntmps21 rfl rfl fun w1 hw1 => ?_
  refine CW.seq fun K1 hK1 => ?_
  refine CW.region ?_
  refine RL.q (Y.assign rfl) rfl ?_
  refine RL.nil ?_
  refine hK1 _ _ _ ?_
  refine CW.kp [] rfl ?_
  refine CW.seq fun K2 hK2 => ?_
  refine CW.region ?_
  refine RL.call rfl func47 rfl rfl (by exact example_ok _ _ _) ?_
  rintro v22 M22 _ ⟨hs22, rfl, us22, rfl, hr22⟩
  refine RL.addRds hr22 ?_
  have hul22 : us22.length = 2 := hr22.1.trans (ProgT.enc_len _)
  refine RL.alloc _ zero26 rfl rfl fun b1 => ?_
  refine RL.storeRds 2 rfl rfl RP MM EL (by first | exact Kn.lenRds MM EL | exact Kn.lenLit rfl) size26 ?_
  refine RL.nil ?_
  refine hK2 _ _ _ ?_
  refine CW.kp [1] rfl ?_
  refine CW.seq fun K3 hK3 => ?_
  refine CW.region ?_
  refine RL.callv rfl func14 rfl rfl (by exact id_ok _ _ _ _ AO AO) ?_
  refine RL.callv rfl func13 rfl rfl (by exact of_ok _ _ _ _) ?_
  refine RL.alloc _ zero31 rfl rfl fun b2 => ?_
  refine RL.storeAgg _ rfl rfl RP (by rfl) (by first | (simp; done) | simp [IdT.vals]) (by first | (simp [Value.oneCell']; done) | simp [Value.oneCell', IdT.vals]) size31 ?_
  refine RL.nil ?_
  refine hK3 _ _ _ ?_
  refine CW.kp [1, 2] rfl ?_
  refine CW.seq fun K4 hK4 => ?_
  refine CW.region ?_
  refine RL.callv rfl func14 rfl rfl (by exact id_ok _ _ _ _ AO AO) ?_
  refine RL.callv rfl func13 rfl rfl (by exact of_ok _ _ _ _) ?_
  refine RL.alloc _ zero31 rfl rfl fun b3 => ?_
  refine RL.storeAgg _ rfl rfl RP (by rfl) (by first | (simp; done) | simp [IdT.vals]) (by first | (simp [Value.oneCell']; done) | simp [Value.oneCell', IdT.vals]) size31 ?_
  refine RL.nil ?_
  refine hK4 _ _ _ ?_
  refine CW.kp [1, 2, 3] rfl ?_
  refine CW.seq fun K5 hK5 => ?_
  refine CW.region ?_
  refine RL.q (Y.loadAllR rfl MM MM EL agg26) rfl ?_
  refine RL.q (Y.loadAll rfl MM (by rfl) agg31) rfl ?_
  refine RL.call rfl func33 rfl rfl (by exact zero_ok _ _ _ exP _ tyA _ (by exact Kn.rds MM) (Kn.of (ty_rd (idK 1)))) ?_
  rintro v30 M30 _ ⟨hs30, rfl, us30, rfl, hr30⟩
  rw [zA1] at hr30
  rw [zA2]
  refine RL.addRds hr30 ?_
  have hul30 : us30.length = 3 := hr30.1.trans (Val.enc_len _)
  refine RL.q (Y.move rfl) rfl ?_
  refine RL.q (Y.extract rfl rfl) rfl ?_
  refine RL.q (Y.extract rfl rfl) rfl ?_
  refine RL.alloc _ zero53 rfl rfl fun b4 => ?_
  refine RL.storeRds 3 rfl rfl RP MM EL (by first | exact Kn.lenRds MM EL | exact Kn.lenLit rfl) size53 ?_
  refine RL.q (Y.assign rfl) rfl ?_
  refine RL.nil ?_
  refine hK5 _ _ _ ?_
  refine CW.kp [1, 2, 3, 4, 5] rfl ?_
  refine CW.seq fun K6 hK6 => ?_
  refine CW.region ?_
  refine RL.q (Y.loadAllR rfl MM MM EL agg26) rfl ?_
  refine RL.q (Y.loadAll rfl MM (by rfl) agg31) rfl ?_
  refine RL.call rfl func33 rfl rfl (by exact zero_ok _ _ _ exP _ tyB _ (by exact Kn.rds MM) (Kn.of (ty_rd (idK 2)))) ?_
  rintro v36 M36 _ ⟨hs36, rfl, us36, rfl, hr36⟩
  rw [zB1] at hr36
  rw [zB2]
  refine RL.addRds hr36 ?_
  have hul36 : us36.length = 3 := hr36.1.trans (Val.enc_len _)
  refine RL.q (Y.move rfl) rfl ?_
  refine RL.q (Y.extract rfl rfl) rfl ?_
  refine RL.q (Y.extract rfl rfl) rfl ?_
  refine RL.alloc _ zero53 rfl rfl fun b6 => ?_
  refine RL.storeRds 3 rfl rfl RP MM EL (by first | exact Kn.lenRds MM EL | exact Kn.lenLit rfl) size53 ?_
  refine RL.q (Y.assign rfl) rfl ?_
  refine RL.nil ?_
  refine hK6 _ _ _ ?_
  refine CW.kp [1, 2, 3, 4, 5, 6, 7] rfl ?_
  refine CW.seq fun K7 hK7 => ?_
  refine CW.region ?_
  refine RL.callv rfl func26 rfl rfl (by exact num_ok _ _ _ _) ?_
  refine RL.callv rfl func26 rfl rfl (by exact num_ok _ _ _ _) ?_
  refine RL.buildSlice (nvs 1 ++ nvs (-2)) elem51 rfl (by decide) (fill2 (out := nvs 1) (out' := nvs (-2)) rfl rfl rfl rfl) rfl fun b41 => ?_
  refine RL.q (Y.build [_, _, _] rfl zero53 places53 (by rfl)) rfl ?_
  refine RL.buildSlice _ elem51 rfl (by decide) (fill1 rfl (by rfl)) rfl fun b43 => ?_
  refine RL.q (Y.build [_, _, _] rfl zero53 places53 (by rfl)) rfl ?_
  refine RL.alloc _ zero53 rfl rfl fun b8 => ?_
  refine RL.storeAgg _ rfl rfl RP (by rfl) (by first | (simp; done) | simp [IdT.vals]) (by first | (simp [Value.oneCell']; done) | simp [Value.oneCell', IdT.vals]) size53 ?_
  refine RL.nil ?_
  refine hK7 _ _ _ ?_
  refine CW.kp [1, 2, 3, 4, 5, 6, 7, 8] rfl ?_
  refine CW.sealOwn (b := b41) (k := 2) (sz := 3) (ds := [vnum 1, vnum (-2)].flatMap Val.enc) PK (kids2 (leaf_rd 0 1) (leaf_rd 0 (-2))) rfl (by unfold lim; omega) fun Mb41 hsb41 hrb41 => ?_
  refine CW.sealOwn (b := b43) (k := 1) (sz := 3) (ds := [valP].flatMap Val.enc) PK (kids1 (node_rd 2 0 [vnum 1, vnum (-2)] hrb41)) rfl (by unfold lim; omega) fun Mb43 hsb43 hrb43 => ?_
  refine CW.addRds (node_rd 3 1 [valP] (u := .slice (some ⟨b43, 0, none⟩) 1 1) hrb43) ?_
  refine CW.seq fun K8 hK8 => ?_
  refine CW.region ?_
  refine RL.callv rfl func26 rfl rfl (by exact num_ok _ _ _ _) ?_
  refine RL.buildSlice (nvs 1) elem51 rfl (by decide) (fill1 rfl rfl) rfl fun b46 => ?_
  refine RL.q (Y.build [_, _, _] rfl zero53 places53 (by rfl)) rfl ?_
  refine RL.alloc _ zero53 rfl rfl fun b9 => ?_
  refine RL.storeAgg _ rfl rfl RP (by rfl) (by first | (simp; done) | simp [IdT.vals]) (by first | (simp [Value.oneCell']; done) | simp [Value.oneCell', IdT.vals]) size53 ?_
  refine RL.nil ?_
  refine hK8 _ _ _ ?_
  refine CW.kp [1, 2, 3, 4, 5, 6, 7, 8, 9] rfl ?_
  refine CW.sealOwn (b := b46) (k := 1) (sz := 3) (ds := [vnum 1].flatMap Val.enc) PK (kids1 (leaf_rd 0 1)) rfl (by unfold lim; omega) fun Mb46 hsb46 hrb46 => ?_
  refine CW.addRds (node_rd 3 1 [vnum 1] (u := .slice (some ⟨b46, 0, none⟩) 1 1) hrb46) ?_
  refine CW.seq fun K9 hK9 => ?_
  refine CW.region ?_
  refine RL.callv rfl func26 rfl rfl (by exact num_ok _ _ _ _) ?_
  refine RL.callv rfl func26 rfl rfl (by exact num_ok _ _ _ _) ?_
  refine RL.buildSlice (nvs 3 ++ nvs 0) elem51 rfl (by decide) (fill2 (out := nvs 3) (out' := nvs 0) rfl rfl rfl rfl) rfl fun b50 => ?_
  refine RL.q (Y.build [_, _, _] rfl zero53 places53 (by rfl)) rfl ?_
  refine RL.alloc _ zero53 rfl rfl fun b10 => ?_
  refine RL.storeAgg _ rfl rfl RP (by rfl) (by first | (simp; done) | simp [IdT.vals]) (by first | (simp [Value.oneCell']; done) | simp [Value.oneCell', IdT.vals]) size53 ?_
  refine RL.nil ?_
  refine hK9 _ _ _ ?_
  refine CW.kp [1, 2, 3, 4, 5, 6, 7, 8, 9, 10] rfl ?_
  refine CW.sealOwn (b := b50) (k := 2) (sz := 3) (ds := [vnum 3, vnum 0].flatMap Val.enc) PK (kids2 (leaf_rd 0 3) (leaf_rd 0 0)) rfl (by unfold lim; omega) fun Mb50 hsb50 hrb50 => ?_
  refine CW.addRds (node_rd 4 0 [vnum 3, vnum 0] (u := .slice (some ⟨b50, 0, none⟩) 2 2) hrb50) ?_
  refine CW.seq fun K10 hK10 => ?_
  refine CW.region ?_
  refine RL.callv rfl func26 rfl rfl (by exact num_ok _ _ _ _) ?_
  refine RL.buildSlice (nvs 9) elem51 rfl (by decide) (fill1 rfl rfl) rfl fun b53 => ?_
  refine RL.q (Y.build [_, _, _] rfl zero53 places53 (by rfl)) rfl ?_
  refine RL.alloc _ zero53 rfl rfl fun b11 => ?_
  refine RL.storeAgg _ rfl rfl RP (by rfl) (by first | (simp; done) | simp [IdT.vals]) (by first | (simp [Value.oneCell']; done) | simp [Value.oneCell', IdT.vals]) size53 ?_
  refine RL.nil ?_
  refine hK10 _ _ _ ?_
  refine CW.kp [1, 2, 3, 4, 5, 6, 7, 8, 9, 10, 11] rfl ?_
  refine CW.sealOwn (b := b53) (k := 1) (sz := 3) (ds := [vnum 9].flatMap Val.enc) PK (kids1 (leaf_rd 0 9)) rfl (by unfold lim; omega) fun Mb53 hsb53 hrb53 => ?_
  refine CW.addRds (node_rd 4 0 [vnum 9] (u := .slice (some ⟨b53, 0, none⟩) 1 1) hrb53) ?_
  refine CW.seq fun K11 hK11 => ?_
  refine CW.region ?_
  refine RL.callv rfl func26 rfl rfl (by exact num_ok _ _ _ _) ?_
  refine RL.callv rfl func26 rfl rfl (by exact num_ok _ _ _ _) ?_
  refine RL.buildSlice (nvs 1 ++ nvs 1) elem51 rfl (by decide) (fill2 (out := nvs 1) (out' := nvs 1) rfl rfl rfl rfl) rfl fun b57 => ?_
  refine RL.q (Y.build [_, _, _] rfl zero53 places53 (by rfl)) rfl ?_
  refine RL.alloc _ zero53 rfl rfl fun b12 => ?_
  refine RL.storeAgg _ rfl rfl RP (by rfl) (by first | (simp; done) | simp [IdT.vals]) (by first | (simp [Value.oneCell']; done) | simp [Value.oneCell', IdT.vals]) size53 ?_
  refine RL.nil ?_
  refine hK11 _ _ _ ?_
  refine CW.kp [1, 2, 3, 4, 5, 6, 7, 8, 9, 10, 11, 12] rfl ?_
  refine CW.sealOwn (b := b57) (k := 2) (sz := 3) (ds := [vnum 1, vnum 1].flatMap Val.enc) PK (kids2 (leaf_rd 0 1) (leaf_rd 0 1)) rfl (by unfold lim; omega) fun Mb57 hsb57 hrb57 => ?_
  refine CW.addRds (node_rd 4 0 [vnum 1, vnum 1] (u := .slice (some ⟨b57, 0, none⟩) 2 2) hrb57) ?_
  refine CW.seq fun K12 hK12 => ?_
  refine CW.region ?_
  refine RL.callv rfl func26 rfl rfl (by exact num_ok _ _ _ _) ?_
  refine RL.callv rfl func26 rfl rfl (by exact num_ok _ _ _ _) ?_
  refine RL.buildSlice (nvs 0 ++ nvs 0) elem51 rfl (by decide) (fill2 (out := nvs 0) (out' := nvs 0) rfl rfl rfl rfl) rfl fun b61 => ?_
  refine RL.q (Y.build [_, _, _] rfl zero53 places53 (by rfl)) rfl ?_
  refine RL.alloc _ zero53 rfl rfl fun b13 => ?_
  refine RL.storeAgg _ rfl rfl RP (by rfl) (by first | (simp; done) | simp [IdT.vals]) (by first | (simp [Value.oneCell']; done) | simp [Value.oneCell', IdT.vals]) size53 ?_
  refine RL.nil ?_
  refine hK12 _ _ _ ?_
  refine CW.kp [1, 2, 3, 4, 5, 6, 7, 8, 9, 10, 11, 12, 13] rfl ?_
  refine CW.sealOwn (b := b61) (k := 2) (sz := 3) (ds := [vnum 0, vnum 0].flatMap Val.enc) PK (kids2 (leaf_rd 0 0) (leaf_rd 0 0)) rfl (by unfold lim; omega) fun Mb61 hsb61 hrb61 => ?_
  refine CW.addRds (node_rd 2 0 [vnum 0, vnum 0] (u := .slice (some ⟨b61, 0, none⟩) 2 2) hrb61) ?_
  refine CW.seq fun K13 hK13 => ?_
  refine CW.region ?_
  refine RL.callv rfl func26 rfl rfl (by exact num_ok _ _ _ _) ?_
  refine RL.buildSlice (nvs 5) elem51 rfl (by decide) (fill1 rfl rfl) rfl fun b64 => ?_
  refine RL.q (Y.build [_, _, _] rfl zero53 places53 (by rfl)) rfl ?_
  refine RL.sealOwn (b := b64) (k := 1) (sz := 3) (ds := [vnum 5].flatMap Val.enc) PK (kids1 (leaf_rd 0 5)) rfl (by unfold lim; omega) fun Mb64 hsb64 hrb64 => ?_
  refine RL.call rfl func37 rfl rfl (by exact encode_ok _ _ _ _ valG _ rfl (Kn.of (node_rd 4 0 [vnum 5] hrb64)) okG (by decide)) ?_
  rintro v66 M66 _ ⟨hs66, rfl, hr66⟩
  rw [encG] at hr66
  obtain ⟨a66, c66, rfl, hc66, _, _⟩ := hr66.slice
  obtain ⟨p66, rfl⟩ : ∃ p, a66 = some p := Option.isSome_iff_exists.1 (hr66.isSome (by decide))
  refine RL.addRd hr66 ?_
  refine RL.q (Y.assign rfl) rfl ?_
  refine RL.nil ?_
  refine hK13 _ _ _ ?_
  refine CW.kp [1, 2, 3, 4, 5, 6, 7, 8, 9, 10, 11, 12, 13, 14] rfl ?_
  refine CW.seq fun K14 hK14 => ?_
  refine CW.region ?_
  refine RL.q (Y.move rfl) rfl ?_
  refine RL.call rfl func39 rfl rfl (by exact decode_ok _ _ _ codeG _ (by exact Kn.rd MM) (by decide)) ?_
  rintro v69 M69 _ ⟨hs69, rfl, us69, rfl, hr69⟩
  rw [dG1, Val.enc_eq] at hr69
  rw [dG2, dG3]
  refine RL.addRds hr69 ?_
  have hul69 : us69.length = 3 := hr69.1
  refine RL.q (Y.move rfl) rfl ?_
  refine RL.q (Y.extract rfl rfl) rfl ?_
  refine RL.q (Y.extract rfl rfl) rfl ?_
  refine RL.q (Y.extract rfl rfl) rfl ?_
  refine RL.alloc _ zero53 rfl rfl fun b15 => ?_
  refine RL.storeRds 3 rfl rfl RP MM EL (by first | exact Kn.lenRds MM EL | exact Kn.lenLit rfl) size53 ?_
  refine RL.q (Y.assign rfl) rfl ?_
  refine RL.q (Y.assign rfl) rfl ?_
  refine RL.nil ?_
  refine hK14 _ _ _ ?_
  refine CW.kp [1, 2, 3, 4, 5, 6, 7, 8, 9, 10, 11, 12, 13, 14, 15, 16, 17] rfl ?_
  refine CW.seq fun K15 hK15 => ?_
  refine CW.seq fun K16 hK16 => ?_
  refine CW.region ?_
  refine RL.q (Y.move rfl) rfl ?_
  refine RL.q (Y.litB false (Y.neq rfl rfl) (congrArg Value.bool (decide_eq_false (fun h => h rfl)))) rfl ?_
  refine RL.q (Y.move rfl) rfl ?_
  refine RL.qg WG (Y.move rfl) rfl ?_
  refine RL.qg WG (Y.litB false (Y.neq rfl rfl) (congrArg Value.bool (decide_eq_false (fun h => h rfl)))) rfl ?_
  refine RL.q (Y.pickF rfl rfl) rfl ?_
  refine RL.q (Y.move rfl) rfl ?_
  refine RL.qg WG (Y.move rfl) rfl ?_
  refine RL.qg WG (Y.litB false (Y.neq rfl rfl) (congrArg Value.bool (decide_eq_false (fun h => h rfl)))) rfl ?_
  refine RL.q (Y.pickF rfl rfl) rfl ?_
  refine RL.q (Y.move rfl) rfl ?_
  refine RL.qg WG (Y.move rfl) rfl ?_
  refine RL.qg WG (Y.litB false (Y.neq rfl rfl) (congrArg Value.bool (decide_eq_false (fun h => h rfl)))) rfl ?_
  refine RL.q (Y.pickF rfl rfl) rfl ?_
  refine RL.q (Y.move rfl) rfl ?_
  refine RL.qg WG (Y.move rfl) rfl ?_
  refine RL.qg WG (Y.convSRd codeG rfl MM KR) rfl ?_
  refine RL.unguard WG ?_
  refine RL.buildSlice (byteV codeG) elem69 rfl (by decide) (fill9s rfl rfl rfl rfl rfl rfl rfl rfl rfl) rfl fun b90 => ?_
  refine RL.qg WG (Y.convSOwn codeG rfl rfl MM KR) rfl ?_
  refine RL.qg WG (Y.litB false (Y.neqS rfl rfl) (congrArg Value.bool (decide_eq_false (fun h => h rfl)))) rfl ?_
  refine RL.q (Y.pickF rfl rfl) rfl ?_
  refine RL.q (Y.move rfl) rfl ?_
  refine RL.qg WG (Y.field rfl field53_2) rfl ?_
  refine RL.loadOwnSl WG rfl MM MM (by rfl) flat51 rfl fun a96 c96 hu96 hc96 hl96 => ?_
  refine RL.qg WG (Y.len rfl Try.underlying51) rfl ?_
  refine RL.qg WG (Y.litB false (Y.neq rfl rfl) (congrArg Value.bool (decide_eq_false (fun h => h rfl)))) rfl ?_
  refine RL.q (Y.pickF rfl rfl) rfl ?_
  refine RL.nil ?_
  refine hK16 _ _ _ ?_
  refine CW.kp [1, 2, 3, 4, 6, 8, 9, 10, 11, 12, 13, 99] rfl ?_
  refine CW.no rfl ?_
  refine CW.skip ?_
  refine hK15 _ _ _ ?_
  refine CW.seq fun K17 hK17 => ?_
  refine CW.regionH mix _ _ (fun _ hw => hw) ?_
  refine HL.take 0 rfl KR KR KR rfl (Y.loadAllR rfl MM MM EL agg26) rfl ?_
  refine HL.step2 1 6 rfl rfl KR ?_ ?_
  ·refine RL.callv rfl func14 rfl rfl (by exact id_ok _ _ _ _ AO AO) ?_
   refine RL.nil ⟨keep_same SB, ?_⟩
   refine HL.step2 2 6 rfl rfl KR ?_ ?_
   ·refine RL.call rfl func19 rfl rfl (by exact def_ok _ _ _ exP _ (idK 2) (by exact Kn.rds MM)) ?_
    rintro v103 M69 _ ⟨rfl, rfl, us103, rfl, hr103⟩
    rw [dB1] at hr103
    rw [dB2]
    refine RL.addRds hr103 ?_
    refine RL.nil ⟨keep_same SB, ?_⟩
    refine HL.take 3 rfl KR KR KR rfl (Y.move rfl) rfl ?_
    refine HL.take 4 rfl KR KR KR rfl (Y.extract rfl rfl) rfl ?_
    refine HL.take 5 rfl KR KR KR rfl (Y.extract rfl rfl) rfl ?_
    refine HL.step 6 rfl KR ?_
    refine RL.alloc _ zero46 rfl rfl fun b18 => ?_
    refine RL.nil ⟨keep_same SB, ?_⟩
    refine HL.step 7 rfl KR ?_
    refine RL.storeRds 31 rfl rfl RP MM EL (by first | exact Kn.lenRds MM EL | exact Kn.lenLit rfl) size46 ?_
    refine RL.nil ⟨keep_same SB, ?_⟩
    refine HL.take 8 rfl KR KR KR rfl (Y.assign rfl) rfl ?_
    refine HL.done KR ?_
    refine hK17 _ _ _ ?_
    refine CW.kp [1, 2, 3, 4, 6, 8, 9, 10, 11, 12, 13, 18, 19] rfl ?_
    refine CW.seq fun K18 hK18 => ?_
    refine CW.regionQ mix KR ?_
    refine QL.q (Y.loadAllR rfl MM MM EL agg26) rfl ?_
    refine QL.q (Y.loadAll rfl MM (by rfl) agg31) rfl ?_
    refine QL.callv rfl func15 rfl rfl (by exact fun _ hC => CallOk.val (validType_ok _ _ _ exP _ tyB _ (Kn.via hC (by exact Kn.rds MM)) (Kn.via hC (Kn.of (ty_rd (idK 2))))) (v' := .bool true) (congrArg Value.bool vB)) ?_
    refine QL.q (Y.move rfl) rfl ?_
    refine QL.qg WG (Y.loadAllR rfl MM MM EL agg26) rfl ?_
    refine QL.callv WG func14 rfl rfl (by exact fun _ hC => id_ok _ _ _ _ AO AO) ?_
    refine QL.callv WG func13 rfl rfl (by exact fun _ hC => of_ok _ _ _ _) ?_
    refine QL.callv WG func15 rfl rfl (by exact fun _ hC => CallOk.val (validType_ok _ _ _ exP _ tyC _ (Kn.via hC (by exact Kn.rds MM)) (Kn.via hC (Kn.of (ty_rd (idK 3))))) (v' := .bool false) (congrArg Value.bool vC)) ?_
    refine QL.qg WG (Y.not rfl) rfl ?_
    refine QL.q (Y.pickT rfl rfl) rfl ?_
    refine QL.q (Y.move rfl) rfl ?_
    refine QL.qg WG (Y.loadAll rfl MM (by rfl) agg31) rfl ?_
    refine QL.qg WG (Y.loadAll rfl MM (by rfl) agg31) rfl ?_
    refine QL.callv WG func17 rfl rfl (by exact fun _ hC => CallOk.val (sameTy_ok _ _ _ _ tyB _ tyB _ rfl (Kn.via hC (Kn.of (ty_rd (idK 2)))) (Kn.via hC (Kn.of (ty_rd (idK 2))))) (v' := .bool true) (congrArg Value.bool sBB)) ?_
    refine QL.q (Y.pickT rfl rfl) rfl ?_
    refine QL.q (Y.move rfl) rfl ?_
    refine QL.qg WG (Y.loadAll rfl MM (by rfl) agg31) rfl ?_
    refine QL.qg WG (Y.loadAll rfl MM (by rfl) agg31) rfl ?_
    refine QL.callv WG func17 rfl rfl (by exact fun _ hC => CallOk.val (sameTy_ok _ _ _ _ tyB _ tyA _ rfl (Kn.via hC (Kn.of (ty_rd (idK 2)))) (Kn.via hC (Kn.of (ty_rd (idK 1))))) (v' := .bool false) (congrArg Value.bool sBA)) ?_
    refine QL.qg WG (Y.not rfl) rfl ?_
    refine QL.q (Y.pickT rfl rfl) rfl ?_
    refine QL.q (Y.assign rfl) rfl ?_
    refine QL.nil ?_
    refine hK18 _ _ _ ?_
    refine CW.kp [1, 3, 4, 6, 8, 9, 10, 11, 12, 13, 18, 19, 20] rfl ?_
    refine CW.seq fun K19 hK19 => ?_
    refine CW.region ?_
    refine RL.callv rfl func26 rfl rfl (by exact num_ok _ _ _ _) ?_
    refine RL.q (Y.build [_, _, _] rfl zero53 places53 (by rfl)) rfl ?_
    refine RL.callv rfl func31 rfl rfl (by exact cmpV_ok _ _ _ _ (vnum 2) _ valI _ rfl (Kn.of (leaf_rd 0 2)) (Kn.of (leaf_rd 1 1))) ?_
    refine RL.q (Y.litB true (Y.eql rfl rfl) (congrArg Value.bool (decide_eq_true c1))) rfl ?_
    refine RL.q (Y.move rfl) rfl ?_
    refine RL.qg WG (Y.loadAllR rfl MM MM EL agg53) rfl ?_
    refine RL.qg WG (Y.loadAllR rfl MM MM EL agg53) rfl ?_
    refine RL.callv WG func31 rfl rfl (by exact cmpV_ok _ _ _ _ valD _ valE _ rfl (by exact Kn.rds MM) (by exact Kn.rds MM)) ?_
    refine RL.qg WG (Y.litB true (Y.eql rfl rfl) (congrArg Value.bool (decide_eq_true c2))) rfl ?_
    refine RL.q (Y.pickT rfl rfl) rfl ?_
    refine RL.q (Y.move rfl) rfl ?_
    refine RL.qg WG (Y.loadAllR rfl MM MM EL agg53) rfl ?_
    refine RL.qg WG (Y.loadAllR rfl MM MM EL agg53) rfl ?_
    refine RL.callv WG func31 rfl rfl (by exact cmpV_ok _ _ _ _ valE _ valD _ rfl (by exact Kn.rds MM) (by exact Kn.rds MM)) ?_
    refine RL.qg WG (Y.litB true (Y.eql rfl rfl) (congrArg Value.bool (decide_eq_true c3))) rfl ?_
    refine RL.q (Y.pickT rfl rfl) rfl ?_
    refine RL.q (Y.assign rfl) rfl ?_
    refine RL.nil ?_
    refine hK19 _ _ _ ?_
    refine CW.kp [1, 3, 4, 6, 8, 9, 10, 13, 18, 19, 20, 21] rfl ?_
    refine CW.seq fun K20 hK20 => ?_
    refine CW.regionH mix _ _ (fun _ hw => hw) ?_
    refine HL.take 0 rfl KR KR KR rfl (Y.move rfl) rfl ?_
    refine HL.take 1 rfl KR KR KR rfl (Y.move rfl) rfl ?_
    refine HL.take 2 rfl KR KR KR WG (Y.move rfl) rfl ?_
    refine HL.take 3 rfl KR KR KR rfl (Y.pickT rfl rfl) rfl ?_
    refine HL.take 4 rfl KR KR KR rfl (Y.move rfl) rfl ?_
    refine HL.take 5 rfl KR KR KR WG (Y.move rfl) rfl ?_
    refine HL.take 6 rfl KR KR KR rfl (Y.pickT rfl rfl) rfl ?_
    refine HL.take 7 rfl KR KR KR rfl (Y.move rfl) rfl ?_
    refine HL.take 8 rfl KR KR KR WG (Y.field rfl field46_3) rfl ?_
    refine HL.take 9 rfl KR KR KR WG (Y.loadOwnV rfl MM MM (by rfl) flat9) rfl ?_
    refine HL.take 10 rfl KR KR KR WG (Y.litB true (Y.eqlS rfl rfl) (congrArg Value.bool (decide_eq_true rfl))) rfl ?_
    refine HL.take 11 rfl KR KR KR rfl (Y.pickT rfl rfl) rfl ?_
    refine HL.take 12 rfl KR KR KR rfl (Y.move rfl) rfl ?_
    refine HL.take 13 rfl KR KR KR WG (Y.loadAllR rfl MM MM EL agg53) rfl ?_
    refine HL.take 14 rfl KR KR KR WG (Y.loadAllR rfl MM MM EL agg53) rfl ?_
    refine HL.step 15 rfl KR ?_
    refine RL.callv WG func35 rfl rfl (by exact CallOk.val (same_ok _ _ _ valF _ valF _ (by exact Kn.rds MM) (by exact Kn.rds MM)) (v' := .bool true) (congrArg Value.bool eA)) ?_
    refine RL.nil ⟨keep_same SB, ?_⟩
    refine HL.take 16 rfl KR KR KR rfl (Y.pickT rfl rfl) rfl ?_
    refine HL.take 17 rfl KR KR KR rfl (Y.move rfl) rfl ?_
    refine HL.take 18 rfl KR KR KR WG (Y.loadAllR rfl MM MM EL agg53) rfl ?_
    refine HL.step 19 rfl KR ?_
    refine RL.callv WG func26 rfl rfl (by exact num_ok _ _ _ _) ?_
    refine RL.nil ⟨keep_same SB, ?_⟩
    refine HL.step 20 rfl KR ?_
    refine RL.unguard WG ?_
    refine RL.buildSlice (nvs 0) elem51 rfl (by decide) (fill1 rfl rfl) rfl fun b163 => ?_
    refine RL.sealOwn (b := b163) (k := 1) (sz := 3) (ds := [vnum 0].flatMap Val.enc) PK (kids1 (leaf_rd 0 0)) rfl (by unfold lim; omega) fun M163 hs163 hr163 => ?_
    refine RL.addRd hr163 ?_
    refine RL.nil ⟨keep_more (hs163) SB, ?_⟩
    refine HL.take 21 rfl KR KR KR WG (Y.build [_, _, _] rfl zero53 places53 (by rfl)) rfl ?_
    refine HL.step 22 rfl KR ?_
    refine RL.callv WG func35 rfl rfl (by exact CallOk.val (same_ok _ _ _ valH _ valH _ (by exact Kn.rds MM) (Kn.of (node_rd 3 0 [vnum 0] hr163))) (v' := .bool true) (congrArg Value.bool eB)) ?_
    refine RL.nil ⟨keep_more (hs163) SB, ?_⟩
    refine HL.take 23 rfl KR KR KR rfl (Y.pickT rfl rfl) rfl ?_
    refine HL.take 24 rfl KR KR KR rfl (Y.move rfl) rfl ?_
    refine HL.take 25 rfl KR KR KR WG (Y.loadAllR rfl MM MM EL agg26) rfl ?_
    refine HL.take 26 rfl KR KR KR WG (Y.loadAll rfl MM (by rfl) agg31) rfl ?_
    refine HL.take 27 rfl KR KR KR WG (Y.loadAllR rfl MM MM EL agg53) rfl ?_
    refine HL.step 28 rfl KR ?_
    refine RL.callv WG func24 rfl rfl (by exact CallOk.val (valid_ok _ _ _ exP _ tyB _ valA _ (by exact Kn.rds MM) (Kn.of (ty_rd (idK 2))) (by exact Kn.rds MM)) (v' := .bool true) (congrArg Value.bool wA)) ?_
    refine RL.nil ⟨keep_more (hs163) SB, ?_⟩
    refine HL.take 29 rfl KR KR KR rfl (Y.pickT rfl rfl) rfl ?_
    refine HL.take 30 rfl KR KR KR rfl (Y.move rfl) rfl ?_
    refine HL.take 31 rfl KR KR KR WG (Y.loadAllR rfl MM MM EL agg26) rfl ?_
    refine HL.take 32 rfl KR KR KR WG (Y.loadAll rfl MM (by rfl) agg31) rfl ?_
    refine HL.take 33 rfl KR KR KR WG (Y.loadAllR rfl MM MM EL agg53) rfl ?_
    refine HL.step 34 rfl KR ?_
    refine RL.callv WG func24 rfl rfl (by exact CallOk.val (valid_ok _ _ _ exP _ tyB _ valB _ (by exact Kn.rds MM) (Kn.of (ty_rd (idK 2))) (by exact Kn.rds MM)) (v' := .bool false) (congrArg Value.bool wB)) ?_
    refine RL.nil ⟨keep_more (hs163) SB, ?_⟩
    refine HL.take 35 rfl KR KR KR WG (Y.not rfl) rfl ?_
    refine HL.take 36 rfl KR KR KR rfl (Y.pickT rfl rfl) rfl ?_
    refine HL.take 37 rfl KR KR KR rfl (Y.move rfl) rfl ?_
    refine HL.take 38 rfl KR KR KR WG (Y.loadAllR rfl MM MM EL agg53) rfl ?_
    refine HL.step 39 rfl KR ?_
    refine RL.callv WG func29 rfl rfl (by exact weight_ok _ _ _ _ valA _ rfl (by exact Kn.rds MM) okA) ?_
    refine RL.nil ⟨keep_more (hs163) SB, ?_⟩
    refine HL.take 40 rfl KR KR KR WG (Y.litB true (Y.eql rfl rfl) (congrArg Value.bool (decide_eq_true wtA))) rfl ?_
    refine HL.take 41 rfl KR KR KR rfl (Y.pickT rfl rfl) rfl ?_
    refine HL.take 42 rfl KR KR KR rfl (Y.move rfl) rfl ?_
    refine HL.take 43 rfl KR KR KR WG (Y.loadAllR rfl MM MM EL agg53) rfl ?_
    refine HL.step 44 rfl KR ?_
    refine RL.callv WG func29 rfl rfl (by exact weight_ok _ _ _ _ valC _ rfl (by exact Kn.rds MM) okC) ?_
    refine RL.nil ⟨keep_more (hs163) SB, ?_⟩
    refine HL.take 45 rfl KR KR KR WG (Y.litB true (Y.eql rfl rfl) (congrArg Value.bool (decide_eq_true wtC))) rfl ?_
    refine HL.take 46 rfl KR KR KR rfl (Y.pickT rfl rfl) rfl ?_
    refine HL.take 47 rfl KR KR KR rfl (Y.move rfl) rfl ?_
    refine HL.take 48 rfl KR KR KR WG (Y.loadAllR rfl MM MM EL agg53) rfl ?_
    refine HL.step 49 rfl KR ?_
    refine RL.callv WG func27 rfl rfl (by exact size_ok _ _ _ _ valA _ rfl (by exact Kn.rds MM)) ?_
    refine RL.nil ⟨keep_more (hs163) SB, ?_⟩
    refine HL.take 50 rfl KR KR KR WG (Y.litB true (Y.eql rfl rfl) (congrArg Value.bool (decide_eq_true szA))) rfl ?_
    refine HL.take 51 rfl KR KR KR rfl (Y.pickT rfl rfl) rfl ?_
    refine HL.take 52 rfl KR KR KR rfl (Y.assign rfl) rfl ?_
    refine HL.done KR ?_
    refine hK20 _ _ _ ?_
    refine CW.kp [0] rfl ?_
    refine CW.ret ?_
    exact ⟨_, rfl, Turn.back hw1 (hs22.trans (hs30.trans (hs36.trans (hsb41.trans (hsb43.trans (hsb46.trans (hsb50.trans (hsb53.trans (hsb57.trans (hsb61.trans (hsb64.trans (hs66.trans (hs69.trans (hs163)))))))))))))) ⟨rfl, rfl, rfl⟩ SB⟩
   refine RL.alloc _ zero46 rfl rfl fun b18 => ?_
   refine RL.nil ⟨keep_same SB, ?_⟩
   refine HL.step 2 rfl KR ?_
   refine RL.call rfl func19 rfl rfl (by exact def_ok _ _ _ exP _ (idK 2) (by exact Kn.rds MM)) ?_
   rintro v103 M69 _ ⟨rfl, rfl, us103, rfl, hr103⟩
   rw [dB1] at hr103
   rw [dB2]
   refine RL.addRds hr103 ?_
   refine RL.nil ⟨keep_same SB, ?_⟩
   refine HL.take 3 rfl KR KR KR rfl (Y.move rfl) rfl ?_
   refine HL.take 4 rfl KR KR KR rfl (Y.extract rfl rfl) rfl ?_
   refine HL.take 5 rfl KR KR KR rfl (Y.extract rfl rfl) rfl ?_
   refine HL.step 7 rfl KR ?_
   refine RL.storeRds 31 rfl rfl RP MM EL (by first | exact Kn.lenRds MM EL | exact Kn.lenLit rfl) size46 ?_
   refine RL.nil ⟨keep_same SB, ?_⟩
   refine HL.take 8 rfl KR KR KR rfl (Y.assign rfl) rfl ?_
   refine HL.done KR ?_
   refine hK17 _ _ _ ?_
   refine CW.kp [1, 2, 3, 4, 6, 8, 9, 10, 11, 12, 13, 18, 19] rfl ?_
   refine CW.seq fun K21 hK21 => ?_
   refine CW.regionQ mix KR ?_
   refine QL.q (Y.loadAllR rfl MM MM EL agg26) rfl ?_
   refine QL.q (Y.loadAll rfl MM (by rfl) agg31) rfl ?_
   refine QL.callv rfl func15 rfl rfl (by exact fun _ hC => CallOk.val (validType_ok _ _ _ exP _ tyB _ (Kn.via hC (by exact Kn.rds MM)) (Kn.via hC (Kn.of (ty_rd (idK 2))))) (v' := .bool true) (congrArg Value.bool vB)) ?_
   refine QL.q (Y.move rfl) rfl ?_
   refine QL.qg WG (Y.loadAllR rfl MM MM EL agg26) rfl ?_
   refine QL.callv WG func14 rfl rfl (by exact fun _ hC => id_ok _ _ _ _ AO AO) ?_
   refine QL.callv WG func13 rfl rfl (by exact fun _ hC => of_ok _ _ _ _) ?_
   refine QL.callv WG func15 rfl rfl (by exact fun _ hC => CallOk.val (validType_ok _ _ _ exP _ tyC _ (Kn.via hC (by exact Kn.rds MM)) (Kn.via hC (Kn.of (ty_rd (idK 3))))) (v' := .bool false) (congrArg Value.bool vC)) ?_
   refine QL.qg WG (Y.not rfl) rfl ?_
   refine QL.q (Y.pickT rfl rfl) rfl ?_
   refine QL.q (Y.move rfl) rfl ?_
   refine QL.qg WG (Y.loadAll rfl MM (by rfl) agg31) rfl ?_
   refine QL.qg WG (Y.loadAll rfl MM (by rfl) agg31) rfl ?_
   refine QL.callv WG func17 rfl rfl (by exact fun _ hC => CallOk.val (sameTy_ok _ _ _ _ tyB _ tyB _ rfl (Kn.via hC (Kn.of (ty_rd (idK 2)))) (Kn.via hC (Kn.of (ty_rd (idK 2))))) (v' := .bool true) (congrArg Value.bool sBB)) ?_
   refine QL.q (Y.pickT rfl rfl) rfl ?_
   refine QL.q (Y.move rfl) rfl ?_
   refine QL.qg WG (Y.loadAll rfl MM (by rfl) agg31) rfl ?_
   refine QL.qg WG (Y.loadAll rfl MM (by rfl) agg31) rfl ?_
   refine QL.callv WG func17 rfl rfl (by exact fun _ hC => CallOk.val (sameTy_ok _ _ _ _ tyB _ tyA _ rfl (Kn.via hC (Kn.of (ty_rd (idK 2)))) (Kn.via hC (Kn.of (ty_rd (idK 1))))) (v' := .bool false) (congrArg Value.bool sBA)) ?_
   refine QL.qg WG (Y.not rfl) rfl ?_
   refine QL.q (Y.pickT rfl rfl) rfl ?_
   refine QL.q (Y.assign rfl) rfl ?_
   refine QL.nil ?_
   refine hK21 _ _ _ ?_
   refine CW.kp [1, 3, 4, 6, 8, 9, 10, 11, 12, 13, 18, 19, 20] rfl ?_
   refine CW.seq fun K22 hK22 => ?_
   refine CW.region ?_
   refine RL.callv rfl func26 rfl rfl (by exact num_ok _ _ _ _) ?_
   refine RL.q (Y.build [_, _, _] rfl zero53 places53 (by rfl)) rfl ?_
   refine RL.callv rfl func31 rfl rfl (by exact cmpV_ok _ _ _ _ (vnum 2) _ valI _ rfl (Kn.of (leaf_rd 0 2)) (Kn.of (leaf_rd 1 1))) ?_
   refine RL.q (Y.litB true (Y.eql rfl rfl) (congrArg Value.bool (decide_eq_true c1))) rfl ?_
   refine RL.q (Y.move rfl) rfl ?_
   refine RL.qg WG (Y.loadAllR rfl MM MM EL agg53) rfl ?_
   refine RL.qg WG (Y.loadAllR rfl MM MM EL agg53) rfl ?_
   refine RL.callv WG func31 rfl rfl (by exact cmpV_ok _ _ _ _ valD _ valE _ rfl (by exact Kn.rds MM) (by exact Kn.rds MM)) ?_
   refine RL.qg WG (Y.litB true (Y.eql rfl rfl) (congrArg Value.bool (decide_eq_true c2))) rfl ?_
   refine RL.q (Y.pickT rfl rfl) rfl ?_
   refine RL.q (Y.move rfl) rfl ?_
   refine RL.qg WG (Y.loadAllR rfl MM MM EL agg53) rfl ?_
   refine RL.qg WG (Y.loadAllR rfl MM MM EL agg53) rfl ?_
   refine RL.callv WG func31 rfl rfl (by exact cmpV_ok _ _ _ _ valE _ valD _ rfl (by exact Kn.rds MM) (by exact Kn.rds MM)) ?_
   refine RL.qg WG (Y.litB true (Y.eql rfl rfl) (congrArg Value.bool (decide_eq_true c3))) rfl ?_
   refine RL.q (Y.pickT rfl rfl) rfl ?_
   refine RL.q (Y.assign rfl) rfl ?_
   refine RL.nil ?_
   refine hK22 _ _ _ ?_
   refine CW.kp [1, 3, 4, 6, 8, 9, 10, 13, 18, 19, 20, 21] rfl ?_
   refine CW.seq fun K23 hK23 => ?_
   refine CW.regionH mix _ _ (fun _ hw => hw) ?_
   refine HL.take 0 rfl KR KR KR rfl (Y.move rfl) rfl ?_
   refine HL.take 1 rfl KR KR KR rfl (Y.move rfl) rfl ?_
   refine HL.take 2 rfl KR KR KR WG (Y.move rfl) rfl ?_
   refine HL.take 3 rfl KR KR KR rfl (Y.pickT rfl rfl) rfl ?_
   refine HL.take 4 rfl KR KR KR rfl (Y.move rfl) rfl ?_
   refine HL.take 5 rfl KR KR KR WG (Y.move rfl) rfl ?_
   refine HL.take 6 rfl KR KR KR rfl (Y.pickT rfl rfl) rfl ?_
   refine HL.take 7 rfl KR KR KR rfl (Y.move rfl) rfl ?_
   refine HL.take 8 rfl KR KR KR WG (Y.field rfl field46_3) rfl ?_
   refine HL.take 9 rfl KR KR KR WG (Y.loadOwnV rfl MM MM (by rfl) flat9) rfl ?_
   refine HL.take 10 rfl KR KR KR WG (Y.litB true (Y.eqlS rfl rfl) (congrArg Value.bool (decide_eq_true rfl))) rfl ?_
   refine HL.take 11 rfl KR KR KR rfl (Y.pickT rfl rfl) rfl ?_
   refine HL.take 12 rfl KR KR KR rfl (Y.move rfl) rfl ?_
   refine HL.take 13 rfl KR KR KR WG (Y.loadAllR rfl MM MM EL agg53) rfl ?_
   refine HL.take 14 rfl KR KR KR WG (Y.loadAllR rfl MM MM EL agg53) rfl ?_
   refine HL.step 15 rfl KR ?_
   refine RL.callv WG func35 rfl rfl (by exact CallOk.val (same_ok _ _ _ valF _ valF _ (by exact Kn.rds MM) (by exact Kn.rds MM)) (v' := .bool true) (congrArg Value.bool eA)) ?_
   refine RL.nil ⟨keep_same SB, ?_⟩
   refine HL.take 16 rfl KR KR KR rfl (Y.pickT rfl rfl) rfl ?_
   refine HL.take 17 rfl KR KR KR rfl (Y.move rfl) rfl ?_
   refine HL.take 18 rfl KR KR KR WG (Y.loadAllR rfl MM MM EL agg53) rfl ?_
   refine HL.step 19 rfl KR ?_
   refine RL.callv WG func26 rfl rfl (by exact num_ok _ _ _ _) ?_
   refine RL.nil ⟨keep_same SB, ?_⟩
   refine HL.step 20 rfl KR ?_
   refine RL.unguard WG ?_
   refine RL.buildSlice (nvs 0) elem51 rfl (by decide) (fill1 rfl rfl) rfl fun b163 => ?_
   refine RL.sealOwn (b := b163) (k := 1) (sz := 3) (ds := [vnum 0].flatMap Val.enc) PK (kids1 (leaf_rd 0 0)) rfl (by unfold lim; omega) fun M163 hs163 hr163 => ?_
   refine RL.addRd hr163 ?_
   refine RL.nil ⟨keep_more (hs163) SB, ?_⟩
   refine HL.take 21 rfl KR KR KR WG (Y.build [_, _, _] rfl zero53 places53 (by rfl)) rfl ?_
   refine HL.step 22 rfl KR ?_
   refine RL.callv WG func35 rfl rfl (by exact CallOk.val (same_ok _ _ _ valH _ valH _ (by exact Kn.rds MM) (Kn.of (node_rd 3 0 [vnum 0] hr163))) (v' := .bool true) (congrArg Value.bool eB)) ?_
   refine RL.nil ⟨keep_more (hs163) SB, ?_⟩
   refine HL.take 23 rfl KR KR KR rfl (Y.pickT rfl rfl) rfl ?_
   refine HL.take 24 rfl KR KR KR rfl (Y.move rfl) rfl ?_
   refine HL.take 25 rfl KR KR KR WG (Y.loadAllR rfl MM MM EL agg26) rfl ?_
   refine HL.take 26 rfl KR KR KR WG (Y.loadAll rfl MM (by rfl) agg31) rfl ?_
   refine HL.take 27 rfl KR KR KR WG (Y.loadAllR rfl MM MM EL agg53) rfl ?_
   refine HL.step 28 rfl KR ?_
   refine RL.callv WG func24 rfl rfl (by exact CallOk.val (valid_ok _ _ _ exP _ tyB _ valA _ (by exact Kn.rds MM) (Kn.of (ty_rd (idK 2))) (by exact Kn.rds MM)) (v' := .bool true) (congrArg Value.bool wA)) ?_
   refine RL.nil ⟨keep_more (hs163) SB, ?_⟩
   refine HL.take 29 rfl KR KR KR rfl (Y.pickT rfl rfl) rfl ?_
   refine HL.take 30 rfl KR KR KR rfl (Y.move rfl) rfl ?_
   refine HL.take 31 rfl KR KR KR WG (Y.loadAllR rfl MM MM EL agg26) rfl ?_
   refine HL.take 32 rfl KR KR KR WG (Y.loadAll rfl MM (by rfl) agg31) rfl ?_
   refine HL.take 33 rfl KR KR KR WG (Y.loadAllR rfl MM MM EL agg53) rfl ?_
   refine HL.step 34 rfl KR ?_
   refine RL.callv WG func24 rfl rfl (by exact CallOk.val (valid_ok _ _ _ exP _ tyB _ valB _ (by exact Kn.rds MM) (Kn.of (ty_rd (idK 2))) (by exact Kn.rds MM)) (v' := .bool false) (congrArg Value.bool wB)) ?_
   refine RL.nil ⟨keep_more (hs163) SB, ?_⟩
   refine HL.take 35 rfl KR KR KR WG (Y.not rfl) rfl ?_
   refine HL.take 36 rfl KR KR KR rfl (Y.pickT rfl rfl) rfl ?_
   refine HL.take 37 rfl KR KR KR rfl (Y.move rfl) rfl ?_
   refine HL.take 38 rfl KR KR KR WG (Y.loadAllR rfl MM MM EL agg53) rfl ?_
   refine HL.step 39 rfl KR ?_
   refine RL.callv WG func29 rfl rfl (by exact weight_ok _ _ _ _ valA _ rfl (by exact Kn.rds MM) okA) ?_
   refine RL.nil ⟨keep_more (hs163) SB, ?_⟩
   refine HL.take 40 rfl KR KR KR WG (Y.litB true (Y.eql rfl rfl) (congrArg Value.bool (decide_eq_true wtA))) rfl ?_
   refine HL.take 41 rfl KR KR KR rfl (Y.pickT rfl rfl) rfl ?_
   refine HL.take 42 rfl KR KR KR rfl (Y.move rfl) rfl ?_
   refine HL.take 43 rfl KR KR KR WG (Y.loadAllR rfl MM MM EL agg53) rfl ?_
   refine HL.step 44 rfl KR ?_
   refine RL.callv WG func29 rfl rfl (by exact weight_ok _ _ _ _ valC _ rfl (by exact Kn.rds MM) okC) ?_
   refine RL.nil ⟨keep_more (hs163) SB, ?_⟩
   refine HL.take 45 rfl KR KR KR WG (Y.litB true (Y.eql rfl rfl) (congrArg Value.bool (decide_eq_true wtC))) rfl ?_
   refine HL.take 46 rfl KR KR KR rfl (Y.pickT rfl rfl) rfl ?_
   refine HL.take 47 rfl KR KR KR rfl (Y.move rfl) rfl ?_
   refine HL.take 48 rfl KR KR KR WG (Y.loadAllR rfl MM MM EL agg53) rfl ?_
   refine HL.step 49 rfl KR ?_
   refine RL.callv WG func27 rfl rfl (by exact size_ok _ _ _ _ valA _ rfl (by exact Kn.rds MM)) ?_
   refine RL.nil ⟨keep_more (hs163) SB, ?_⟩
   refine HL.take 50 rfl KR KR KR WG (Y.litB true (Y.eql rfl rfl) (congrArg Value.bool (decide_eq_true szA))) rfl ?_
   refine HL.take 51 rfl KR KR KR rfl (Y.pickT rfl rfl) rfl ?_
   refine HL.take 52 rfl KR KR KR rfl (Y.assign rfl) rfl ?_
   refine HL.done KR ?_
   refine hK23 _ _ _ ?_
   refine CW.kp [0] rfl ?_
   refine CW.ret ?_
   exact ⟨_, rfl, Turn.back hw1 (hs22.trans (hs30.trans (hs36.trans (hsb41.trans (hsb43.trans (hsb46.trans (hsb50.trans (hsb53.trans (hsb57.trans (hsb61.trans (hsb64.trans (hs66.trans (hs69.trans (hs163)))))))))))))) ⟨rfl, rfl, rfl⟩ SB⟩
  refine RL.alloc _ zero46 rfl rfl fun b18 => ?_
  refine RL.nil ⟨keep_same SB, ?_⟩
  refine HL.step 1 rfl KR ?_
  refine RL.callv rfl func14 rfl rfl (by exact id_ok _ _ _ _ AO AO) ?_
  refine RL.nil ⟨keep_same SB, ?_⟩
  refine HL.step 2 rfl KR ?_
  refine RL.call rfl func19 rfl rfl (by exact def_ok _ _ _ exP _ (idK 2) (by exact Kn.rds MM)) ?_
  rintro v103 M69 _ ⟨rfl, rfl, us103, rfl, hr103⟩
  rw [dB1] at hr103
  rw [dB2]
  refine RL.addRds hr103 ?_
  refine RL.nil ⟨keep_same SB, ?_⟩
  refine HL.take 3 rfl KR KR KR rfl (Y.move rfl) rfl ?_
  refine HL.take 4 rfl KR KR KR rfl (Y.extract rfl rfl) rfl ?_
  refine HL.take 5 rfl KR KR KR rfl (Y.extract rfl rfl) rfl ?_
  refine HL.step 7 rfl KR ?_
  refine RL.storeRds 31 rfl rfl RP MM EL (by first | exact Kn.lenRds MM EL | exact Kn.lenLit rfl) size46 ?_
  refine RL.nil ⟨keep_same SB, ?_⟩
  refine HL.take 8 rfl KR KR KR rfl (Y.assign rfl) rfl ?_
  refine HL.done KR ?_
  refine hK17 _ _ _ ?_
  refine CW.kp [1, 2, 3, 4, 6, 8, 9, 10, 11, 12, 13, 18, 19] rfl ?_
  refine CW.seq fun K24 hK24 => ?_
  refine CW.regionQ mix KR ?_
  refine QL.q (Y.loadAllR rfl MM MM EL agg26) rfl ?_
  refine QL.q (Y.loadAll rfl MM (by rfl) agg31) rfl ?_
  refine QL.callv rfl func15 rfl rfl (by exact fun _ hC => CallOk.val (validType_ok _ _ _ exP _ tyB _ (Kn.via hC (by exact Kn.rds MM)) (Kn.via hC (Kn.of (ty_rd (idK 2))))) (v' := .bool true) (congrArg Value.bool vB)) ?_
  refine QL.q (Y.move rfl) rfl ?_
  refine QL.qg WG (Y.loadAllR rfl MM MM EL agg26) rfl ?_
  refine QL.callv WG func14 rfl rfl (by exact fun _ hC => id_ok _ _ _ _ AO AO) ?_
  refine QL.callv WG func13 rfl rfl (by exact fun _ hC => of_ok _ _ _ _) ?_
  refine QL.callv WG func15 rfl rfl (by exact fun _ hC => CallOk.val (validType_ok _ _ _ exP _ tyC _ (Kn.via hC (by exact Kn.rds MM)) (Kn.via hC (Kn.of (ty_rd (idK 3))))) (v' := .bool false) (congrArg Value.bool vC)) ?_
  refine QL.qg WG (Y.not rfl) rfl ?_
  refine QL.q (Y.pickT rfl rfl) rfl ?_
  refine QL.q (Y.move rfl) rfl ?_
  refine QL.qg WG (Y.loadAll rfl MM (by rfl) agg31) rfl ?_
  refine QL.qg WG (Y.loadAll rfl MM (by rfl) agg31) rfl ?_
  refine QL.callv WG func17 rfl rfl (by exact fun _ hC => CallOk.val (sameTy_ok _ _ _ _ tyB _ tyB _ rfl (Kn.via hC (Kn.of (ty_rd (idK 2)))) (Kn.via hC (Kn.of (ty_rd (idK 2))))) (v' := .bool true) (congrArg Value.bool sBB)) ?_
  refine QL.q (Y.pickT rfl rfl) rfl ?_
  refine QL.q (Y.move rfl) rfl ?_
  refine QL.qg WG (Y.loadAll rfl MM (by rfl) agg31) rfl ?_
  refine QL.qg WG (Y.loadAll rfl MM (by rfl) agg31) rfl ?_
  refine QL.callv WG func17 rfl rfl (by exact fun _ hC => CallOk.val (sameTy_ok _ _ _ _ tyB _ tyA _ rfl (Kn.via hC (Kn.of (ty_rd (idK 2)))) (Kn.via hC (Kn.of (ty_rd (idK 1))))) (v' := .bool false) (congrArg Value.bool sBA)) ?_
  refine QL.qg WG (Y.not rfl) rfl ?_
  refine QL.q (Y.pickT rfl rfl) rfl ?_
  refine QL.q (Y.assign rfl) rfl ?_
  refine QL.nil ?_
  refine hK24 _ _ _ ?_
  refine CW.kp [1, 3, 4, 6, 8, 9, 10, 11, 12, 13, 18, 19, 20] rfl ?_
  refine CW.seq fun K25 hK25 => ?_
  refine CW.region ?_
  refine RL.callv rfl func26 rfl rfl (by exact num_ok _ _ _ _) ?_
  refine RL.q (Y.build [_, _, _] rfl zero53 places53 (by rfl)) rfl ?_
  refine RL.callv rfl func31 rfl rfl (by exact cmpV_ok _ _ _ _ (vnum 2) _ valI _ rfl (Kn.of (leaf_rd 0 2)) (Kn.of (leaf_rd 1 1))) ?_
  refine RL.q (Y.litB true (Y.eql rfl rfl) (congrArg Value.bool (decide_eq_true c1))) rfl ?_
  refine RL.q (Y.move rfl) rfl ?_
  refine RL.qg WG (Y.loadAllR rfl MM MM EL agg53) rfl ?_
  refine RL.qg WG (Y.loadAllR rfl MM MM EL agg53) rfl ?_
  refine RL.callv WG func31 rfl rfl (by exact cmpV_ok _ _ _ _ valD _ valE _ rfl (by exact Kn.rds MM) (by exact Kn.rds MM)) ?_
  refine RL.qg WG (Y.litB true (Y.eql rfl rfl) (congrArg Value.bool (decide_eq_true c2))) rfl ?_
  refine RL.q (Y.pickT rfl rfl) rfl ?_
  refine RL.q (Y.move rfl) rfl ?_
  refine RL.qg WG (Y.loadAllR rfl MM MM EL agg53) rfl ?_
  refine RL.qg WG (Y.loadAllR rfl MM MM EL agg53) rfl ?_
  refine RL.callv WG func31 rfl rfl (by exact cmpV_ok _ _ _ _ valE _ valD _ rfl (by exact Kn.rds MM) (by exact Kn.rds MM)) ?_
  refine RL.qg WG (Y.litB true (Y.eql rfl rfl) (congrArg Value.bool (decide_eq_true c3))) rfl ?_
  refine RL.q (Y.pickT rfl rfl) rfl ?_
  refine RL.q (Y.assign rfl) rfl ?_
  refine RL.nil ?_
  refine hK25 _ _ _ ?_
  refine CW.kp [1, 3, 4, 6, 8, 9, 10, 13, 18, 19, 20, 21] rfl ?_
  refine CW.seq fun K26 hK26 => ?_
  refine CW.regionH mix _ _ (fun _ hw => hw) ?_
  refine HL.take 0 rfl KR KR KR rfl (Y.move rfl) rfl ?_
  refine HL.take 1 rfl KR KR KR rfl (Y.move rfl) rfl ?_
  refine HL.take 2 rfl KR KR KR WG (Y.move rfl) rfl ?_
  refine HL.take 3 rfl KR KR KR rfl (Y.pickT rfl rfl) rfl ?_
  refine HL.take 4 rfl KR KR KR rfl (Y.move rfl) rfl ?_
  refine HL.take 5 rfl KR KR KR WG (Y.move rfl) rfl ?_
  refine HL.take 6 rfl KR KR KR rfl (Y.pickT rfl rfl) rfl ?_
  refine HL.take 7 rfl KR KR KR rfl (Y.move rfl) rfl ?_
  refine HL.take 8 rfl KR KR KR WG (Y.field rfl field46_3) rfl ?_
  refine HL.take 9 rfl KR KR KR WG (Y.loadOwnV rfl MM MM (by rfl) flat9) rfl ?_
  refine HL.take 10 rfl KR KR KR WG (Y.litB true (Y.eqlS rfl rfl) (congrArg Value.bool (decide_eq_true rfl))) rfl ?_
  refine HL.take 11 rfl KR KR KR rfl (Y.pickT rfl rfl) rfl ?_
  refine HL.take 12 rfl KR KR KR rfl (Y.move rfl) rfl ?_
  refine HL.take 13 rfl KR KR KR WG (Y.loadAllR rfl MM MM EL agg53) rfl ?_
  refine HL.take 14 rfl KR KR KR WG (Y.loadAllR rfl MM MM EL agg53) rfl ?_
  refine HL.step 15 rfl KR ?_
  refine RL.callv WG func35 rfl rfl (by exact CallOk.val (same_ok _ _ _ valF _ valF _ (by exact Kn.rds MM) (by exact Kn.rds MM)) (v' := .bool true) (congrArg Value.bool eA)) ?_
  refine RL.nil ⟨keep_same SB, ?_⟩
  refine HL.take 16 rfl KR KR KR rfl (Y.pickT rfl rfl) rfl ?_
  refine HL.take 17 rfl KR KR KR rfl (Y.move rfl) rfl ?_
  refine HL.take 18 rfl KR KR KR WG (Y.loadAllR rfl MM MM EL agg53) rfl ?_
  refine HL.step 19 rfl KR ?_
  refine RL.callv WG func26 rfl rfl (by exact num_ok _ _ _ _) ?_
  refine RL.nil ⟨keep_same SB, ?_⟩
  refine HL.step 20 rfl KR ?_
  refine RL.unguard WG ?_
  refine RL.buildSlice (nvs 0) elem51 rfl (by decide) (fill1 rfl rfl) rfl fun b163 => ?_
  refine RL.sealOwn (b := b163) (k := 1) (sz := 3) (ds := [vnum 0].flatMap Val.enc) PK (kids1 (leaf_rd 0 0)) rfl (by unfold lim; omega) fun M163 hs163 hr163 => ?_
  refine RL.addRd hr163 ?_
  refine RL.nil ⟨keep_more (hs163) SB, ?_⟩
  refine HL.take 21 rfl KR KR KR WG (Y.build [_, _, _] rfl zero53 places53 (by rfl)) rfl ?_
  refine HL.step 22 rfl KR ?_
  refine RL.callv WG func35 rfl rfl (by exact CallOk.val (same_ok _ _ _ valH _ valH _ (by exact Kn.rds MM) (Kn.of (node_rd 3 0 [vnum 0] hr163))) (v' := .bool true) (congrArg Value.bool eB)) ?_
  refine RL.nil ⟨keep_more (hs163) SB, ?_⟩
  refine HL.take 23 rfl KR KR KR rfl (Y.pickT rfl rfl) rfl ?_
  refine HL.take 24 rfl KR KR KR rfl (Y.move rfl) rfl ?_
  refine HL.take 25 rfl KR KR KR WG (Y.loadAllR rfl MM MM EL agg26) rfl ?_
  refine HL.take 26 rfl KR KR KR WG (Y.loadAll rfl MM (by rfl) agg31) rfl ?_
  refine HL.take 27 rfl KR KR KR WG (Y.loadAllR rfl MM MM EL agg53) rfl ?_
  refine HL.step 28 rfl KR ?_
  refine RL.callv WG func24 rfl rfl (by exact CallOk.val (valid_ok _ _ _ exP _ tyB _ valA _ (by exact Kn.rds MM) (Kn.of (ty_rd (idK 2))) (by exact Kn.rds MM)) (v' := .bool true) (congrArg Value.bool wA)) ?_
  refine RL.nil ⟨keep_more (hs163) SB, ?_⟩
  refine HL.take 29 rfl KR KR KR rfl (Y.pickT rfl rfl) rfl ?_
  refine HL.take 30 rfl KR KR KR rfl (Y.move rfl) rfl ?_
  refine HL.take 31 rfl KR KR KR WG (Y.loadAllR rfl MM MM EL agg26) rfl ?_
  refine HL.take 32 rfl KR KR KR WG (Y.loadAll rfl MM (by rfl) agg31) rfl ?_
  refine HL.take 33 rfl KR KR KR WG (Y.loadAllR rfl MM MM EL agg53) rfl ?_
  refine HL.step 34 rfl KR ?_
  refine RL.callv WG func24 rfl rfl (by exact CallOk.val (valid_ok _ _ _ exP _ tyB _ valB _ (by exact Kn.rds MM) (Kn.of (ty_rd (idK 2))) (by exact Kn.rds MM)) (v' := .bool false) (congrArg Value.bool wB)) ?_
  refine RL.nil ⟨keep_more (hs163) SB, ?_⟩
  refine HL.take 35 rfl KR KR KR WG (Y.not rfl) rfl ?_
  refine HL.take 36 rfl KR KR KR rfl (Y.pickT rfl rfl) rfl ?_
  refine HL.take 37 rfl KR KR KR rfl (Y.move rfl) rfl ?_
  refine HL.take 38 rfl KR KR KR WG (Y.loadAllR rfl MM MM EL agg53) rfl ?_
  refine HL.step 39 rfl KR ?_
  refine RL.callv WG func29 rfl rfl (by exact weight_ok _ _ _ _ valA _ rfl (by exact Kn.rds MM) okA) ?_
  refine RL.nil ⟨keep_more (hs163) SB, ?_⟩
  refine HL.take 40 rfl KR KR KR WG (Y.litB true (Y.eql rfl rfl) (congrArg Value.bool (decide_eq_true wtA))) rfl ?_
  refine HL.take 41 rfl KR KR KR rfl (Y.pickT rfl rfl) rfl ?_
  refine HL.take 42 rfl KR KR KR rfl (Y.move rfl) rfl ?_
  refine HL.take 43 rfl KR KR KR WG (Y.loadAllR rfl MM MM EL agg53) rfl ?_
  refine HL.step 44 rfl KR ?_
  refine RL.callv WG func29 rfl rfl (by exact weight_ok _ _ _ _ valC _ rfl (by exact Kn.rds MM) okC) ?_
  refine RL.nil ⟨keep_more (hs163) SB, ?_⟩
  refine HL.take 45 rfl KR KR KR WG (Y.litB true (Y.eql rfl rfl) (congrArg Value.bool (decide_eq_true wtC))) rfl ?_
  refine HL.take 46 rfl KR KR KR rfl (Y.pickT rfl rfl) rfl ?_
  refine HL.take 47 rfl KR KR KR rfl (Y.move rfl) rfl ?_
  refine HL.take 48 rfl KR KR KR WG (Y.loadAllR rfl MM MM EL agg53) rfl ?_
  refine HL.step 49 rfl KR ?_
  refine RL.callv WG func27 rfl rfl (by exact size_ok _ _ _ _ valA _ rfl (by exact Kn.rds MM)) ?_
  refine RL.nil ⟨keep_more (hs163) SB, ?_⟩
  refine HL.take 50 rfl KR KR KR WG (Y.litB true (Y.eql rfl rfl) (congrArg Value.bool (decide_eq_true szA))) rfl ?_
  refine HL.take 51 rfl KR KR KR rfl (Y.pickT rfl rfl) rfl ?_
  refine HL.take 52 rfl KR KR KR rfl (Y.assign rfl) rfl ?_
  refine HL.done KR ?_
  refine hK26 _ _ _ ?_
  refine CW.kp [0] rfl ?_
  refine CW.ret ?_
  exact ⟨_, rfl, Turn.back hw1 (hs22.trans (hs30.trans (hs36.trans (hsb41.trans (hsb43.trans (hsb46.trans (hsb50.trans (hsb53.trans (hsb57.trans (hsb61.trans (hsb64.trans (hs66.trans (hs69.trans (hs163)))))))))))))) ⟨rfl, rfl, rfl⟩ SB⟩
end Go.Proofs.Ytfgkhhfkodlbpaa
