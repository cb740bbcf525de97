/- THE WALKS, 22: the examples of the statements. Printed by m16v.py. -/
import Derived.Test.YtjkcjbicleohkaaWu
import Derived.Test.YtjkcjbicleohkaaLives
namespace Go.Proofs.Ytjkcjbicleohkaa
open Xe

theorem costA_ok (w0 : World) (M : Mem) (Γ : List As) (us vs : List Value) (ul : Value) (hv1 : RdL M EA.enc us) (hv2 : RdL M EB.enc vs) (hl : Rd M (PairD.encs PA) ul) :
    CallOk Try.prog w0 M Γ 23 #[.agg us.toArray, .agg vs.toArray, ul] (Is M Γ (.tuple #[vint 6, vint 0])) := by
  have h := mCost_ok w0 M Γ EA EB us vs PA ul hv1 hv2 hl (by decide)
  rw [costA] at h
  exact h
theorem costX_ok (w0 : World) (M : Mem) (Γ : List As) (us vs : List Value) (ul : Value) (hv1 : RdL M EA.enc us) (hv2 : RdL M EB.enc vs) (hl : Rd M (PairD.encs PX) ul) :
    CallOk Try.prog w0 M Γ 23 #[.agg us.toArray, .agg vs.toArray, ul] (Is M Γ (.tuple #[vint 0, vint 27])) := by
  have h := mCost_ok w0 M Γ EA EB us vs PX ul hv1 hv2 hl (by decide)
  rw [costX] at h
  exact h
theorem checkAB_ok (w0 : World) (M : Mem) (Γ : List As) (us vs : List Value) (l : List PairD) (ul ud : Value) (d : List (List Int)) (hv1 : RdL M EA.enc us) (hv2 : RdL M EB.enc vs) (hl : Rd M (PairD.encs l) ul) (hll : l.length ≤ 1000) (hd : Rd M (dtab d) ud) (hc : CheckP EA EB l 2 d) :
    CallOk Try.prog w0 M Γ 25 #[.agg us.toArray, .agg vs.toArray, ul, vint 2, ud] (Is M Γ (vint 0)) := by
  have h := mCheck_ok w0 M Γ EA EB us vs l ul 2 d ud hv1 hv2 hl hll hd
  rw [CheckR_yes goodAB hc] at h
  exact h

set_option maxHeartbeats 2000000 in
theorem lives_ok (w0 : World) (M : Mem) (Γ : List As) :
    CallOk Try.prog w0 M Γ 21 #[] (Is M Γ (.bool true)) := by
  refine enter (f := 21) Try.func21 rfl Try.ntmps21 rfl rfl fun w1 hw1 => ?_
  refine CW.seq fun K1 hK1 => ?_
  refine CW.region ?_
  refine RL.q (Y.assign rfl) rfl ?_
  refine RL.nil ?_
  refine hK1 _ _ _ ?_
  refine CW.keep (Keep.nil _) ?_
  refine CW.seq fun K2 hK2 => ?_
  refine CW.region ?_
  refine RL.call rfl func44 rfl rfl (numberE_ok _ _ _ 1 1) ?_
  rintro _ M11 Γ ⟨hs11, rfl, us11, rfl, hu11⟩
  have hul11 : us11.length = 15 := hu11.1.trans (Ex.enc_len _)
  refine RL.call rfl func44 rfl rfl (numberE_ok _ _ _ 2 2) ?_
  rintro _ M12 Γ ⟨hs12, rfl, us12, rfl, hu12⟩
  have hul12 : us12.length = 15 := hu12.1.trans (Ex.enc_len _)
  refine RL.buildSlice (us11 ++ us12) elem28 rfl (by decide) (fill2 rfl hul11 rfl hul12) rfl fun b13 => ?_
  refine RL.sealOwn (b := b13) (k := 2) (sz := 15) (ds := ([nE 1 1, nE 2 2] : List Ex).flatMap Ex.enc) (by repeat (first | exact Pick.here _ | apply Pick.there)) (by simpa [nE, oE] using (hu11.mono hs12).append hu12) (by simp [hul11, hul12]) (by unfold lim; omega) fun M13 hs13 hr13 => ?_
  refine RL.call rfl func43 rfl rfl (operation_ok _ _ _ 9 0 [nE 1 1, nE 2 2] _ hr13) ?_
  rintro _ M14 Γ ⟨hs14, rfl, us14, rfl, hu14⟩
  have hul14 : us14.length = 15 := hu14.1.trans (Ex.enc_len _)
  refine RL.alloc _ zero31 rfl rfl fun b1 => ?_
  refine RL.storeAgg us14 rfl rfl (by repeat (first | exact Repl.here _ | apply Repl.there)) (by simp [hul14]) (by simp [hul14]) (fun _ _ => hu14.one) (by rw [hul14]; exact size31) ?_
  refine RL.nil ?_
  refine hK2 _ _ _ ?_
  refine CW.keep (Keep.cons 1 rfl (Keep.nil _)) ?_
  refine CW.seq fun K3 hK3 => ?_
  refine CW.region ?_
  refine RL.call rfl func44 rfl rfl (numberE_ok _ _ _ 1 1) ?_
  rintro _ M15 Γ ⟨hs15, rfl, us15, rfl, hu15⟩
  have hul15 : us15.length = 15 := hu15.1.trans (Ex.enc_len _)
  refine RL.call rfl func44 rfl rfl (numberE_ok _ _ _ 2 2) ?_
  rintro _ M16 Γ ⟨hs16, rfl, us16, rfl, hu16⟩
  have hul16 : us16.length = 15 := hu16.1.trans (Ex.enc_len _)
  refine RL.call rfl func44 rfl rfl (numberE_ok _ _ _ 3 3) ?_
  rintro _ M17 Γ ⟨hs17, rfl, us17, rfl, hu17⟩
  have hul17 : us17.length = 15 := hu17.1.trans (Ex.enc_len _)
  refine RL.buildSlice (us16 ++ us17) elem28 rfl (by decide) (fill2 rfl hul16 rfl hul17) rfl fun b18 => ?_
  refine RL.sealOwn (b := b18) (k := 2) (sz := 15) (ds := ([nE 2 2, nE 3 3] : List Ex).flatMap Ex.enc) (by repeat (first | exact Pick.here _ | apply Pick.there)) (by simpa [nE, oE] using (hu16.mono hs17).append hu17) (by simp [hul16, hul17]) (by unfold lim; omega) fun M18 hs18 hr18 => ?_
  refine RL.call rfl func43 rfl rfl (operation_ok _ _ _ 5 2 [nE 2 2, nE 3 3] _ hr18) ?_
  rintro _ M19 Γ ⟨hs19, rfl, us19, rfl, hu19⟩
  have hul19 : us19.length = 15 := hu19.1.trans (Ex.enc_len _)
  refine RL.buildSlice (us15 ++ us19) elem28 rfl (by decide) (fill2 rfl hul15 rfl hul19) rfl fun b20 => ?_
  refine RL.sealOwn (b := b20) (k := 2) (sz := 15) (ds := ([nE 1 1, oE 5 2 [nE 2 2, nE 3 3]] : List Ex).flatMap Ex.enc) (by repeat (first | exact Pick.here _ | apply Pick.there)) (by simpa [nE, oE] using (hu15.mono (hs16.trans (hs17.trans (hs18.trans (hs19))))).append hu19) (by simp [hul15, hul19]) (by unfold lim; omega) fun M20 hs20 hr20 => ?_
  refine RL.call rfl func43 rfl rfl (operation_ok _ _ _ 9 0 [nE 1 1, oE 5 2 [nE 2 2, nE 3 3]] _ hr20) ?_
  rintro _ M21 Γ ⟨hs21, rfl, us21, rfl, hu21⟩
  have hul21 : us21.length = 15 := hu21.1.trans (Ex.enc_len _)
  refine RL.alloc _ zero31 rfl rfl fun b2 => ?_
  refine RL.storeAgg us21 rfl rfl (by repeat (first | exact Repl.here _ | apply Repl.there)) (by simp [hul21]) (by simp [hul21]) (fun _ _ => hu21.one) (by rw [hul21]; exact size31) ?_
  refine RL.nil ?_
  refine hK3 _ _ _ ?_
  refine CW.keep (Keep.cons 1 rfl (Keep.cons 2 rfl (Keep.nil _))) ?_
  refine CW.seq fun K4 hK4 => ?_
  refine CW.region ?_
  refine RL.q (Y.loadAll rfl (by repeat (first | exact List.Mem.head _ | apply List.Mem.tail)) hul14 agg31) rfl ?_
  refine RL.q (Y.loadAll rfl (by repeat (first | exact List.Mem.head _ | apply List.Mem.tail)) hul21 agg31) rfl ?_
  refine RL.call rfl func13 rfl rfl (match_ok _ _ _ EA EB us14 us21 (hu14.mono (hs15.trans (hs16.trans (hs17.trans (hs18.trans (hs19.trans (hs20.trans (hs21)))))))) hu21) ?_
  rintro v25 M25 _ ⟨hs25, rfl, hR⟩
  obtain ⟨d, n, Q, up, ud, rfl, hbest, hup, hud⟩ := hR.1 goodAB
  obtain ⟨rfl, hQ⟩ := bestAB hbest
  obtain ⟨ap, cp, rfl, hcp, _, _⟩ := hup.slice
  obtain ⟨ad, cd, rfl, hcd, _, _⟩ := hud.slice
  refine RL.q (Y.move rfl) rfl ?_
  refine RL.q (Y.extract rfl rfl) rfl ?_
  refine RL.q (Y.extract rfl rfl) rfl ?_
  refine RL.q (Y.extract rfl rfl) rfl ?_
  refine RL.q (Y.assign rfl) rfl ?_
  refine RL.q (Y.assign rfl) rfl ?_
  refine RL.q (Y.assign rfl) rfl ?_
  refine RL.nil ?_
  refine hK4 _ _ _ ?_
  refine CW.keep (Keep.cons 1 rfl (Keep.cons 2 rfl (Keep.cons 3 rfl (Keep.cons 4 rfl (Keep.cons 5 rfl (Keep.nil _)))))) ?_
  refine CW.cut (fun L' M' Γ' => Keep L' [(6, vint 6), (7, vint 0), (1, .pointer (some (adr (some ⟨b1, 0, none⟩) 0))), (2, .pointer (some (adr (some ⟨b2, 0, none⟩) 0))), (3, .slice ap (Q.map (pairOf (pon EA 0) (pon EB 0))).length cp), (4, vint 2), (5, .slice ad d.length cd)] ∧ Xe.Sub M25 M' ∧ ∀ w, St w0 M' Γ' w → St w0 M' (.own b2 31 us21 :: .own b1 31 us14 :: Γ) w) ?_ ?_
  · refine CW.regionH mix _ [.own b2 31 us21, .own b1 31 us14] (fun _ hw => hw.sub (by repeat (first | exact List.Sublist.refl _ | exact List.nil_sublist _ | apply List.Sublist.cons_cons | apply List.Sublist.cons))) ?_
    refine HL.take 0 rfl (by kernel_rfl) (by kernel_rfl) (by kernel_rfl) rfl (Y.loadAll rfl (by repeat (first | exact List.Mem.head _ | apply List.Mem.tail)) hul14 agg31) rfl ?_
    refine HL.take 1 rfl (by kernel_rfl) (by kernel_rfl) (by kernel_rfl) rfl (Y.loadAll rfl (by repeat (first | exact List.Mem.head _ | apply List.Mem.tail)) hul21 agg31) rfl ?_
    refine HL.step 2 rfl (by kernel_rfl) ?_
    refine RL.callv rfl func45 rfl rfl (idN_ok _ _ _ _) ?_
    refine RL.nil ⟨keep_same (by repeat (first | exact List.Sublist.refl _ | exact List.nil_sublist _ | apply List.Sublist.cons_cons | apply List.Sublist.cons)), ?_⟩
    refine HL.step 3 rfl (by kernel_rfl) ?_
    refine RL.callv rfl func45 rfl rfl (idN_ok _ _ _ _) ?_
    refine RL.nil ⟨keep_same (by repeat (first | exact List.Sublist.refl _ | exact List.nil_sublist _ | apply List.Sublist.cons_cons | apply List.Sublist.cons)), ?_⟩
    refine HL.take 4 rfl (by kernel_rfl) (by kernel_rfl) (by kernel_rfl) rfl (Y.build (PairD.vals ⟨idN 9, idN 9⟩) rfl zero51 places51 (by rfl)) rfl ?_
    refine HL.step 5 rfl (by kernel_rfl) ?_
    refine RL.buildSlice (PairD.vals ⟨idN 9, idN 9⟩) elem34 rfl (by decide) (fill1 rfl rfl) rfl fun b35 => ?_
    refine RL.nil ⟨keep_same (by repeat (first | exact List.Sublist.refl _ | exact List.nil_sublist _ | apply List.Sublist.cons_cons | apply List.Sublist.cons)), ?_⟩
    refine HL.step 6 rfl (by kernel_rfl) ?_
    refine RL.sealOwn (b := b35) (k := 1) (sz := 6) (ds := PA.flatMap PairD.enc) (by repeat (first | exact Pick.here _ | apply Pick.there)) (by simpa [PA] using PairD.rd ⟨idN 9, idN 9⟩) rfl (by unfold lim; omega) fun M4 hs4 hp35 => ?_
    refine RL.callv rfl func23 rfl rfl (costA_ok _ _ _ us14 us21 _ (hu14.mono (hs15.trans (hs16.trans (hs17.trans (hs18.trans (hs19.trans (hs20.trans (hs21.trans (hs25.trans (hs4)))))))))) (hu21.mono (hs25.trans (hs4))) hp35) ?_
    refine RL.nil ⟨keep_more hs4 (by repeat (first | exact List.Sublist.refl _ | exact List.nil_sublist _ | apply List.Sublist.cons_cons | apply List.Sublist.cons)), ?_⟩
    refine HL.take 7 rfl (by kernel_rfl) (by kernel_rfl) (by kernel_rfl) rfl (Y.move rfl) rfl ?_
    refine HL.take 8 rfl (by kernel_rfl) (by kernel_rfl) (by kernel_rfl) rfl (Y.extract rfl rfl) rfl ?_
    refine HL.take 9 rfl (by kernel_rfl) (by kernel_rfl) (by kernel_rfl) rfl (Y.extract rfl rfl) rfl ?_
    refine HL.take 10 rfl (by kernel_rfl) (by kernel_rfl) (by kernel_rfl) rfl (Y.assign rfl) rfl ?_
    refine HL.take 11 rfl (by kernel_rfl) (by kernel_rfl) (by kernel_rfl) rfl (Y.assign rfl) rfl ?_
    refine HL.done (by kernel_rfl) ?_
    dsimp only [thenX]
    exact ⟨(by repeat (first | exact Keep.nil _ | refine Keep.cons _ rfl ?_)), hs4, fun _ hw => hw.sub (by repeat (first | exact List.Sublist.refl _ | apply List.Sublist.cons_cons | apply List.Sublist.cons))⟩
  · rintro _ M4 Γ4 ⟨hk4, hs4, hG4⟩
    refine CW.pre ?_ hk4 hG4
    refine CW.seq fun K5 hK5 => ?_
    refine CW.region ?_
    refine RL.callv rfl func45 rfl rfl (idN_ok _ _ _ _) ?_
    refine RL.callv rfl func45 rfl rfl (idN_ok _ _ _ _) ?_
    refine RL.q (Y.build (PairD.vals ⟨idN 9, idN 9⟩) rfl zero51 places51 (by rfl)) rfl ?_
    refine RL.callv rfl func45 rfl rfl (idN_ok _ _ _ _) ?_
    refine RL.callv rfl func45 rfl rfl (idN_ok _ _ _ _) ?_
    refine RL.q (Y.build (PairD.vals ⟨idN 1, idN 2⟩) rfl zero51 places51 (by rfl)) rfl ?_
    refine RL.callv rfl func45 rfl rfl (idN_ok _ _ _ _) ?_
    refine RL.callv rfl func45 rfl rfl (idN_ok _ _ _ _) ?_
    refine RL.q (Y.build (PairD.vals ⟨idN 2, idN 1⟩) rfl zero51 places51 (by rfl)) rfl ?_
    refine RL.buildSlice (PairD.vals ⟨idN 9, idN 9⟩ ++ PairD.vals ⟨idN 1, idN 2⟩ ++ PairD.vals ⟨idN 2, idN 1⟩) elem34 rfl (by decide) (fill3 rfl rfl rfl rfl rfl rfl) rfl fun b48 => ?_
    refine RL.q (Y.assign rfl) rfl ?_
    refine RL.nil ?_
    refine hK5 _ _ _ ?_
    refine CW.keep (Keep.cons 1 rfl (Keep.cons 2 rfl (Keep.cons 3 rfl (Keep.cons 4 rfl (Keep.cons 5 rfl (Keep.cons 6 rfl (Keep.cons 7 rfl (Keep.cons 8 rfl (Keep.nil _))))))))) ?_
    refine CW.sealOwn (b := b48) (k := 3) (sz := 6) (ds := PX.flatMap PairD.enc) (by repeat (first | exact Pick.here _ | apply Pick.there)) (by simpa [PX] using ((PairD.rd ⟨idN 9, idN 9⟩).append (PairD.rd ⟨idN 1, idN 2⟩)).append (PairD.rd ⟨idN 2, idN 1⟩)) rfl (by unfold lim; omega) fun M48 hs48 hx48 => ?_
    refine CW.seq fun K6 hK6 => ?_
    refine CW.region ?_
    refine RL.q (Y.loadAll rfl (by repeat (first | exact List.Mem.head _ | apply List.Mem.tail)) hul14 agg31) rfl ?_
    refine RL.q (Y.loadAll rfl (by repeat (first | exact List.Mem.head _ | apply List.Mem.tail)) hul21 agg31) rfl ?_
    refine RL.q (Y.move rfl) rfl ?_
    refine RL.callv rfl func23 rfl rfl (costX_ok _ _ _ us14 us21 _ (hu14.mono (hs15.trans (hs16.trans (hs17.trans (hs18.trans (hs19.trans (hs20.trans (hs21.trans (hs25.trans (hs4.trans (hs48))))))))))) (hu21.mono (hs25.trans (hs4.trans (hs48)))) hx48) ?_
    refine RL.q (Y.move rfl) rfl ?_
    refine RL.q (Y.extract rfl rfl) rfl ?_
    refine RL.q (Y.extract rfl rfl) rfl ?_
    refine RL.q (Y.assign rfl) rfl ?_
    refine RL.q (Y.assign rfl) rfl ?_
    refine RL.nil ?_
    refine hK6 _ _ _ ?_
    refine CW.keep (Keep.cons 1 rfl (Keep.cons 2 rfl (Keep.cons 3 rfl (Keep.cons 4 rfl (Keep.cons 5 rfl (Keep.cons 6 rfl (Keep.cons 7 rfl (Keep.cons 10 rfl (Keep.nil _))))))))) ?_
    refine CW.seq fun K7 hK7 => ?_
    refine CW.region ?_
    refine RL.q (Y.loadAll rfl (by repeat (first | exact List.Mem.head _ | apply List.Mem.tail)) hul21 agg31) rfl ?_
    refine RL.callv rfl func19 rfl rfl (msize_ok _ _ _ _ EB us21 rfl (hu21.mono (hs25.trans (hs4.trans (hs48)))) (by rw [sizeB5]; omega)) ?_
    refine RL.qs (Y.eql rfl rfl) rfl (fun g58 => ?_) (fun g58 => ?_)
    · refine RL.q (Y.move rfl) rfl ?_
      refine RL.qg ⟨_, _, rfl, rfl, rfl⟩ (Y.move rfl) rfl ?_
      refine RL.qgs ⟨_, _, rfl, rfl, rfl⟩ (Y.eql rfl rfl) rfl (fun g61 => ?_) (fun g61 => ?_)
      · refine RL.q (Y.pickT rfl rfl) rfl ?_
        refine RL.q (Y.move rfl) rfl ?_
        refine RL.qg ⟨_, _, rfl, rfl, rfl⟩ (Y.move rfl) rfl ?_
        refine RL.qg ⟨_, _, rfl, rfl, rfl⟩ (Y.len rfl Try.underlying34) rfl ?_
        refine RL.qgs ⟨_, _, rfl, rfl, rfl⟩ (Y.eql rfl rfl) rfl (fun g66 => ?_) (fun g66 => ?_)
        · refine RL.q (Y.pickT rfl rfl) rfl ?_
          refine RL.q (Y.move rfl) rfl ?_
          refine RL.qg ⟨_, _, rfl, rfl, rfl⟩ (Y.loadAll rfl (by repeat (first | exact List.Mem.head _ | apply List.Mem.tail)) hul14 agg31) rfl ?_
          refine RL.qg ⟨_, _, rfl, rfl, rfl⟩ (Y.loadAll rfl (by repeat (first | exact List.Mem.head _ | apply List.Mem.tail)) hul21 agg31) rfl ?_
          refine RL.qg ⟨_, _, rfl, rfl, rfl⟩ (Y.move rfl) rfl ?_
          refine RL.qg ⟨_, _, rfl, rfl, rfl⟩ (Y.move rfl) rfl ?_
          refine RL.callv ⟨_, _, rfl, rfl, rfl⟩ func25 rfl rfl (checkAB_ok _ _ _ us14 us21 _ _ _ d (hu14.mono (hs15.trans (hs16.trans (hs17.trans (hs18.trans (hs19.trans (hs20.trans (hs21.trans (hs25.trans (hs4.trans (hs48))))))))))) (hu21.mono (hs25.trans (hs4.trans (hs48)))) (Rd.mono (hs4.trans (hs48)) _ _ hup) (by rw [List.length_map, hQ]; omega) (Rd.mono (hs4.trans (hs48)) _ _ hud) (hbest.check goodAB)) ?_
          refine RL.qgs ⟨_, _, rfl, rfl, rfl⟩ (Y.eql rfl rfl) rfl (fun g74 => ?_) (fun g74 => ?_)
          · refine RL.q (Y.pickT rfl rfl) rfl ?_
            refine RL.q (Y.move rfl) rfl ?_
            refine RL.qg ⟨_, _, rfl, rfl, rfl⟩ (Y.move rfl) rfl ?_
            refine RL.qgs ⟨_, _, rfl, rfl, rfl⟩ (Y.eql rfl rfl) rfl (fun g78 => ?_) (fun g78 => ?_)
            · refine RL.q (Y.pickT rfl rfl) rfl ?_
              refine RL.q (Y.move rfl) rfl ?_
              refine RL.qg ⟨_, _, rfl, rfl, rfl⟩ (Y.move rfl) rfl ?_
              refine RL.qgs ⟨_, _, rfl, rfl, rfl⟩ (Y.eql rfl rfl) rfl (fun g82 => ?_) (fun g82 => ?_)
              · refine RL.q (Y.pickT rfl rfl) rfl ?_
                refine RL.q (Y.move rfl) rfl ?_
                refine RL.qg ⟨_, _, rfl, rfl, rfl⟩ (Y.move rfl) rfl ?_
                refine RL.qg ⟨_, _, rfl, rfl, rfl⟩ (Y.eql rfl rfl) rfl ?_
                refine RL.q (Y.pickT rfl rfl) rfl ?_
                refine RL.q (Y.assign rfl) rfl ?_
                refine RL.nil ?_
                refine hK7 _ _ _ ?_
                refine CW.keep (Keep.cons 0 rfl (Keep.nil _)) ?_
                refine CW.ret ?_
                refine ⟨_, rfl, ?_⟩
                exact Turn.back hw1 (hs11.trans (hs12.trans (hs13.trans (hs14.trans (hs15.trans (hs16.trans (hs17.trans (hs18.trans (hs19.trans (hs20.trans (hs21.trans (hs25.trans (hs4.trans (hs48)))))))))))))) ⟨rfl, rfl, rfl⟩ (by repeat (first | exact List.Sublist.refl _ | apply List.Sublist.cons_cons | apply List.Sublist.cons))
              · refine RL.q (Y.pickT rfl rfl) rfl ?_
                refine RL.q (Y.move rfl) rfl ?_
                refine RL.no ⟨_, _, rfl, rfl, rfl⟩ rfl ?_
                refine RL.no ⟨_, _, rfl, rfl, rfl⟩ rfl ?_
                refine RL.q (Y.pickF rfl rfl) rfl ?_
                refine RL.q (Y.assign rfl) rfl ?_
                refine RL.nil ?_
                refine hK7 _ _ _ ?_
                refine CW.keep (Keep.cons 0 rfl (Keep.nil _)) ?_
                refine CW.ret ?_
                exact absurd rfl g82
            · refine RL.q (Y.pickT rfl rfl) rfl ?_
              refine RL.q (Y.move rfl) rfl ?_
              refine RL.no ⟨_, _, rfl, rfl, rfl⟩ rfl ?_
              refine RL.no ⟨_, _, rfl, rfl, rfl⟩ rfl ?_
              refine RL.q (Y.pickF rfl rfl) rfl ?_
              refine RL.q (Y.move rfl) rfl ?_
              refine RL.no ⟨_, _, rfl, rfl, rfl⟩ rfl ?_
              refine RL.no ⟨_, _, rfl, rfl, rfl⟩ rfl ?_
              refine RL.q (Y.pickF rfl rfl) rfl ?_
              refine RL.q (Y.assign rfl) rfl ?_
              refine RL.nil ?_
              refine hK7 _ _ _ ?_
              refine CW.keep (Keep.cons 0 rfl (Keep.nil _)) ?_
              refine CW.ret ?_
              exact absurd rfl g78
          · refine RL.q (Y.pickT rfl rfl) rfl ?_
            refine RL.q (Y.move rfl) rfl ?_
            refine RL.no ⟨_, _, rfl, rfl, rfl⟩ rfl ?_
            refine RL.no ⟨_, _, rfl, rfl, rfl⟩ rfl ?_
            refine RL.q (Y.pickF rfl rfl) rfl ?_
            refine RL.q (Y.move rfl) rfl ?_
            refine RL.no ⟨_, _, rfl, rfl, rfl⟩ rfl ?_
            refine RL.no ⟨_, _, rfl, rfl, rfl⟩ rfl ?_
            refine RL.q (Y.pickF rfl rfl) rfl ?_
            refine RL.q (Y.move rfl) rfl ?_
            refine RL.no ⟨_, _, rfl, rfl, rfl⟩ rfl ?_
            refine RL.no ⟨_, _, rfl, rfl, rfl⟩ rfl ?_
            refine RL.q (Y.pickF rfl rfl) rfl ?_
            refine RL.q (Y.assign rfl) rfl ?_
            refine RL.nil ?_
            refine hK7 _ _ _ ?_
            refine CW.keep (Keep.cons 0 rfl (Keep.nil _)) ?_
            refine CW.ret ?_
            exact absurd rfl g74
        · refine RL.q (Y.pickT rfl rfl) rfl ?_
          refine RL.q (Y.move rfl) rfl ?_
          refine RL.no ⟨_, _, rfl, rfl, rfl⟩ rfl ?_
          refine RL.no ⟨_, _, rfl, rfl, rfl⟩ rfl ?_
          refine RL.no ⟨_, _, rfl, rfl, rfl⟩ rfl ?_
          refine RL.no ⟨_, _, rfl, rfl, rfl⟩ rfl ?_
          refine RL.no ⟨_, _, rfl, rfl, rfl⟩ rfl ?_
          refine RL.no ⟨_, _, rfl, rfl, rfl⟩ rfl ?_
          refine RL.q (Y.pickF rfl rfl) rfl ?_
          refine RL.q (Y.move rfl) rfl ?_
          refine RL.no ⟨_, _, rfl, rfl, rfl⟩ rfl ?_
          refine RL.no ⟨_, _, rfl, rfl, rfl⟩ rfl ?_
          refine RL.q (Y.pickF rfl rfl) rfl ?_
          refine RL.q (Y.move rfl) rfl ?_
          refine RL.no ⟨_, _, rfl, rfl, rfl⟩ rfl ?_
          refine RL.no ⟨_, _, rfl, rfl, rfl⟩ rfl ?_
          refine RL.q (Y.pickF rfl rfl) rfl ?_
          refine RL.q (Y.move rfl) rfl ?_
          refine RL.no ⟨_, _, rfl, rfl, rfl⟩ rfl ?_
          refine RL.no ⟨_, _, rfl, rfl, rfl⟩ rfl ?_
          refine RL.q (Y.pickF rfl rfl) rfl ?_
          refine RL.q (Y.assign rfl) rfl ?_
          refine RL.nil ?_
          refine hK7 _ _ _ ?_
          refine CW.keep (Keep.cons 0 rfl (Keep.nil _)) ?_
          refine CW.ret ?_
          exact absurd (by rw [List.length_map, hQ]; rfl) g66
      · refine RL.q (Y.pickT rfl rfl) rfl ?_
        refine RL.q (Y.move rfl) rfl ?_
        refine RL.no ⟨_, _, rfl, rfl, rfl⟩ rfl ?_
        refine RL.no ⟨_, _, rfl, rfl, rfl⟩ rfl ?_
        refine RL.no ⟨_, _, rfl, rfl, rfl⟩ rfl ?_
        refine RL.q (Y.pickF rfl rfl) rfl ?_
        refine RL.q (Y.move rfl) rfl ?_
        refine RL.no ⟨_, _, rfl, rfl, rfl⟩ rfl ?_
        refine RL.no ⟨_, _, rfl, rfl, rfl⟩ rfl ?_
        refine RL.no ⟨_, _, rfl, rfl, rfl⟩ rfl ?_
        refine RL.no ⟨_, _, rfl, rfl, rfl⟩ rfl ?_
        refine RL.no ⟨_, _, rfl, rfl, rfl⟩ rfl ?_
        refine RL.no ⟨_, _, rfl, rfl, rfl⟩ rfl ?_
        refine RL.q (Y.pickF rfl rfl) rfl ?_
        refine RL.q (Y.move rfl) rfl ?_
        refine RL.no ⟨_, _, rfl, rfl, rfl⟩ rfl ?_
        refine RL.no ⟨_, _, rfl, rfl, rfl⟩ rfl ?_
        refine RL.q (Y.pickF rfl rfl) rfl ?_
        refine RL.q (Y.move rfl) rfl ?_
        refine RL.no ⟨_, _, rfl, rfl, rfl⟩ rfl ?_
        refine RL.no ⟨_, _, rfl, rfl, rfl⟩ rfl ?_
        refine RL.q (Y.pickF rfl rfl) rfl ?_
        refine RL.q (Y.move rfl) rfl ?_
        refine RL.no ⟨_, _, rfl, rfl, rfl⟩ rfl ?_
        refine RL.no ⟨_, _, rfl, rfl, rfl⟩ rfl ?_
        refine RL.q (Y.pickF rfl rfl) rfl ?_
        refine RL.q (Y.assign rfl) rfl ?_
        refine RL.nil ?_
        refine hK7 _ _ _ ?_
        refine CW.keep (Keep.cons 0 rfl (Keep.nil _)) ?_
        refine CW.ret ?_
        exact absurd rfl g61
    · refine RL.q (Y.move rfl) rfl ?_
      refine RL.no ⟨_, _, rfl, rfl, rfl⟩ rfl ?_
      refine RL.no ⟨_, _, rfl, rfl, rfl⟩ rfl ?_
      refine RL.q (Y.pickF rfl rfl) rfl ?_
      refine RL.q (Y.move rfl) rfl ?_
      refine RL.no ⟨_, _, rfl, rfl, rfl⟩ rfl ?_
      refine RL.no ⟨_, _, rfl, rfl, rfl⟩ rfl ?_
      refine RL.no ⟨_, _, rfl, rfl, rfl⟩ rfl ?_
      refine RL.q (Y.pickF rfl rfl) rfl ?_
      refine RL.q (Y.move rfl) rfl ?_
      refine RL.no ⟨_, _, rfl, rfl, rfl⟩ rfl ?_
      refine RL.no ⟨_, _, rfl, rfl, rfl⟩ rfl ?_
      refine RL.no ⟨_, _, rfl, rfl, rfl⟩ rfl ?_
      refine RL.no ⟨_, _, rfl, rfl, rfl⟩ rfl ?_
      refine RL.no ⟨_, _, rfl, rfl, rfl⟩ rfl ?_
      refine RL.no ⟨_, _, rfl, rfl, rfl⟩ rfl ?_
      refine RL.q (Y.pickF rfl rfl) rfl ?_
      refine RL.q (Y.move rfl) rfl ?_
      refine RL.no ⟨_, _, rfl, rfl, rfl⟩ rfl ?_
      refine RL.no ⟨_, _, rfl, rfl, rfl⟩ rfl ?_
      refine RL.q (Y.pickF rfl rfl) rfl ?_
      refine RL.q (Y.move rfl) rfl ?_
      refine RL.no ⟨_, _, rfl, rfl, rfl⟩ rfl ?_
      refine RL.no ⟨_, _, rfl, rfl, rfl⟩ rfl ?_
      refine RL.q (Y.pickF rfl rfl) rfl ?_
      refine RL.q (Y.move rfl) rfl ?_
      refine RL.no ⟨_, _, rfl, rfl, rfl⟩ rfl ?_
      refine RL.no ⟨_, _, rfl, rfl, rfl⟩ rfl ?_
      refine RL.q (Y.pickF rfl rfl) rfl ?_
      refine RL.q (Y.assign rfl) rfl ?_
      refine RL.nil ?_
      refine hK7 _ _ _ ?_
      refine CW.keep (Keep.cons 0 rfl (Keep.nil _)) ?_
      refine CW.ret ?_
      exact absurd (by rw [sizeB5]; rfl) g58
end Go.Proofs.Ytjkcjbicleohkaa
