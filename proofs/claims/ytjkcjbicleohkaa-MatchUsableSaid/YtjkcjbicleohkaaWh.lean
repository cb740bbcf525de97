/- THE WALKS, 8: the generator of expressions. Printed by m16h.py. -/
import Derived.Test.YtjkcjbicleohkaaWg
namespace Go.Proofs.Ytjkcjbicleohkaa
open Xe

theorem tree_ok (w0 : World) (M : Mem) (Γ : List As) (l : List Int) (u : Value) (most frm : Int) (hu : Rd M (dints l) u) (hl : ∀ x ∈ l, InI x) (hm : 1 ≤ most ∧ most ≤ 20) (hf : 0 ≤ frm ∧ frm ≤ 1000) :
    CallOk Try.prog w0 M Γ 11 #[u, vint most, vint frm] (Gives M Γ fun M' v => ∃ us, v = .agg us.toArray ∧ RdL M' (tree l most frm).enc us) := by
  obtain ⟨a1, c1, rfl, hc1, hlim1, hlen1⟩ := hu.slice
  have hn0 := atL_lt l 0 most hm.1
  have hA := fun j => atL_lt l j 1000 (by omega)
  have hB := fun j => atL_lt l j 4 (by omega)
  have hC := fun j => atL_lt l j 5 (by omega)
  refine enterCell (f := 11) Try.func11 rfl Try.ntmps11 rfl rfl fun w1 hw1 => ?_
  refine CW.seq fun K1 hK1 => ?_
  refine CW.region ?_
  refine RL.alloc _ zero31 rfl rfl fun b6 => ?_
  refine RL.nil ?_
  refine hK1 _ _ _ ?_
  refine CW.keep (Keep.cons 0 rfl (Keep.cons 1 rfl (Keep.cons 2 rfl (Keep.cons 6 rfl (Keep.nil _))))) ?_
  refine CW.seq fun K2 hK2 => ?_
  refine CW.region ?_
  refine RL.q (Y.move rfl) rfl ?_
  refine RL.q (Y.move rfl) rfl ?_
  refine RL.callv rfl func29 rfl rfl (at_ok _ _ _ l _ _ _ hu hl hm.1) ?_
  refine RL.q (Y.add rfl rfl (by omega)) rfl ?_
  refine RL.q (Y.assign rfl) rfl ?_
  refine RL.nil ?_
  refine hK2 _ _ _ ?_
  refine CW.keep (Keep.cons 0 rfl (Keep.cons 2 rfl (Keep.cons 6 rfl (Keep.cons 7 rfl (Keep.nil _))))) ?_
  obtain ⟨n, hn⟩ := Int.eq_ofNat_of_zero_le (show 0 ≤ 1 + atL l 0 most by omega)
  rw [hn]
  refine CW.seq fun K3 hK3 => ?_
  refine CW.region ?_
  refine RL.q (Y.assign rfl) rfl ?_
  refine RL.nil ?_
  refine hK3 _ _ _ ?_
  refine CW.keep (Keep.cons 0 rfl (Keep.cons 2 rfl (Keep.cons 6 rfl (Keep.cons 7 rfl (Keep.cons 8 rfl (Keep.nil _)))))) ?_
  refine CW.seq fun K4 hK4 => ?_
  refine CW.seq fun K5 hK5 => ?_
  refine CW.region ?_
  refine RL.q (Y.assign rfl) rfl ?_
  refine RL.nil ?_
  refine hK5 _ _ _ ?_
  refine CW.keep (Keep.cons 0 rfl (Keep.cons 2 rfl (Keep.cons 6 rfl (Keep.cons 7 rfl (Keep.cons 8 rfl (Keep.cons 9 rfl (Keep.nil _))))))) ?_
  refine CW.block ?_
  -- LOOP 1: live [0, 2, 6, 7, 8, 9] changed [8, 9]
  refine CW.keep (Keep.cons 8 rfl (Keep.cons 9 rfl (Keep.cons 0 rfl (Keep.cons 2 rfl (Keep.cons 6 rfl (Keep.cons 7 rfl (Keep.nil _))))))) ?_
  refine CW.loopF (fun m Lc M1 Γc => ∃ (i : Nat) (a8 : Option Addr) (c8 : Nat), m = n - i ∧ i ≤ n ∧ Lc = [(8, .slice a8 (treeGo l n frm i).length c8), (9, vint i)] ∧ Γc = [] ∧ Rd M1 (.sl (treeGo l n frm i).length 15 ((treeGo l n frm i).flatMap Ex.enc)) (.slice a8 (treeGo l n frm i).length c8)) n [(8, _), (9, _)] [] rfl rfl ⟨0, none, 0, rfl, Nat.zero_le _, rfl, rfl, Rd.nilS⟩ ?_
  rintro m Lc M1 Γc hsub ⟨i, a8, c8, rfl, hi, rfl, rfl, hrl⟩
  have hgl := treeGo_len l n frm i
  obtain ⟨_, _, e8, hc8, _, _⟩ := hrl.slice
  cases e8
  have hA1 := hA (1 + (i : Int))
  have hB1 := hB (21 + (i : Int))
  have hC1 := hC (41 + (i : Int))
  have htm : (atL l (1 + (i : Int)) 1000).tmod 9 = (atL l (1 + (i : Int)) 1000) % 9 := Int.tmod_eq_emod_of_nonneg hA1.1
  refine CW.seq fun K6 hK6 => ?_
  refine CW.seq fun K7 hK7 => ?_
  refine CW.region ?_
  refine RL.q (Y.move rfl) rfl ?_
  refine RL.q (Y.move rfl) rfl ?_
  refine RL.q (Y.lss rfl rfl) rfl ?_
  refine RL.nil ?_
  refine hK7 _ _ _ ?_
  refine CW.keep (Keep.cons 0 rfl (Keep.cons 2 rfl (Keep.cons 6 rfl (Keep.cons 7 rfl (Keep.cons 8 rfl (Keep.cons 9 rfl (Keep.cons 18 rfl (Keep.nil _)))))))) ?_
  refine CW.ite rfl (fun h1 => ?_) (fun h1 => ?_)
  · refine CW.skip ?_
    refine hK6 _ _ _ ?_
    refine CW.seq fun K8 hK8 => ?_
    refine CW.block ?_
    refine CW.seq fun K9 hK9 => ?_
    refine CW.region ?_
    refine RL.q (Y.move rfl) rfl ?_
    refine RL.q (Y.move rfl) rfl ?_
    refine RL.q (Y.add rfl rfl (by omega)) rfl ?_
    refine RL.callv rfl func29 rfl rfl (at_ok _ _ _ l _ _ _ (Rd.mono hsub _ _ hu) hl (by omega)) ?_
    refine RL.q (Y.rem rfl rfl (by omega)) rfl ?_
    refine RL.q (Y.move rfl) rfl ?_
    refine RL.q (Y.move rfl) rfl ?_
    refine RL.q (Y.add rfl rfl (by omega)) rfl ?_
    refine RL.callv rfl func30 rfl rfl (idOf_ok _ _ _ _ (by omega)) ?_
    refine RL.call rfl func33 rfl rfl (content_ok _ _ _ _ _ (by unfold InI; omega)) ?_
    rintro _ M2 _ ⟨hs2, rfl, us30, rfl, hur30⟩
    have hul30 : us30.length = 15 := hur30.1.trans (Ex.enc_len _)
    refine RL.alloc _ zero31 rfl rfl fun b10 => ?_
    refine RL.storeAgg us30 rfl rfl (by repeat (first | exact Repl.here _ | apply Repl.there)) (by simp [hul30]) (by simp [hul30]) (fun _ _ => hur30.one) (by rw [hul30]; exact size31) ?_
    refine RL.nil ?_
    refine hK9 _ _ _ ?_
    refine CW.keep (Keep.cons 0 rfl (Keep.cons 2 rfl (Keep.cons 6 rfl (Keep.cons 7 rfl (Keep.cons 8 rfl (Keep.cons 9 rfl (Keep.cons 10 rfl (Keep.nil _)))))))) ?_
    refine CW.seq fun K10 hK10 => ?_
    refine CW.region ?_
    refine RL.q (Y.move rfl) rfl ?_
    refine RL.q (Y.len rfl Try.underlying28) rfl ?_
    refine RL.q (Y.move rfl) rfl ?_
    refine RL.q (Y.move rfl) rfl ?_
    refine RL.q (Y.add rfl rfl (by omega)) rfl ?_
    refine RL.callv rfl func29 rfl rfl (at_ok _ _ _ l _ _ _ (Rd.mono (hsub.trans hs2) _ _ hu) hl (by omega)) ?_
    refine RL.q (Y.min2 rfl rfl) rfl ?_
    refine RL.q (Y.assign rfl) rfl ?_
    refine RL.nil ?_
    refine hK10 _ _ _ ?_
    refine CW.keep (Keep.cons 0 rfl (Keep.cons 2 rfl (Keep.cons 6 rfl (Keep.cons 7 rfl (Keep.cons 8 rfl (Keep.cons 9 rfl (Keep.cons 10 rfl (Keep.cons 11 rfl (Keep.nil _))))))))) ?_
    refine CW.seq fun K11 hK11 => ?_
    refine CW.seq fun K12 hK12 => ?_
    refine CW.region ?_
    refine RL.q (Y.move rfl) rfl ?_
    refine RL.q (Y.move rfl) rfl ?_
    refine RL.q (Y.sub rfl rfl (by omega)) rfl ?_
    refine RL.q (Y.eql rfl rfl) rfl ?_
    refine RL.nil ?_
    refine hK12 _ _ _ ?_
    refine CW.keep (Keep.cons 0 rfl (Keep.cons 2 rfl (Keep.cons 6 rfl (Keep.cons 7 rfl (Keep.cons 8 rfl (Keep.cons 9 rfl (Keep.cons 10 rfl (Keep.cons 11 rfl (Keep.cons 41 rfl (Keep.nil _)))))))))) ?_
    refine CW.ite rfl (fun h2 => ?_) (fun h2 => ?_)
    · refine CW.region ?_
      refine RL.q (Y.move rfl) rfl ?_
      refine RL.q (Y.len rfl Try.underlying28) rfl ?_
      refine RL.q (Y.assign rfl) rfl ?_
      refine RL.nil ?_
      refine hK11 _ _ _ ?_
      refine CW.keep (Keep.cons 0 rfl (Keep.cons 2 rfl (Keep.cons 6 rfl (Keep.cons 7 rfl (Keep.cons 8 rfl (Keep.cons 9 rfl (Keep.cons 10 rfl (Keep.cons 11 rfl (Keep.nil _))))))))) ?_
      rw [show ((treeGo l n frm i).length : Int) = (treeK l n i (treeGo l n frm i) : Nat) from by rw [treeK, if_pos (by omega)]]
      refine CW.seq fun K13 hK13 => ?_
      refine CW.seq fun K14 hK14 => ?_
      refine CW.region ?_
      refine RL.q (Y.move rfl) rfl ?_
      refine RL.q (Y.move rfl) rfl ?_
      refine RL.q (Y.add rfl rfl (by omega)) rfl ?_
      refine RL.callv rfl func29 rfl rfl (at_ok _ _ _ l _ _ _ (Rd.mono (hsub.trans hs2) _ _ hu) hl (by omega)) ?_
      refine RL.q (Y.eql rfl rfl) rfl ?_
      refine RL.nil ?_
      refine hK14 _ _ _ ?_
      refine CW.keep (Keep.cons 0 rfl (Keep.cons 2 rfl (Keep.cons 6 rfl (Keep.cons 7 rfl (Keep.cons 8 rfl (Keep.cons 9 rfl (Keep.cons 10 rfl (Keep.cons 11 rfl (Keep.cons 48 rfl (Keep.nil _)))))))))) ?_
      refine CW.ite rfl (fun h3 => ?_) (fun h3 => ?_)
      · refine CW.region ?_
        refine RL.buildSlice [.string strX] elem29 rfl (by decide) (fill1 rfl rfl) rfl fun b49 => ?_
        refine RL.q (Y.field rfl field31_6) rfl ?_
        refine RL.store _ rfl rfl (by repeat (first | exact Repl.here _ | apply Repl.there)) (by rfl) (by simp [hul30]) (by rfl) size29 ?_
        refine RL.nil ?_
        refine hK13 _ _ _ ?_
        refine CW.keep (Keep.cons 0 rfl (Keep.cons 2 rfl (Keep.cons 6 rfl (Keep.cons 7 rfl (Keep.cons 8 rfl (Keep.cons 9 rfl (Keep.cons 10 rfl (Keep.cons 11 rfl (Keep.nil _))))))))) ?_
        refine CW.sealOwn (b := b49) (k := 1) (sz := 1) (ds := [dstr strX]) (by repeat (first | exact Pick.here _ | apply Pick.there)) (Rd.str strX |> fun h => RdL.cons h (RdL.nil _)) rfl (by unfold lim; omega) fun M3 hs23 hrx => ?_
        have hbase : RdL M3 ((contentE ((atL l (1 + (i : Int)) 1000).tmod 9) (idOf (frm + i))).enc.set 14 (dstrs (treeNames l i))) (us30.set 14 (.slice (some ⟨b49, 0, none⟩) 1 1)) := by rw [treeNames, if_pos (by first | exact h3 | exact h4)]; exact (hur30.mono hs23).set 14 hrx
        have hs3 := hs2.trans hs23
        have hul31 : (us30.set 14 (.slice (some ⟨b49, 0, none⟩) 1 1)).length = 15 := by simp [hul30]
        generalize us30.set 14 (.slice (some ⟨b49, 0, none⟩) 1 1) = us31 at *
        refine CW.seq fun K15 hK15 => ?_
        have hkl := treeK_le l n i (treeGo l n frm i)
        generalize hkk : treeK l n i (treeGo l n frm i) = kk at hkl ⊢
        generalize hT : treeGo l n frm i = T at *
        refine CW.region ?_
        refine RL.buildSlice [] elem28 rfl (by decide) fill0 rfl fun b51 => ?_
        refine RL.q (Y.move rfl) rfl ?_
        refine RL.q (Y.move rfl) rfl ?_
        refine RL.q (Y.len rfl Try.underlying28) rfl ?_
        refine RL.q (Y.move rfl) rfl ?_
        refine RL.q (Y.sub rfl rfl (by omega)) rfl ?_
        refine RL.q (Y.slice (T.length - kk) T.length c8 rfl ⟨_, rfl, (by omega)⟩ rfl rfl (by simp) (by omega) (by omega) (by omega) slice28) rfl ?_
        refine RL.ownAcc (b := b51) (k := 0) (e := 31) (sz := 15) (us := []) (by repeat (first | exact Pick.here _ | apply Pick.there)) rfl (by unfold maxLen; omega) ?_
        refine RL.addRd (Rd.cut (Rd.mono hs3 _ _ hrl) (T.length - kk) T.length c8 (by omega) (by omega) (by omega) (by omega)) ?_
        refine RL.appendRd elem28 rfl rfl (by repeat (first | exact Pick.here _ | apply Pick.there)) (by repeat (first | exact List.Mem.head _ | apply List.Mem.tail)) (by first | omega | (unfold lim; omega)) (by first | omega | (unfold lim; omega)) rfl fun a58 c58 n58 hc58 hn58 => ?_
        refine RL.q (Y.field rfl field31_5) rfl ?_
        refine RL.store _ rfl rfl (by repeat (first | exact Repl.here _ | apply Repl.there)) (by rfl) (by simp [hul31]) (by rfl) size28 ?_
        refine RL.nil ?_
        refine hK15 _ _ _ ?_
        refine CW.keep (Keep.cons 0 rfl (Keep.cons 2 rfl (Keep.cons 6 rfl (Keep.cons 7 rfl (Keep.cons 8 rfl (Keep.cons 9 rfl (Keep.cons 10 rfl (Keep.cons 11 rfl (Keep.nil _))))))))) ?_
        refine CW.sealAcc (u := .slice a58 _ c58) (by repeat (first | exact Pick.here _ | apply Pick.there)) (show RdL _ _ ([] ++ n58) from hn58) (by unfold lim; omega) ?_
        intro M4 a9 c9 hs4 h9 hc9 hr9
        cases h9
        rw [cut_tail] at hr9
        have hnode := (hbase.mono hs4).set 13 hr9
        rw [← withKids_enc] at hnode
        refine CW.regionH mix _ _ (fun _ hw => hw) ?_
        refine HL.take 0 rfl (by kernel_rfl) (by kernel_rfl) (by kernel_rfl) rfl (Y.move rfl) rfl ?_
        refine HL.take 1 rfl (by kernel_rfl) (by kernel_rfl) (by kernel_rfl) rfl (Y.move rfl) rfl ?_
        refine HL.take 2 rfl (by kernel_rfl) (by kernel_rfl) (by kernel_rfl) rfl (Y.len rfl Try.underlying28) rfl ?_
        refine HL.take 3 rfl (by kernel_rfl) (by kernel_rfl) (by kernel_rfl) rfl (Y.move rfl) rfl ?_
        refine HL.take 4 rfl (by kernel_rfl) (by kernel_rfl) (by kernel_rfl) rfl (Y.sub rfl rfl (by omega)) rfl ?_
        refine HL.take 5 rfl (by kernel_rfl) (by kernel_rfl) (by kernel_rfl) rfl (Y.move rfl) rfl ?_
        refine HL.take 6 rfl (by kernel_rfl) (by kernel_rfl) (by kernel_rfl) rfl (Y.len rfl Try.underlying28) rfl ?_
        refine HL.take 7 rfl (by kernel_rfl) (by kernel_rfl) (by kernel_rfl) rfl (Y.move rfl) rfl ?_
        refine HL.take 8 rfl (by kernel_rfl) (by kernel_rfl) (by kernel_rfl) rfl (Y.sub rfl rfl (by omega)) rfl ?_
        refine HL.take 9 rfl (by kernel_rfl) (by kernel_rfl) (by kernel_rfl) rfl (Y.slice 0 (T.length - kk) (T.length - kk) rfl rfl ⟨_, rfl, (by omega)⟩ ⟨_, rfl, (by omega)⟩ (by simp) (by omega) (by omega) (by omega) slice28) rfl ?_
        refine HL.take 10 rfl (by kernel_rfl) (by kernel_rfl) (by kernel_rfl) rfl (Y.loadAll rfl (by repeat (first | exact List.Mem.head _ | apply List.Mem.tail)) (by exact hnode.1.trans (Ex.enc_len _)) agg31) rfl ?_
        refine HL.step 11 rfl (by kernel_rfl) ?_
        refine RL.buildSlice _ elem28 rfl (by decide) (fill1 rfl (by exact hnode.1.trans (Ex.enc_len _))) rfl fun b71 => ?_
        refine RL.nil ⟨keep_same (by repeat (first | exact List.Sublist.refl _ | apply List.Sublist.cons_cons | apply List.Sublist.cons)), ?_⟩
        refine HL.step 12 rfl (by kernel_rfl) ?_
        refine RL.appendFresh elem28 rfl rfl (Rd.cut (Rd.mono (hs3.trans hs4) _ _ hrl) 0 (T.length - kk) (T.length - kk) (by omega) (by omega) (by omega) (by omega)) (SrcOk.own (m := 1) (by repeat (first | exact List.Mem.head _ | apply List.Mem.tail)) (by exact hnode.1.trans (Ex.enc_len _)) hnode.one) (by omega) (by first | omega | (unfold lim; omega)) (by first | omega | (unfold lim; omega)) rfl fun a72 c72 us72 hc72 hus72 => ?_
        refine RL.nil ⟨keep_same (by repeat (first | exact List.Sublist.refl _ | apply List.Sublist.cons_cons | apply List.Sublist.cons)), ?_⟩
        refine HL.take 13 rfl (by kernel_rfl) (by kernel_rfl) (by kernel_rfl) rfl (Y.assign rfl) rfl ?_
        refine HL.done (by kernel_rfl) ?_
        refine hK8 _ _ _ ?_
        refine CW.keep (Keep.cons 0 rfl (Keep.cons 2 rfl (Keep.cons 6 rfl (Keep.cons 7 rfl (Keep.cons 8 rfl (Keep.cons 9 rfl (Keep.nil _))))))) ?_
        refine CW.sealAcc (u := .slice a72 _ c72) (by repeat (first | exact Pick.here _ | apply Pick.there)) (hus72.append hnode) (by unfold lim; omega) ?_
        intro M5 a8 c8 hs5 h8 hc8 hr8
        cases h8
        rw [cut_head _ _ (by omega)] at hr8
        have hTn : T.take (T.length - kk) ++ [withKids (contentE ((atL l (1 + (i : Int)) 1000).tmod 9) (idOf (frm + i))) (T.drop (T.length - kk)) (treeNames l i)] = treeGo l n frm (i + 1) := by rw [treeGo, treeStep, hT, hkk]
        have hlen1 : T.length - kk - 0 + 1 = (treeGo l n frm (i + 1)).length := by rw [← hTn, List.length_append, List.length_take, List.length_singleton]; omega
        refine CW.region ?_
        refine RL.q (Y.move rfl) rfl ?_
        refine RL.q (Y.add rfl rfl (by omega)) rfl ?_
        refine RL.q (Y.assign rfl) rfl ?_
        refine RL.nil ?_
        refine ⟨n - (i + 1), [(8, _), (9, _)], ?_, (Keep.cons 8 rfl (Keep.cons 9 rfl (Keep.cons 0 rfl (Keep.cons 2 rfl (Keep.cons 6 rfl (Keep.cons 7 rfl (Keep.nil _))))))), ?_⟩
        · omega
        · exact Turn.drop ⟨[], rfl, hsub.trans (hs3.trans (hs4.trans hs5)), i + 1, _, _, rfl, by omega, by rw [← hlen1]; rfl, rfl, by rw [hTn] at hr8; rw [← hlen1] at hr8 ⊢; exact hr8⟩ (by repeat (first | exact List.Sublist.refl _ | apply List.Sublist.cons_cons | apply List.Sublist.cons))
      · have hbase : RdL M2 ((contentE ((atL l (1 + (i : Int)) 1000).tmod 9) (idOf (frm + i))).enc.set 14 (dstrs (treeNames l i))) us30 := by rw [treeNames, if_neg h3, content_names]; exact hur30
        have hs3 := hs2
        have hul31 := hul30
        refine CW.skip ?_
        refine hK13 _ _ _ ?_
        refine CW.seq fun K16 hK16 => ?_
        have hkl := treeK_le l n i (treeGo l n frm i)
        generalize hkk : treeK l n i (treeGo l n frm i) = kk at hkl ⊢
        generalize hT : treeGo l n frm i = T at *
        refine CW.region ?_
        refine RL.buildSlice [] elem28 rfl (by decide) fill0 rfl fun b51 => ?_
        refine RL.q (Y.move rfl) rfl ?_
        refine RL.q (Y.move rfl) rfl ?_
        refine RL.q (Y.len rfl Try.underlying28) rfl ?_
        refine RL.q (Y.move rfl) rfl ?_
        refine RL.q (Y.sub rfl rfl (by omega)) rfl ?_
        refine RL.q (Y.slice (T.length - kk) T.length c8 rfl ⟨_, rfl, (by omega)⟩ rfl rfl (by simp) (by omega) (by omega) (by omega) slice28) rfl ?_
        refine RL.ownAcc (b := b51) (k := 0) (e := 31) (sz := 15) (us := []) (by repeat (first | exact Pick.here _ | apply Pick.there)) rfl (by unfold maxLen; omega) ?_
        refine RL.addRd (Rd.cut (Rd.mono hs3 _ _ hrl) (T.length - kk) T.length c8 (by omega) (by omega) (by omega) (by omega)) ?_
        refine RL.appendRd elem28 rfl rfl (by repeat (first | exact Pick.here _ | apply Pick.there)) (by repeat (first | exact List.Mem.head _ | apply List.Mem.tail)) (by first | omega | (unfold lim; omega)) (by first | omega | (unfold lim; omega)) rfl fun a58 c58 n58 hc58 hn58 => ?_
        refine RL.q (Y.field rfl field31_5) rfl ?_
        refine RL.store _ rfl rfl (by repeat (first | exact Repl.here _ | apply Repl.there)) (by rfl) (by simp [hul31]) (by rfl) size28 ?_
        refine RL.nil ?_
        refine hK16 _ _ _ ?_
        refine CW.keep (Keep.cons 0 rfl (Keep.cons 2 rfl (Keep.cons 6 rfl (Keep.cons 7 rfl (Keep.cons 8 rfl (Keep.cons 9 rfl (Keep.cons 10 rfl (Keep.cons 11 rfl (Keep.nil _))))))))) ?_
        refine CW.sealAcc (u := .slice a58 _ c58) (by repeat (first | exact Pick.here _ | apply Pick.there)) (show RdL _ _ ([] ++ n58) from hn58) (by unfold lim; omega) ?_
        intro M4 a9 c9 hs4 h9 hc9 hr9
        cases h9
        rw [cut_tail] at hr9
        have hnode := (hbase.mono hs4).set 13 hr9
        rw [← withKids_enc] at hnode
        refine CW.regionH mix _ _ (fun _ hw => hw) ?_
        refine HL.take 0 rfl (by kernel_rfl) (by kernel_rfl) (by kernel_rfl) rfl (Y.move rfl) rfl ?_
        refine HL.take 1 rfl (by kernel_rfl) (by kernel_rfl) (by kernel_rfl) rfl (Y.move rfl) rfl ?_
        refine HL.take 2 rfl (by kernel_rfl) (by kernel_rfl) (by kernel_rfl) rfl (Y.len rfl Try.underlying28) rfl ?_
        refine HL.take 3 rfl (by kernel_rfl) (by kernel_rfl) (by kernel_rfl) rfl (Y.move rfl) rfl ?_
        refine HL.take 4 rfl (by kernel_rfl) (by kernel_rfl) (by kernel_rfl) rfl (Y.sub rfl rfl (by omega)) rfl ?_
        refine HL.take 5 rfl (by kernel_rfl) (by kernel_rfl) (by kernel_rfl) rfl (Y.move rfl) rfl ?_
        refine HL.take 6 rfl (by kernel_rfl) (by kernel_rfl) (by kernel_rfl) rfl (Y.len rfl Try.underlying28) rfl ?_
        refine HL.take 7 rfl (by kernel_rfl) (by kernel_rfl) (by kernel_rfl) rfl (Y.move rfl) rfl ?_
        refine HL.take 8 rfl (by kernel_rfl) (by kernel_rfl) (by kernel_rfl) rfl (Y.sub rfl rfl (by omega)) rfl ?_
        refine HL.take 9 rfl (by kernel_rfl) (by kernel_rfl) (by kernel_rfl) rfl (Y.slice 0 (T.length - kk) (T.length - kk) rfl rfl ⟨_, rfl, (by omega)⟩ ⟨_, rfl, (by omega)⟩ (by simp) (by omega) (by omega) (by omega) slice28) rfl ?_
        refine HL.take 10 rfl (by kernel_rfl) (by kernel_rfl) (by kernel_rfl) rfl (Y.loadAll rfl (by repeat (first | exact List.Mem.head _ | apply List.Mem.tail)) (by exact hnode.1.trans (Ex.enc_len _)) agg31) rfl ?_
        refine HL.step 11 rfl (by kernel_rfl) ?_
        refine RL.buildSlice _ elem28 rfl (by decide) (fill1 rfl (by exact hnode.1.trans (Ex.enc_len _))) rfl fun b71 => ?_
        refine RL.nil ⟨keep_same (by repeat (first | exact List.Sublist.refl _ | apply List.Sublist.cons_cons | apply List.Sublist.cons)), ?_⟩
        refine HL.step 12 rfl (by kernel_rfl) ?_
        refine RL.appendFresh elem28 rfl rfl (Rd.cut (Rd.mono (hs3.trans hs4) _ _ hrl) 0 (T.length - kk) (T.length - kk) (by omega) (by omega) (by omega) (by omega)) (SrcOk.own (m := 1) (by repeat (first | exact List.Mem.head _ | apply List.Mem.tail)) (by exact hnode.1.trans (Ex.enc_len _)) hnode.one) (by omega) (by first | omega | (unfold lim; omega)) (by first | omega | (unfold lim; omega)) rfl fun a72 c72 us72 hc72 hus72 => ?_
        refine RL.nil ⟨keep_same (by repeat (first | exact List.Sublist.refl _ | apply List.Sublist.cons_cons | apply List.Sublist.cons)), ?_⟩
        refine HL.take 13 rfl (by kernel_rfl) (by kernel_rfl) (by kernel_rfl) rfl (Y.assign rfl) rfl ?_
        refine HL.done (by kernel_rfl) ?_
        refine hK8 _ _ _ ?_
        refine CW.keep (Keep.cons 0 rfl (Keep.cons 2 rfl (Keep.cons 6 rfl (Keep.cons 7 rfl (Keep.cons 8 rfl (Keep.cons 9 rfl (Keep.nil _))))))) ?_
        refine CW.sealAcc (u := .slice a72 _ c72) (by repeat (first | exact Pick.here _ | apply Pick.there)) (hus72.append hnode) (by unfold lim; omega) ?_
        intro M5 a8 c8 hs5 h8 hc8 hr8
        cases h8
        rw [cut_head _ _ (by omega)] at hr8
        have hTn : T.take (T.length - kk) ++ [withKids (contentE ((atL l (1 + (i : Int)) 1000).tmod 9) (idOf (frm + i))) (T.drop (T.length - kk)) (treeNames l i)] = treeGo l n frm (i + 1) := by rw [treeGo, treeStep, hT, hkk]
        have hlen1 : T.length - kk - 0 + 1 = (treeGo l n frm (i + 1)).length := by rw [← hTn, List.length_append, List.length_take, List.length_singleton]; omega
        refine CW.region ?_
        refine RL.q (Y.move rfl) rfl ?_
        refine RL.q (Y.add rfl rfl (by omega)) rfl ?_
        refine RL.q (Y.assign rfl) rfl ?_
        refine RL.nil ?_
        refine ⟨n - (i + 1), [(8, _), (9, _)], ?_, (Keep.cons 8 rfl (Keep.cons 9 rfl (Keep.cons 0 rfl (Keep.cons 2 rfl (Keep.cons 6 rfl (Keep.cons 7 rfl (Keep.nil _))))))), ?_⟩
        · omega
        · exact Turn.drop ⟨[], rfl, hsub.trans (hs3.trans (hs4.trans hs5)), i + 1, _, _, rfl, by omega, by rw [← hlen1]; rfl, rfl, by rw [hTn] at hr8; rw [← hlen1] at hr8 ⊢; exact hr8⟩ (by repeat (first | exact List.Sublist.refl _ | apply List.Sublist.cons_cons | apply List.Sublist.cons))
    · rw [show min ((treeGo l n frm i).length : Int) (atL l (21 + (i : Int)) 4) = (treeK l n i (treeGo l n frm i) : Nat) from by rw [treeK, if_neg (by omega)]; have := hB (21 + (i : Int)); omega]
      refine CW.skip ?_
      refine hK11 _ _ _ ?_
      refine CW.seq fun K17 hK17 => ?_
      refine CW.seq fun K18 hK18 => ?_
      refine CW.region ?_
      refine RL.q (Y.move rfl) rfl ?_
      refine RL.q (Y.move rfl) rfl ?_
      refine RL.q (Y.add rfl rfl (by omega)) rfl ?_
      refine RL.callv rfl func29 rfl rfl (at_ok _ _ _ l _ _ _ (Rd.mono (hsub.trans hs2) _ _ hu) hl (by omega)) ?_
      refine RL.q (Y.eql rfl rfl) rfl ?_
      refine RL.nil ?_
      refine hK18 _ _ _ ?_
      refine CW.keep (Keep.cons 0 rfl (Keep.cons 2 rfl (Keep.cons 6 rfl (Keep.cons 7 rfl (Keep.cons 8 rfl (Keep.cons 9 rfl (Keep.cons 10 rfl (Keep.cons 11 rfl (Keep.cons 48 rfl (Keep.nil _)))))))))) ?_
      refine CW.ite rfl (fun h4 => ?_) (fun h4 => ?_)
      · refine CW.region ?_
        refine RL.buildSlice [.string strX] elem29 rfl (by decide) (fill1 rfl rfl) rfl fun b49 => ?_
        refine RL.q (Y.field rfl field31_6) rfl ?_
        refine RL.store _ rfl rfl (by repeat (first | exact Repl.here _ | apply Repl.there)) (by rfl) (by simp [hul30]) (by rfl) size29 ?_
        refine RL.nil ?_
        refine hK17 _ _ _ ?_
        refine CW.keep (Keep.cons 0 rfl (Keep.cons 2 rfl (Keep.cons 6 rfl (Keep.cons 7 rfl (Keep.cons 8 rfl (Keep.cons 9 rfl (Keep.cons 10 rfl (Keep.cons 11 rfl (Keep.nil _))))))))) ?_
        refine CW.sealOwn (b := b49) (k := 1) (sz := 1) (ds := [dstr strX]) (by repeat (first | exact Pick.here _ | apply Pick.there)) (Rd.str strX |> fun h => RdL.cons h (RdL.nil _)) rfl (by unfold lim; omega) fun M3 hs23 hrx => ?_
        have hbase : RdL M3 ((contentE ((atL l (1 + (i : Int)) 1000).tmod 9) (idOf (frm + i))).enc.set 14 (dstrs (treeNames l i))) (us30.set 14 (.slice (some ⟨b49, 0, none⟩) 1 1)) := by rw [treeNames, if_pos (by first | exact h3 | exact h4)]; exact (hur30.mono hs23).set 14 hrx
        have hs3 := hs2.trans hs23
        have hul31 : (us30.set 14 (.slice (some ⟨b49, 0, none⟩) 1 1)).length = 15 := by simp [hul30]
        generalize us30.set 14 (.slice (some ⟨b49, 0, none⟩) 1 1) = us31 at *
        refine CW.seq fun K19 hK19 => ?_
        have hkl := treeK_le l n i (treeGo l n frm i)
        generalize hkk : treeK l n i (treeGo l n frm i) = kk at hkl ⊢
        generalize hT : treeGo l n frm i = T at *
        refine CW.region ?_
        refine RL.buildSlice [] elem28 rfl (by decide) fill0 rfl fun b51 => ?_
        refine RL.q (Y.move rfl) rfl ?_
        refine RL.q (Y.move rfl) rfl ?_
        refine RL.q (Y.len rfl Try.underlying28) rfl ?_
        refine RL.q (Y.move rfl) rfl ?_
        refine RL.q (Y.sub rfl rfl (by omega)) rfl ?_
        refine RL.q (Y.slice (T.length - kk) T.length c8 rfl ⟨_, rfl, (by omega)⟩ rfl rfl (by simp) (by omega) (by omega) (by omega) slice28) rfl ?_
        refine RL.ownAcc (b := b51) (k := 0) (e := 31) (sz := 15) (us := []) (by repeat (first | exact Pick.here _ | apply Pick.there)) rfl (by unfold maxLen; omega) ?_
        refine RL.addRd (Rd.cut (Rd.mono hs3 _ _ hrl) (T.length - kk) T.length c8 (by omega) (by omega) (by omega) (by omega)) ?_
        refine RL.appendRd elem28 rfl rfl (by repeat (first | exact Pick.here _ | apply Pick.there)) (by repeat (first | exact List.Mem.head _ | apply List.Mem.tail)) (by first | omega | (unfold lim; omega)) (by first | omega | (unfold lim; omega)) rfl fun a58 c58 n58 hc58 hn58 => ?_
        refine RL.q (Y.field rfl field31_5) rfl ?_
        refine RL.store _ rfl rfl (by repeat (first | exact Repl.here _ | apply Repl.there)) (by rfl) (by simp [hul31]) (by rfl) size28 ?_
        refine RL.nil ?_
        refine hK19 _ _ _ ?_
        refine CW.keep (Keep.cons 0 rfl (Keep.cons 2 rfl (Keep.cons 6 rfl (Keep.cons 7 rfl (Keep.cons 8 rfl (Keep.cons 9 rfl (Keep.cons 10 rfl (Keep.cons 11 rfl (Keep.nil _))))))))) ?_
        refine CW.sealAcc (u := .slice a58 _ c58) (by repeat (first | exact Pick.here _ | apply Pick.there)) (show RdL _ _ ([] ++ n58) from hn58) (by unfold lim; omega) ?_
        intro M4 a9 c9 hs4 h9 hc9 hr9
        cases h9
        rw [cut_tail] at hr9
        have hnode := (hbase.mono hs4).set 13 hr9
        rw [← withKids_enc] at hnode
        refine CW.regionH mix _ _ (fun _ hw => hw) ?_
        refine HL.take 0 rfl (by kernel_rfl) (by kernel_rfl) (by kernel_rfl) rfl (Y.move rfl) rfl ?_
        refine HL.take 1 rfl (by kernel_rfl) (by kernel_rfl) (by kernel_rfl) rfl (Y.move rfl) rfl ?_
        refine HL.take 2 rfl (by kernel_rfl) (by kernel_rfl) (by kernel_rfl) rfl (Y.len rfl Try.underlying28) rfl ?_
        refine HL.take 3 rfl (by kernel_rfl) (by kernel_rfl) (by kernel_rfl) rfl (Y.move rfl) rfl ?_
        refine HL.take 4 rfl (by kernel_rfl) (by kernel_rfl) (by kernel_rfl) rfl (Y.sub rfl rfl (by omega)) rfl ?_
        refine HL.take 5 rfl (by kernel_rfl) (by kernel_rfl) (by kernel_rfl) rfl (Y.move rfl) rfl ?_
        refine HL.take 6 rfl (by kernel_rfl) (by kernel_rfl) (by kernel_rfl) rfl (Y.len rfl Try.underlying28) rfl ?_
        refine HL.take 7 rfl (by kernel_rfl) (by kernel_rfl) (by kernel_rfl) rfl (Y.move rfl) rfl ?_
        refine HL.take 8 rfl (by kernel_rfl) (by kernel_rfl) (by kernel_rfl) rfl (Y.sub rfl rfl (by omega)) rfl ?_
        refine HL.take 9 rfl (by kernel_rfl) (by kernel_rfl) (by kernel_rfl) rfl (Y.slice 0 (T.length - kk) (T.length - kk) rfl rfl ⟨_, rfl, (by omega)⟩ ⟨_, rfl, (by omega)⟩ (by simp) (by omega) (by omega) (by omega) slice28) rfl ?_
        refine HL.take 10 rfl (by kernel_rfl) (by kernel_rfl) (by kernel_rfl) rfl (Y.loadAll rfl (by repeat (first | exact List.Mem.head _ | apply List.Mem.tail)) (by exact hnode.1.trans (Ex.enc_len _)) agg31) rfl ?_
        refine HL.step 11 rfl (by kernel_rfl) ?_
        refine RL.buildSlice _ elem28 rfl (by decide) (fill1 rfl (by exact hnode.1.trans (Ex.enc_len _))) rfl fun b71 => ?_
        refine RL.nil ⟨keep_same (by repeat (first | exact List.Sublist.refl _ | apply List.Sublist.cons_cons | apply List.Sublist.cons)), ?_⟩
        refine HL.step 12 rfl (by kernel_rfl) ?_
        refine RL.appendFresh elem28 rfl rfl (Rd.cut (Rd.mono (hs3.trans hs4) _ _ hrl) 0 (T.length - kk) (T.length - kk) (by omega) (by omega) (by omega) (by omega)) (SrcOk.own (m := 1) (by repeat (first | exact List.Mem.head _ | apply List.Mem.tail)) (by exact hnode.1.trans (Ex.enc_len _)) hnode.one) (by omega) (by first | omega | (unfold lim; omega)) (by first | omega | (unfold lim; omega)) rfl fun a72 c72 us72 hc72 hus72 => ?_
        refine RL.nil ⟨keep_same (by repeat (first | exact List.Sublist.refl _ | apply List.Sublist.cons_cons | apply List.Sublist.cons)), ?_⟩
        refine HL.take 13 rfl (by kernel_rfl) (by kernel_rfl) (by kernel_rfl) rfl (Y.assign rfl) rfl ?_
        refine HL.done (by kernel_rfl) ?_
        refine hK8 _ _ _ ?_
        refine CW.keep (Keep.cons 0 rfl (Keep.cons 2 rfl (Keep.cons 6 rfl (Keep.cons 7 rfl (Keep.cons 8 rfl (Keep.cons 9 rfl (Keep.nil _))))))) ?_
        refine CW.sealAcc (u := .slice a72 _ c72) (by repeat (first | exact Pick.here _ | apply Pick.there)) (hus72.append hnode) (by unfold lim; omega) ?_
        intro M5 a8 c8 hs5 h8 hc8 hr8
        cases h8
        rw [cut_head _ _ (by omega)] at hr8
        have hTn : T.take (T.length - kk) ++ [withKids (contentE ((atL l (1 + (i : Int)) 1000).tmod 9) (idOf (frm + i))) (T.drop (T.length - kk)) (treeNames l i)] = treeGo l n frm (i + 1) := by rw [treeGo, treeStep, hT, hkk]
        have hlen1 : T.length - kk - 0 + 1 = (treeGo l n frm (i + 1)).length := by rw [← hTn, List.length_append, List.length_take, List.length_singleton]; omega
        refine CW.region ?_
        refine RL.q (Y.move rfl) rfl ?_
        refine RL.q (Y.add rfl rfl (by omega)) rfl ?_
        refine RL.q (Y.assign rfl) rfl ?_
        refine RL.nil ?_
        refine ⟨n - (i + 1), [(8, _), (9, _)], ?_, (Keep.cons 8 rfl (Keep.cons 9 rfl (Keep.cons 0 rfl (Keep.cons 2 rfl (Keep.cons 6 rfl (Keep.cons 7 rfl (Keep.nil _))))))), ?_⟩
        · omega
        · exact Turn.drop ⟨[], rfl, hsub.trans (hs3.trans (hs4.trans hs5)), i + 1, _, _, rfl, by omega, by rw [← hlen1]; rfl, rfl, by rw [hTn] at hr8; rw [← hlen1] at hr8 ⊢; exact hr8⟩ (by repeat (first | exact List.Sublist.refl _ | apply List.Sublist.cons_cons | apply List.Sublist.cons))
      · have hbase : RdL M2 ((contentE ((atL l (1 + (i : Int)) 1000).tmod 9) (idOf (frm + i))).enc.set 14 (dstrs (treeNames l i))) us30 := by rw [treeNames, if_neg h4, content_names]; exact hur30
        have hs3 := hs2
        have hul31 := hul30
        refine CW.skip ?_
        refine hK17 _ _ _ ?_
        refine CW.seq fun K20 hK20 => ?_
        have hkl := treeK_le l n i (treeGo l n frm i)
        generalize hkk : treeK l n i (treeGo l n frm i) = kk at hkl ⊢
        generalize hT : treeGo l n frm i = T at *
        refine CW.region ?_
        refine RL.buildSlice [] elem28 rfl (by decide) fill0 rfl fun b51 => ?_
        refine RL.q (Y.move rfl) rfl ?_
        refine RL.q (Y.move rfl) rfl ?_
        refine RL.q (Y.len rfl Try.underlying28) rfl ?_
        refine RL.q (Y.move rfl) rfl ?_
        refine RL.q (Y.sub rfl rfl (by omega)) rfl ?_
        refine RL.q (Y.slice (T.length - kk) T.length c8 rfl ⟨_, rfl, (by omega)⟩ rfl rfl (by simp) (by omega) (by omega) (by omega) slice28) rfl ?_
        refine RL.ownAcc (b := b51) (k := 0) (e := 31) (sz := 15) (us := []) (by repeat (first | exact Pick.here _ | apply Pick.there)) rfl (by unfold maxLen; omega) ?_
        refine RL.addRd (Rd.cut (Rd.mono hs3 _ _ hrl) (T.length - kk) T.length c8 (by omega) (by omega) (by omega) (by omega)) ?_
        refine RL.appendRd elem28 rfl rfl (by repeat (first | exact Pick.here _ | apply Pick.there)) (by repeat (first | exact List.Mem.head _ | apply List.Mem.tail)) (by first | omega | (unfold lim; omega)) (by first | omega | (unfold lim; omega)) rfl fun a58 c58 n58 hc58 hn58 => ?_
        refine RL.q (Y.field rfl field31_5) rfl ?_
        refine RL.store _ rfl rfl (by repeat (first | exact Repl.here _ | apply Repl.there)) (by rfl) (by simp [hul31]) (by rfl) size28 ?_
        refine RL.nil ?_
        refine hK20 _ _ _ ?_
        refine CW.keep (Keep.cons 0 rfl (Keep.cons 2 rfl (Keep.cons 6 rfl (Keep.cons 7 rfl (Keep.cons 8 rfl (Keep.cons 9 rfl (Keep.cons 10 rfl (Keep.cons 11 rfl (Keep.nil _))))))))) ?_
        refine CW.sealAcc (u := .slice a58 _ c58) (by repeat (first | exact Pick.here _ | apply Pick.there)) (show RdL _ _ ([] ++ n58) from hn58) (by unfold lim; omega) ?_
        intro M4 a9 c9 hs4 h9 hc9 hr9
        cases h9
        rw [cut_tail] at hr9
        have hnode := (hbase.mono hs4).set 13 hr9
        rw [← withKids_enc] at hnode
        refine CW.regionH mix _ _ (fun _ hw => hw) ?_
        refine HL.take 0 rfl (by kernel_rfl) (by kernel_rfl) (by kernel_rfl) rfl (Y.move rfl) rfl ?_
        refine HL.take 1 rfl (by kernel_rfl) (by kernel_rfl) (by kernel_rfl) rfl (Y.move rfl) rfl ?_
        refine HL.take 2 rfl (by kernel_rfl) (by kernel_rfl) (by kernel_rfl) rfl (Y.len rfl Try.underlying28) rfl ?_
        refine HL.take 3 rfl (by kernel_rfl) (by kernel_rfl) (by kernel_rfl) rfl (Y.move rfl) rfl ?_
        refine HL.take 4 rfl (by kernel_rfl) (by kernel_rfl) (by kernel_rfl) rfl (Y.sub rfl rfl (by omega)) rfl ?_
        refine HL.take 5 rfl (by kernel_rfl) (by kernel_rfl) (by kernel_rfl) rfl (Y.move rfl) rfl ?_
        refine HL.take 6 rfl (by kernel_rfl) (by kernel_rfl) (by kernel_rfl) rfl (Y.len rfl Try.underlying28) rfl ?_
        refine HL.take 7 rfl (by kernel_rfl) (by kernel_rfl) (by kernel_rfl) rfl (Y.move rfl) rfl ?_
        refine HL.take 8 rfl (by kernel_rfl) (by kernel_rfl) (by kernel_rfl) rfl (Y.sub rfl rfl (by omega)) rfl ?_
        refine HL.take 9 rfl (by kernel_rfl) (by kernel_rfl) (by kernel_rfl) rfl (Y.slice 0 (T.length - kk) (T.length - kk) rfl rfl ⟨_, rfl, (by omega)⟩ ⟨_, rfl, (by omega)⟩ (by simp) (by omega) (by omega) (by omega) slice28) rfl ?_
        refine HL.take 10 rfl (by kernel_rfl) (by kernel_rfl) (by kernel_rfl) rfl (Y.loadAll rfl (by repeat (first | exact List.Mem.head _ | apply List.Mem.tail)) (by exact hnode.1.trans (Ex.enc_len _)) agg31) rfl ?_
        refine HL.step 11 rfl (by kernel_rfl) ?_
        refine RL.buildSlice _ elem28 rfl (by decide) (fill1 rfl (by exact hnode.1.trans (Ex.enc_len _))) rfl fun b71 => ?_
        refine RL.nil ⟨keep_same (by repeat (first | exact List.Sublist.refl _ | apply List.Sublist.cons_cons | apply List.Sublist.cons)), ?_⟩
        refine HL.step 12 rfl (by kernel_rfl) ?_
        refine RL.appendFresh elem28 rfl rfl (Rd.cut (Rd.mono (hs3.trans hs4) _ _ hrl) 0 (T.length - kk) (T.length - kk) (by omega) (by omega) (by omega) (by omega)) (SrcOk.own (m := 1) (by repeat (first | exact List.Mem.head _ | apply List.Mem.tail)) (by exact hnode.1.trans (Ex.enc_len _)) hnode.one) (by omega) (by first | omega | (unfold lim; omega)) (by first | omega | (unfold lim; omega)) rfl fun a72 c72 us72 hc72 hus72 => ?_
        refine RL.nil ⟨keep_same (by repeat (first | exact List.Sublist.refl _ | apply List.Sublist.cons_cons | apply List.Sublist.cons)), ?_⟩
        refine HL.take 13 rfl (by kernel_rfl) (by kernel_rfl) (by kernel_rfl) rfl (Y.assign rfl) rfl ?_
        refine HL.done (by kernel_rfl) ?_
        refine hK8 _ _ _ ?_
        refine CW.keep (Keep.cons 0 rfl (Keep.cons 2 rfl (Keep.cons 6 rfl (Keep.cons 7 rfl (Keep.cons 8 rfl (Keep.cons 9 rfl (Keep.nil _))))))) ?_
        refine CW.sealAcc (u := .slice a72 _ c72) (by repeat (first | exact Pick.here _ | apply Pick.there)) (hus72.append hnode) (by unfold lim; omega) ?_
        intro M5 a8 c8 hs5 h8 hc8 hr8
        cases h8
        rw [cut_head _ _ (by omega)] at hr8
        have hTn : T.take (T.length - kk) ++ [withKids (contentE ((atL l (1 + (i : Int)) 1000).tmod 9) (idOf (frm + i))) (T.drop (T.length - kk)) (treeNames l i)] = treeGo l n frm (i + 1) := by rw [treeGo, treeStep, hT, hkk]
        have hlen1 : T.length - kk - 0 + 1 = (treeGo l n frm (i + 1)).length := by rw [← hTn, List.length_append, List.length_take, List.length_singleton]; omega
        refine CW.region ?_
        refine RL.q (Y.move rfl) rfl ?_
        refine RL.q (Y.add rfl rfl (by omega)) rfl ?_
        refine RL.q (Y.assign rfl) rfl ?_
        refine RL.nil ?_
        refine ⟨n - (i + 1), [(8, _), (9, _)], ?_, (Keep.cons 8 rfl (Keep.cons 9 rfl (Keep.cons 0 rfl (Keep.cons 2 rfl (Keep.cons 6 rfl (Keep.cons 7 rfl (Keep.nil _))))))), ?_⟩
        · omega
        · exact Turn.drop ⟨[], rfl, hsub.trans (hs3.trans (hs4.trans hs5)), i + 1, _, _, rfl, by omega, by rw [← hlen1]; rfl, rfl, by rw [hTn] at hr8; rw [← hlen1] at hr8 ⊢; exact hr8⟩ (by repeat (first | exact List.Sublist.refl _ | apply List.Sublist.cons_cons | apply List.Sublist.cons))
  · refine CW.exit ?_
    refine hK4 _ _ _ ?_
    refine CW.seq fun K21 hK21 => ?_
    refine CW.addRd hrl ?_
    have h0 := treeGo_pos l n frm i (by omega)
    refine CW.region ?_
    refine RL.q (Y.move rfl) rfl ?_
    refine RL.q (Y.index 0 rfl rfl rfl h0 slice28 (fun _ hw => hw.rd_some (by repeat (first | exact List.Mem.head _ | apply List.Mem.tail)) (by omega))) rfl ?_
    refine RL.loadAgg rfl rfl (by repeat (first | exact List.Mem.head _ | apply List.Mem.tail)) (flat_take Ex.enc_len _ 0 _ (List.getElem?_eq_getElem h0)) (by first | rfl | exact Ex.enc_len _ | exact Ty.enc_len _ | exact MNode.enc_len _ | exact RNode.enc_len _) agg31 rfl fun us75 hul75 hur75 => ?_
    refine RL.storeAgg us75 rfl rfl (by repeat (first | exact Repl.here _ | apply Repl.there)) (by simp [hul75]) (by simp [hul75]) (fun _ _ => hur75.one) (by rw [hul75]; exact size31) ?_
    refine RL.nil ?_
    refine hK21 _ _ _ ?_
    refine CW.keep (Keep.cons 6 rfl (Keep.nil _)) ?_
    refine CW.ret ?_
    have e : tree l most frm = (treeGo l n frm i)[0] := by
      have en : n = i := by omega
      subst en
      rw [tree, hn, Int.toNat_natCast]
      exact headD0 h0
    rw [e]
    exact CellAt.mk rfl (by repeat (first | exact List.Mem.head _ | apply List.Mem.tail)) hul75 agg31 (Turn.drop ⟨hsub, rfl, _, rfl, hur75⟩ (by repeat (first | exact List.Sublist.refl _ | apply List.Sublist.cons_cons | apply List.Sublist.cons)))
end Go.Proofs.Ytjkcjbicleohkaa
