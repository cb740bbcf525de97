/- THE WALKS, 15: the table of least costs by the reference. Printed by m16o.py. -/
import Derived.Test.YtjkcjbicleohkaaWn
import Derived.Test.YtjkcjbicleohkaaFix
import Derived.Test.YtjkcjbicleohkaaXeL
namespace Go.Proofs.Ytjkcjbicleohkaa
open Xe

set_option maxHeartbeats 1000000 in
theorem rleast_ok (w0 : World) (M : Mem) (Γ : List As) (e1 e2 : Ex) (vs1 vs2 : List Value) (hv1 : RdL M e1.enc vs1) (hv2 : RdL M e2.enc vs2) (hg1 : good e1) (hg2 : good e2) :
    CallOk Try.prog w0 M Γ 14 #[.agg vs1.toArray, .agg vs2.toArray] (Gives M Γ fun M' v => ∃ d, FixD (pon e1 0) (pon e2 0) d ∧ Rd M' (dtab d) v) := by
  have hl1 : vs1.length = 15 := hv1.1.trans (Ex.enc_len e1)
  have hl2 : vs2.length = 15 := hv2.1.trans (Ex.enc_len e2)
  obtain ⟨hr1, hA⟩ := rnodes_good hg1
  obtain ⟨hr2, hB⟩ := rnodes_good hg2
  obtain ⟨a, ha⟩ : ∃ a, a = (rnodes e1).1 := ⟨_, rfl⟩
  obtain ⟨b, hb⟩ : ∃ b, b = (rnodes e2).1 := ⟨_, rfl⟩
  rw [← ha] at hA
  rw [← hb] at hB
  have hpa := pon_post1 e1
  have hpb := pon_post1 e2
  have hlA := pon_len e1 0
  have hlB := pon_len e2 0
  have hla1 := hg1.2.1
  have hlb1 := hg2.2.1
  obtain ⟨A, hAe⟩ : ∃ A, A = pon e1 0 := ⟨_, rfl⟩
  obtain ⟨B, hBe⟩ : ∃ B, B = pon e2 0 := ⟨_, rfl⟩
  rw [← hAe] at hA hpa hlA ⊢
  rw [← hBe] at hB hpb hlB ⊢
  have hla : A.length = a.length := by rw [← hA, List.length_map]
  have hlb : B.length = b.length := by rw [← hB, List.length_map]
  refine enter (f := 14) Try.func14 rfl Try.ntmps14 rfl rfl fun w1 hw1 => ?_
  refine CW.seq fun K1 hK1 => ?_
  refine CW.region ?_
  refine RL.box _ rfl rfl rfl fun b2 => ?_
  refine RL.box _ rfl rfl rfl fun b3 => ?_
  refine RL.q (Y.assign rfl) rfl ?_
  refine RL.nil ?_
  refine hK1 _ _ _ ?_
  refine CW.keep (Keep.cons 2 rfl (Keep.cons 3 rfl (Keep.nil _))) ?_
  refine CW.seq fun K2 hK2 => ?_
  refine CW.region ?_
  refine RL.q (Y.loadAll rfl (by repeat (first | exact List.Mem.head _ | apply List.Mem.tail)) hl1 agg31) rfl ?_
  refine RL.call rfl func17 rfl rfl (nodes_ok _ _ _ e1 vs1 hv1) ?_
  rintro _ M1 _ ⟨hs1, rfl, u1, rfl, hu1⟩
  rw [← ha] at hu1
  obtain ⟨a1, c1, rfl, hc1, hlim1, hlen1⟩ := hu1.slice
  refine RL.q (Y.move rfl) rfl ?_
  refine RL.q (Y.extract rfl rfl) rfl ?_
  refine RL.q (Y.extract rfl rfl) rfl ?_
  refine RL.q (Y.assign rfl) rfl ?_
  refine RL.q (Y.assign rfl) rfl ?_
  refine RL.nil ?_
  refine hK2 _ _ _ ?_
  refine CW.keep (Keep.cons 3 rfl (Keep.cons 5 rfl (Keep.cons 6 rfl (Keep.nil _)))) ?_
  rw [vbb (rnodes e1).2]
  refine CW.seq fun K3 hK3 => ?_
  refine CW.region ?_
  refine RL.q (Y.loadAll rfl (by repeat (first | exact List.Mem.head _ | apply List.Mem.tail)) hl2 agg31) rfl ?_
  refine RL.call rfl func17 rfl rfl (nodes_ok _ _ _ e2 vs2 (hv2.mono hs1)) ?_
  rintro _ M2 _ ⟨hs2, rfl, u2, rfl, hu2⟩
  rw [← hb] at hu2
  obtain ⟨a2, c2, rfl, hcc2, hlim2, hlen2⟩ := hu2.slice
  refine RL.q (Y.move rfl) rfl ?_
  refine RL.q (Y.extract rfl rfl) rfl ?_
  refine RL.q (Y.extract rfl rfl) rfl ?_
  refine RL.q (Y.assign rfl) rfl ?_
  refine RL.q (Y.assign rfl) rfl ?_
  refine RL.nil ?_
  refine hK3 _ _ _ ?_
  refine CW.keep (Keep.cons 5 rfl (Keep.cons 6 rfl (Keep.cons 7 rfl (Keep.cons 8 rfl (Keep.nil _))))) ?_
  rw [vbb (rnodes e2).2]
  refine CW.seq fun K4 hK4 => ?_
  refine CW.seq fun K5 hK5 => ?_
  refine CW.region ?_
  refine RL.qs (Y.move rfl) rfl (fun g22 => ?_) (fun g22 => ?_)
  · refine RL.q (Y.not rfl) rfl ?_
    refine RL.q (Y.move rfl) rfl ?_
    refine RL.qg ⟨_, _, rfl, rfl, rfl⟩ (Y.move rfl) rfl ?_
    refine RL.qg ⟨_, _, rfl, rfl, rfl⟩ (Y.notD rfl) rfl ?_
    refine RL.q (Y.pickF rfl rfl) rfl ?_
    refine RL.nil ?_
    refine hK5 _ _ _ ?_
    refine CW.keep (Keep.cons 5 rfl (Keep.cons 7 rfl (Keep.cons 27 rfl (Keep.nil _)))) ?_
    refine CW.ite rfl (fun h1 => ?_) (fun h1 => ?_)
    · refine CW.seq fun K6 hK6 => ?_
      refine CW.region ?_
      refine RL.q (Y.assign rfl) rfl ?_
      refine RL.nil ?_
      refine hK6 _ _ _ ?_
      refine CW.keep (Keep.cons 4 rfl (Keep.nil _)) ?_
      refine CW.ret ?_
      exact absurd hr2 h1
    · refine CW.skip ?_
      refine hK4 _ _ _ ?_
      refine CW.seq fun K7 hK7 => ?_
      refine CW.region ?_
      refine RL.q (Y.assign rfl) rfl ?_
      refine RL.nil ?_
      refine hK7 _ _ _ ?_
      refine CW.keep (Keep.cons 5 rfl (Keep.cons 7 rfl (Keep.cons 9 rfl (Keep.nil _)))) ?_
      refine CW.accNil 22 1 ?_
      refine CW.seq fun K8 hK8 => ?_
      refine CW.seq fun K9 hK9 => ?_
      refine CW.region ?_
      refine RL.q (Y.assign rfl) rfl ?_
      refine RL.nil ?_
      refine hK9 _ _ _ ?_
      refine CW.keep (Keep.cons 5 rfl (Keep.cons 7 rfl (Keep.cons 9 rfl (Keep.cons 10 rfl (Keep.nil _))))) ?_
      refine CW.block ?_
      -- LOOP 1: live [5, 7, 9, 10] changed [9, 10]
      refine CW.keep (Keep.cons 9 rfl (Keep.cons 10 rfl (Keep.cons 5 rfl (Keep.cons 7 rfl (Keep.nil _))))) ?_
      refine CW.loopF (fun mm Lc M3 Γc => ∃ (i : Nat) (l : List (Nat × List Int)) (us : List Value) (a9 : Option Addr) (c9 : Nat), mm = a.length - i ∧ i ≤ a.length ∧ Lc = [(9, .slice a9 i c9), (10, vint i)] ∧ Γc = .acc (.slice a9 i c9) 22 1 i us :: mat l ∧ M3 = M2 ∧ l.length = i ∧ l.map rowv = us ∧ Dn A B i i 0 (rows l)) a.length [(9, _), (10, _)] (.acc (.slice none 0 0) 22 1 0 [] :: mat []) rfl rfl ⟨0, [], [], none, 0, rfl, Nat.zero_le _, rfl, rfl, rfl, rfl, rfl, Dn.start A B 0⟩ ?_
      rintro mm Lc M3 Γc hsub ⟨i, l, us, a9, c9, rfl, hi, rfl, rfl, rfl, hll, hus, hD⟩
      refine CW.drop (List.Sublist.refl (.acc (.slice a9 i c9) 22 1 i us :: (mat l ++ _))) ?_
      refine CW.seq fun K10 hK10 => ?_
      refine CW.seq fun K11 hK11 => ?_
      refine CW.region ?_
      refine RL.q (Y.move rfl) rfl ?_
      refine RL.q (Y.move rfl) rfl ?_
      refine RL.q (Y.len rfl Try.underlying44) rfl ?_
      refine RL.q (Y.lss rfl rfl) rfl ?_
      refine RL.nil ?_
      refine hK11 _ _ _ ?_
      refine CW.keep (Keep.cons 5 rfl (Keep.cons 7 rfl (Keep.cons 9 rfl (Keep.cons 10 rfl (Keep.cons 31 rfl (Keep.nil _)))))) ?_
      refine CW.ite rfl (fun h2 => ?_) (fun h2 => ?_)
      · refine CW.skip ?_
        refine hK10 _ _ _ ?_
        refine CW.seq fun K12 hK12 => ?_
        refine CW.block ?_
        refine CW.seq fun K13 hK13 => ?_
        refine CW.region ?_
        refine RL.q (Y.move rfl) rfl ?_
        refine RL.q (Y.move rfl) rfl ?_
        refine RL.q (Y.len rfl Try.underlying44) rfl ?_
        refine RL.make (k := b.length) elem22 zero3 rfl rfl (by rfl) (by rfl) (by first | omega | (unfold lim; omega)) (by first | omega | (unfold lim; omega)) rfl fun b37 => ?_
        refine RL.buildSlice [Value.slice (some ⟨b37, 0, none⟩) b.length b.length] elem35 rfl (by decide) (fill1 rfl rfl) rfl fun b38 => ?_
        refine RL.append elem35 rfl rfl (by repeat (first | exact Pick.here _ | apply Pick.there)) (SrcOk.own (by repeat (first | exact List.Mem.head _ | apply List.Mem.tail)) (by rfl) (by simp [Value.oneCell'])) (by first | omega | (unfold lim; omega)) (by first | omega | (unfold lim; omega)) rfl fun a39 c39 hc39 => ?_
        refine RL.q (Y.assign rfl) rfl ?_
        refine RL.nil ?_
        refine hK13 _ _ _ ?_
        refine CW.keep (Keep.cons 5 rfl (Keep.cons 7 rfl (Keep.cons 9 rfl (Keep.cons 10 rfl (Keep.nil _))))) ?_
        rw [made_ints]
        refine CW.front (x := .own b37 _ _) (by repeat (first | exact Pick.here _ | apply Pick.there)) ?_
        refine CW.matPush [_, _] (b37, List.replicate b.length 0) ?_
        refine CW.front (x := .own b38 _ _) (by repeat (first | exact Pick.here _ | apply Pick.there)) ?_
        obtain ⟨l0, hl0⟩ : ∃ l0, l0 = l ++ [(b37, List.replicate b.length (0 : Int))] := ⟨_, rfl⟩
        have hD0 : Dn A B (i + 1) i 0 (rows l0) := by rw [hl0, rows, List.map_append]; have := hD.grow hpa hpb (by omega); rw [hlb] at this; exact this
        have hl0l : l0.length = i + 1 := by rw [hl0, List.length_append, hll]; rfl
        rw [← hl0]
        have hus0 : l0.map rowv = us ++ [Value.slice (some ⟨b37, 0, none⟩) b.length b.length] := by rw [hl0, List.map_append, hus]; simp [rowv]
        generalize us ++ [Value.slice (some ⟨b37, 0, none⟩) b.length b.length] = us0 at *
        refine CW.drop (List.Sublist.cons _ (List.Sublist.refl _)) ?_
        refine CW.seq fun K14 hK14 => ?_
        refine CW.region ?_
        refine RL.q (Y.assign rfl) rfl ?_
        refine RL.nil ?_
        refine hK14 _ _ _ ?_
        refine CW.keep (Keep.cons 5 rfl (Keep.cons 7 rfl (Keep.cons 9 rfl (Keep.cons 10 rfl (Keep.cons 11 rfl (Keep.nil _)))))) ?_
        refine CW.block ?_
        -- LOOP 2: live [5, 7, 9, 10, 11] changed [11]
        refine CW.keep (Keep.cons 11 rfl (Keep.cons 5 rfl (Keep.cons 7 rfl (Keep.cons 9 rfl (Keep.cons 10 rfl (Keep.nil _)))))) ?_
        refine CW.loopF (fun mm Lc M4 Γc => ∃ (j : Nat) (l : List (Nat × List Int)), mm = b.length - j ∧ j ≤ b.length ∧ Lc = [(11, vint j)] ∧ Γc = .acc (.slice a39 (i + 1) c39) 22 1 (i + 1) us0 :: mat l ∧ M4 = M3 ∧ l.length = i + 1 ∧ l.map rowv = us0 ∧ Dn A B (i + 1) i j (rows l)) b.length [(11, _)] (.acc (.slice a39 (i + 1) c39) 22 1 (i + 1) us0 :: mat l0) rfl rfl ⟨0, l0, rfl, Nat.zero_le _, rfl, rfl, rfl, hl0l, hus0, hD0⟩ ?_
        rintro mm Lc M4 Γc hsub4 ⟨j, l2, rfl, hj, rfl, rfl, rfl, hl2l, hus2, hD2⟩
        refine CW.drop (List.Sublist.refl (.acc (.slice a39 (i + 1) c39) 22 1 (i + 1) us0 :: (mat l2 ++ _))) ?_
        refine CW.seq fun K15 hK15 => ?_
        refine CW.seq fun K16 hK16 => ?_
        refine CW.region ?_
        refine RL.q (Y.move rfl) rfl ?_
        refine RL.q (Y.move rfl) rfl ?_
        refine RL.q (Y.len rfl Try.underlying44) rfl ?_
        refine RL.q (Y.lss rfl rfl) rfl ?_
        refine RL.nil ?_
        refine hK16 _ _ _ ?_
        refine CW.keep (Keep.cons 5 rfl (Keep.cons 7 rfl (Keep.cons 9 rfl (Keep.cons 10 rfl (Keep.cons 11 rfl (Keep.cons 43 rfl (Keep.nil _))))))) ?_
        refine CW.ite rfl (fun h3 => ?_) (fun h3 => ?_)
        · refine CW.skip ?_
          refine hK15 _ _ _ ?_
          refine CW.seq fun K17 hK17 => ?_
          refine CW.block ?_
          obtain ⟨bi, r, hli⟩ := rows_ex (l := l2) (i := i) (by omega)
          subst hus2
          have hgi : (l2.map rowv)[i * 1]? = some (rowv (bi, r)) := by rw [Nat.mul_one, List.getElem?_map, hli]; rfl
          have hrl : r.length = B.length := hD2.row r (List.mem_of_getElem? (rows_get hli))
          have hz := dpEnd_bd (a := A) (b := B) hD2.num (i := i) (j := j) (by omega) (by omega)
          have hrow : ∀ p ∈ l2, p.2.length ≤ lim := fun p hp => by have := hD2.row p.2 (List.mem_map.2 ⟨p, hp, rfl⟩); unfold lim; omega
          refine CW.regionH mix _ [.acc (.slice a39 (i + 1) c39) 22 1 (i + 1) (l2.map rowv)] (fun _ hw => hw.sub sub_head) ?_
          refine HL.take 0 rfl (by kernel_rfl) (by kernel_rfl) (by kernel_rfl) rfl (Y.move rfl) rfl ?_
          refine HL.take 1 rfl (by kernel_rfl) (by kernel_rfl) (by kernel_rfl) rfl (Y.move rfl) rfl ?_
          refine HL.take 2 rfl (by kernel_rfl) (by kernel_rfl) (by kernel_rfl) rfl (Y.indexAcc i rfl rfl rfl (by omega) slice35 (by repeat (first | exact List.Mem.head _ | apply List.Mem.tail)) hgi) rfl ?_
          refine HL.take 3 rfl (by kernel_rfl) (by kernel_rfl) (by kernel_rfl) rfl (Y.loadAcc rfl (by repeat (first | exact List.Mem.head _ | apply List.Mem.tail)) hgi flat22) rfl ?_
          refine HL.take 4 rfl (by kernel_rfl) (by kernel_rfl) (by kernel_rfl) rfl (Y.move rfl) rfl ?_
          refine HL.take 5 rfl (by kernel_rfl) (by kernel_rfl) (by kernel_rfl) rfl (Y.move rfl) rfl ?_
          refine HL.take 6 rfl (by kernel_rfl) (by kernel_rfl) (by kernel_rfl) rfl (Y.move rfl) rfl ?_
          refine HL.take 7 rfl (by kernel_rfl) (by kernel_rfl) (by kernel_rfl) rfl (Y.move rfl) rfl ?_
          refine HL.take 8 rfl (by kernel_rfl) (by kernel_rfl) (by kernel_rfl) rfl (Y.move rfl) rfl ?_
          refine HL.take 9 rfl (by kernel_rfl) (by kernel_rfl) (by kernel_rfl) rfl (Y.move rfl) rfl ?_
          refine HL.step 10 rfl (by kernel_rfl) ?_
          refine RL.callv rfl func37 rfl rfl (CallOk.lendv (.acc (.slice a39 (i + 1) c39) 22 1 (i + 1) (l2.map rowv) :: mat l2) _ (tab_perm _) (fun y hy => by rcases List.mem_cons.1 hy with rfl | hy; trivial; exact mat_owns l2 y hy) fun M5 hl5 => hA ▸ hB ▸ F_ok _ _ _ a b _ _ _ i j (rows l2) (Rd.mono (hs2.trans hl5.sub) _ _ hu1) (Rd.mono hl5.sub _ _ hu2) (hl5.tabAcc hrow (by unfold lim; omega) (by omega)) (hA.symm ▸ hpa) (hB.symm ▸ hpb) (hB.symm ▸ hD2.le (by omega)) (by omega) (by omega) (by omega) (by omega)) ?_
          refine RL.nil ⟨keep_same sub_head, ?_⟩
          refine HL.take 11 rfl (by kernel_rfl) (by kernel_rfl) (by kernel_rfl) rfl (Y.index j rfl rfl rfl (by show j < r.length; omega) slice22 (fun _ _ => rfl)) rfl ?_
          refine HL.step 12 rfl (by kernel_rfl) ?_
          refine RL.store (ints (r.set j (dpEnd A B (rows l2) i j))) rfl rfl (.there _ (Repl.mat hli (r.set j (dpEnd A B (rows l2) i j)) _)) (ints_set _ _ j _ (by omega)) (by rw [ints_len]; omega) (by rfl) size3 ?_
          refine RL.nil ⟨keep_same sub_head, ?_⟩
          refine HL.done (by kernel_rfl) ?_
          refine hK17 _ _ _ ?_
          refine CW.keep (Keep.cons 5 rfl (Keep.cons 7 rfl (Keep.cons 9 rfl (Keep.cons 10 rfl (Keep.cons 11 rfl (Keep.nil _)))))) ?_
          refine CW.region ?_
          refine RL.q (Y.move rfl) rfl ?_
          refine RL.q (Y.add rfl rfl (by omega)) rfl ?_
          refine RL.q (Y.assign rfl) rfl ?_
          refine RL.nil ?_
          refine ⟨b.length - (j + 1), [(11, _)], ?_, (Keep.cons 11 rfl (Keep.cons 5 rfl (Keep.cons 7 rfl (Keep.cons 9 rfl (Keep.cons 10 rfl (Keep.nil _)))))), ?_⟩
          · omega
          · exact Turn.drop ⟨.acc (.slice a39 (i + 1) c39) 22 1 (i + 1) (l2.map rowv) :: mat (l2.set i (bi, r.set j (dpEnd A B (rows l2) i j))), rfl, hsub4, j + 1, _, rfl, by omega, rfl, rfl, rfl, by rw [List.length_set]; exact hl2l, rowv_set hli (by rw [List.length_set]), by rw [rows_set hli]; exact hD2.set hpa hpb (by omega) (by omega) (by omega) (by omega) (rows_get hli)⟩ (List.Sublist.refl _)
        · refine CW.exit ?_
          refine hK12 _ _ _ ?_
          refine CW.region ?_
          refine RL.q (Y.move rfl) rfl ?_
          refine RL.q (Y.add rfl rfl (by omega)) rfl ?_
          refine RL.q (Y.assign rfl) rfl ?_
          refine RL.nil ?_
          refine ⟨a.length - (i + 1), [(9, _), (10, _)], ?_, (Keep.cons 9 rfl (Keep.cons 10 rfl (Keep.cons 5 rfl (Keep.cons 7 rfl (Keep.nil _))))), ?_⟩
          · omega
          · exact Turn.drop ⟨.acc (.slice a39 (i + 1) c39) 22 1 (i + 1) us0 :: mat l2, rfl, hsub, i + 1, l2, us0, a39, c39, rfl, by omega, rfl, rfl, rfl, hl2l, hus2, by have h9 : j = B.length := (by omega); rw [h9] at hD2; exact hD2.next⟩ (List.Sublist.refl _)
      · refine CW.exit ?_
        refine hK8 _ _ _ ?_
        refine CW.seq fun K18 hK18 => ?_
        refine CW.region ?_
        refine RL.q (Y.move rfl) rfl ?_
        refine RL.q (Y.assign rfl) rfl ?_
        refine RL.nil ?_
        refine hK18 _ _ _ ?_
        refine CW.keep (Keep.cons 4 rfl (Keep.nil _)) ?_
        refine CW.ret ?_
        refine ⟨_, rfl, ?_⟩
        have hrow : ∀ p ∈ l, p.2.length ≤ lim := fun p hp => by have := hD.row p.2 (List.mem_map.2 ⟨p, hp, rfl⟩); unfold lim; omega
        subst hus
        have h9 : i = A.length := by omega
        rw [h9] at hD
        exact Turn.sealTabAcc (tab_perm _) hrow (by unfold lim; omega) (by omega) (by repeat (first | exact List.Sublist.refl _ | apply List.Sublist.cons_cons | apply List.Sublist.cons)) fun M5 h1 h2 => ⟨hs1.trans (hs2.trans h1), rfl, rows l, hD.done, h2⟩
  · refine RL.q (Y.not rfl) rfl ?_
    refine RL.q (Y.move rfl) rfl ?_
    refine RL.no ⟨_, _, rfl, rfl, rfl⟩ rfl ?_
    refine RL.no ⟨_, _, rfl, rfl, rfl⟩ rfl ?_
    refine RL.q (Y.pickT rfl rfl) rfl ?_
    refine RL.nil ?_
    refine hK5 _ _ _ ?_
    refine CW.keep (Keep.cons 5 rfl (Keep.cons 7 rfl (Keep.cons 27 rfl (Keep.nil _)))) ?_
    refine CW.yes rfl ?_
    refine CW.seq fun K19 hK19 => ?_
    refine CW.region ?_
    refine RL.q (Y.assign rfl) rfl ?_
    refine RL.nil ?_
    refine hK19 _ _ _ ?_
    refine CW.keep (Keep.cons 4 rfl (Keep.nil _)) ?_
    refine CW.ret ?_
    exact absurd hr1 g22
end Go.Proofs.Ytjkcjbicleohkaa
