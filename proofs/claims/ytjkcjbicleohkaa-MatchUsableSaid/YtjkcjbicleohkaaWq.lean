/- THE WALKS, 17: duals that are right. Printed by m16q.py. -/
import Derived.Test.YtjkcjbicleohkaaWp
namespace Go.Proofs.Ytjkcjbicleohkaa
open Xe

set_option maxHeartbeats 1000000 in
theorem rright_ok (w0 : World) (M : Mem) (Γ : List As) (a b : List RNode) (A B : List MNode) (hA : a.map RNode.toM = A) (hB : b.map RNode.toM = B) (u v ud : Value) (d : List (List Int)) (hu : Rd M (RNode.encs a) u) (hv0 : Rd M (RNode.encs b) v) (hd : Rd M (dtab d) ud)
    (hpa : Post1 A) (hpb : Post1 B) (hla : a.length ≤ 1000) (hlb : b.length ≤ 1000) :
    CallOk Try.prog w0 M Γ 48 #[u, v, ud] (Is M Γ (.bool (decide (RightD A B d)))) := by
  obtain ⟨a1, c1, rfl, hc1, hlim1, hlen1⟩ := hu.slice
  obtain ⟨a2, c2, rfl, hcc2, hlim2, hlen2⟩ := hv0.slice
  obtain ⟨a3, c3, rfl, hc3, hlim3, hlen3⟩ := hd.slice
  have hlA : A.length = a.length := by rw [← hA, List.length_map]
  have hlB : B.length = b.length := by rw [← hB, List.length_map]
  refine enter (f := 48) Try.func48 rfl Try.ntmps48 rfl rfl fun w1 hw1 => ?_
  refine CW.addRd hd ?_
  refine CW.seq fun K1 hK1 => ?_
  refine CW.region ?_
  refine RL.q (Y.assign rfl) rfl ?_
  refine RL.nil ?_
  refine hK1 _ _ _ ?_
  refine CW.keep (Keep.cons 0 rfl (Keep.cons 1 rfl (Keep.cons 2 rfl (Keep.nil _)))) ?_
  refine CW.seq fun K2 hK2 => ?_
  refine CW.seq fun K3 hK3 => ?_
  refine CW.region ?_
  refine RL.q (Y.move rfl) rfl ?_
  refine RL.q (Y.len rfl Try.underlying35) rfl ?_
  refine RL.q (Y.move rfl) rfl ?_
  refine RL.q (Y.len rfl Try.underlying44) rfl ?_
  refine RL.q (Y.neq rfl rfl) rfl ?_
  refine RL.nil ?_
  refine hK3 _ _ _ ?_
  refine CW.keep (Keep.cons 0 rfl (Keep.cons 1 rfl (Keep.cons 2 rfl (Keep.cons 15 rfl (Keep.nil _))))) ?_
  refine CW.ite rfl (fun h1 => ?_) (fun h1 => ?_)
  · refine CW.seq fun K4 hK4 => ?_
    refine CW.region ?_
    refine RL.q (Y.assign rfl) rfl ?_
    refine RL.nil ?_
    refine hK4 _ _ _ ?_
    refine CW.keep (Keep.cons 6 rfl (Keep.nil _)) ?_
    refine CW.ret ?_
    exact ⟨_, rfl, Turn.drop ⟨vbF (not_right_len (by omega)), rfl, rfl⟩ (by repeat (first | exact List.Sublist.refl _ | apply List.Sublist.cons_cons | apply List.Sublist.cons))⟩
  · refine CW.skip ?_
    refine hK2 _ _ _ ?_
    refine CW.seq fun K5 hK5 => ?_
    refine CW.seq fun K6 hK6 => ?_
    refine CW.region ?_
    refine RL.q (Y.assign rfl) rfl ?_
    refine RL.nil ?_
    refine hK6 _ _ _ ?_
    refine CW.keep (Keep.cons 0 rfl (Keep.cons 1 rfl (Keep.cons 2 rfl (Keep.cons 7 rfl (Keep.nil _))))) ?_
    refine CW.block ?_
    -- LOOP 1: live [0, 1, 2, 7] changed [7]
    refine CW.keep (Keep.cons 7 rfl (Keep.cons 0 rfl (Keep.cons 1 rfl (Keep.cons 2 rfl (Keep.nil _))))) ?_
    refine CW.loopF (fun mm Lc M1 Γc => ∃ i : Nat, mm = a.length - i ∧ i ≤ a.length ∧ Lc = [(7, vint i)] ∧ Γc = [] ∧ M1 = M ∧ ∀ q (hq : q < d.length), q < i → rowOk B d[q]) a.length [(7, _)] [] rfl rfl ⟨0, rfl, Nat.zero_le _, rfl, rfl, rfl, fun _ _ h => absurd h (Nat.not_lt_zero _)⟩ ?_
    rintro mm Lc M1 Γc hsub ⟨i, rfl, hi, rfl, rfl, rfl, hT⟩
    refine CW.seq fun K7 hK7 => ?_
    refine CW.seq fun K8 hK8 => ?_
    refine CW.region ?_
    refine RL.q (Y.move rfl) rfl ?_
    refine RL.q (Y.move rfl) rfl ?_
    refine RL.q (Y.len rfl Try.underlying44) rfl ?_
    refine RL.q (Y.lss rfl rfl) rfl ?_
    refine RL.nil ?_
    refine hK8 _ _ _ ?_
    refine CW.keep (Keep.cons 0 rfl (Keep.cons 1 rfl (Keep.cons 2 rfl (Keep.cons 7 rfl (Keep.cons 19 rfl (Keep.nil _)))))) ?_
    refine CW.ite rfl (fun h2 => ?_) (fun h2 => ?_)
    · have hid : i < d.length := by omega
      refine CW.skip ?_
      refine hK7 _ _ _ ?_
      refine CW.seq fun K9 hK9 => ?_
      refine CW.block ?_
      refine CW.seq fun K10 hK10 => ?_
      refine CW.seq fun K11 hK11 => ?_
      refine CW.region ?_
      refine RL.q (Y.move rfl) rfl ?_
      refine RL.q (Y.move rfl) rfl ?_
      refine RL.q (Y.index i rfl rfl rfl hid slice35 (fun _ hw => hw.rd_some (by repeat (first | exact List.Mem.head _ | apply List.Mem.tail)) (by omega))) rfl ?_
      refine RL.loadSl rfl rfl (by repeat (first | exact List.Mem.head _ | apply List.Mem.tail)) (dtab_get (List.getElem?_eq_getElem hid)) flat22 rfl fun a25 c25 hc25 hl25 => ?_
      refine RL.q (Y.len rfl Try.underlying22) rfl ?_
      refine RL.q (Y.move rfl) rfl ?_
      refine RL.q (Y.len rfl Try.underlying44) rfl ?_
      refine RL.q (Y.neq rfl rfl) rfl ?_
      refine RL.nil ?_
      refine hK11 _ _ _ ?_
      refine CW.keep (Keep.cons 0 rfl (Keep.cons 1 rfl (Keep.cons 2 rfl (Keep.cons 7 rfl (Keep.cons 29 rfl (Keep.nil _)))))) ?_
      refine CW.ite rfl (fun h3 => ?_) (fun h3 => ?_)
      · refine CW.seq fun K12 hK12 => ?_
        refine CW.region ?_
        refine RL.q (Y.assign rfl) rfl ?_
        refine RL.nil ?_
        refine hK12 _ _ _ ?_
        refine CW.keep (Keep.cons 6 rfl (Keep.nil _)) ?_
        refine CW.ret ?_
        exact ⟨_, rfl, Turn.drop ⟨vbF (not_right_row hid (by omega)), rfl, rfl⟩ (by repeat (first | exact List.Sublist.refl _ | apply List.Sublist.cons_cons | apply List.Sublist.cons))⟩
      · refine CW.skip ?_
        refine hK10 _ _ _ ?_
        refine CW.seq fun K13 hK13 => ?_
        refine CW.region ?_
        refine RL.q (Y.assign rfl) rfl ?_
        refine RL.nil ?_
        refine hK13 _ _ _ ?_
        refine CW.keep (Keep.cons 0 rfl (Keep.cons 1 rfl (Keep.cons 2 rfl (Keep.cons 7 rfl (Keep.cons 8 rfl (Keep.nil _)))))) ?_
        refine CW.block ?_
        -- LOOP 2: live [0, 1, 2, 7, 8] changed [8]
        refine CW.keep (Keep.cons 8 rfl (Keep.cons 0 rfl (Keep.cons 1 rfl (Keep.cons 2 rfl (Keep.cons 7 rfl (Keep.nil _)))))) ?_
        refine CW.loopF (fun mm Lc M2 Γc => ∃ j : Nat, mm = b.length - j ∧ j ≤ b.length ∧ Lc = [(8, vint j)] ∧ Γc = [] ∧ M2 = M1 ∧ ∀ q (hq : q < d[i].length), q < j → 0 ≤ d[i][q] ∧ d[i][q] ≤ 256) b.length [(8, _)] [] rfl rfl ⟨0, rfl, Nat.zero_le _, rfl, rfl, rfl, fun _ _ h => absurd h (Nat.not_lt_zero _)⟩ ?_
        rintro mm Lc M2 Γc hsub2 ⟨j, rfl, hj, rfl, rfl, rfl, hT2⟩
        refine CW.seq fun K14 hK14 => ?_
        refine CW.seq fun K15 hK15 => ?_
        refine CW.region ?_
        refine RL.q (Y.move rfl) rfl ?_
        refine RL.q (Y.move rfl) rfl ?_
        refine RL.q (Y.len rfl Try.underlying44) rfl ?_
        refine RL.q (Y.lss rfl rfl) rfl ?_
        refine RL.nil ?_
        refine hK15 _ _ _ ?_
        refine CW.keep (Keep.cons 0 rfl (Keep.cons 1 rfl (Keep.cons 2 rfl (Keep.cons 7 rfl (Keep.cons 8 rfl (Keep.cons 33 rfl (Keep.nil _))))))) ?_
        refine CW.ite rfl (fun h4 => ?_) (fun h4 => ?_)
        · have hjd : j < d[i].length := by omega
          refine CW.skip ?_
          refine hK14 _ _ _ ?_
          refine CW.seq fun K16 hK16 => ?_
          refine CW.block ?_
          refine CW.seq fun K17 hK17 => ?_
          refine CW.region ?_
          refine RL.q (Y.move rfl) rfl ?_
          refine RL.q (Y.move rfl) rfl ?_
          refine RL.q (Y.index i rfl rfl rfl hid slice35 (fun _ hw => hw.rd_some (by repeat (first | exact List.Mem.head _ | apply List.Mem.tail)) (by omega))) rfl ?_
          refine RL.loadSl rfl rfl (by repeat (first | exact List.Mem.head _ | apply List.Mem.tail)) (dtab_get (List.getElem?_eq_getElem hid)) flat22 rfl fun a39 c39 hc39 hl39 => ?_
          refine RL.q (Y.move rfl) rfl ?_
          refine RL.q (Y.index j rfl rfl rfl (by omega) slice22 (fun _ hw => hw.rd_some (by repeat (first | exact List.Mem.head _ | apply List.Mem.tail)) (by omega))) rfl ?_
          refine RL.q (Y.loadRd rfl (by repeat (first | exact List.Mem.head _ | apply List.Mem.tail)) (dints_get (List.getElem?_eq_getElem hjd)) flat3) rfl ?_
          refine RL.qs (Y.lss rfl rfl) rfl (fun g43 => ?_) (fun g43 => ?_)
          · refine RL.q (Y.move rfl) rfl ?_
            refine RL.no ⟨_, _, rfl, rfl, rfl⟩ rfl ?_
            refine RL.no ⟨_, _, rfl, rfl, rfl⟩ rfl ?_
            refine RL.no ⟨_, _, rfl, rfl, rfl⟩ rfl ?_
            refine RL.no ⟨_, _, rfl, rfl, rfl⟩ rfl ?_
            refine RL.no ⟨_, _, rfl, rfl, rfl⟩ rfl ?_
            refine RL.no ⟨_, _, rfl, rfl, rfl⟩ rfl ?_
            refine RL.no ⟨_, _, rfl, rfl, rfl⟩ rfl ?_
            refine RL.no ⟨_, _, rfl, rfl, rfl⟩ rfl ?_
            refine RL.q (Y.pickT rfl rfl) rfl ?_
            refine RL.nil ?_
            refine hK17 _ _ _ ?_
            refine CW.keep (Keep.cons 0 rfl (Keep.cons 1 rfl (Keep.cons 2 rfl (Keep.cons 7 rfl (Keep.cons 8 rfl (Keep.cons 53 rfl (Keep.nil _))))))) ?_
            refine CW.yes rfl ?_
            refine CW.seq fun K18 hK18 => ?_
            refine CW.region ?_
            refine RL.q (Y.assign rfl) rfl ?_
            refine RL.nil ?_
            refine hK18 _ _ _ ?_
            refine CW.keep (Keep.cons 6 rfl (Keep.nil _)) ?_
            refine CW.ret ?_
            exact ⟨_, rfl, Turn.drop ⟨vbF (not_right_num hid hjd (by omega)), rfl, rfl⟩ (by repeat (first | exact List.Sublist.refl _ | apply List.Sublist.cons_cons | apply List.Sublist.cons))⟩
          · refine RL.q (Y.move rfl) rfl ?_
            refine RL.qg ⟨_, _, rfl, rfl, rfl⟩ (Y.move rfl) rfl ?_
            refine RL.qg ⟨_, _, rfl, rfl, rfl⟩ (Y.move rfl) rfl ?_
            refine RL.qg ⟨_, _, rfl, rfl, rfl⟩ (Y.index i rfl rfl rfl hid slice35 (fun _ hw => hw.rd_some (by repeat (first | exact List.Mem.head _ | apply List.Mem.tail)) (by omega))) rfl ?_
            refine RL.loadSl ⟨_, _, rfl, rfl, rfl⟩ rfl (by repeat (first | exact List.Mem.head _ | apply List.Mem.tail)) (dtab_get (List.getElem?_eq_getElem hid)) flat22 rfl fun a48 c48 hc48 hl48 => ?_
            refine RL.qg ⟨_, _, rfl, rfl, rfl⟩ (Y.move rfl) rfl ?_
            refine RL.qg ⟨_, _, rfl, rfl, rfl⟩ (Y.index j rfl rfl rfl (by omega) slice22 (fun _ hw => hw.rd_some (by repeat (first | exact List.Mem.head _ | apply List.Mem.tail)) (by omega))) rfl ?_
            refine RL.qg ⟨_, _, rfl, rfl, rfl⟩ (Y.loadRd rfl (by repeat (first | exact List.Mem.head _ | apply List.Mem.tail)) (dints_get (List.getElem?_eq_getElem hjd)) flat3) rfl ?_
            refine RL.qg ⟨_, _, rfl, rfl, rfl⟩ (Y.gtr rfl rfl) rfl ?_
            refine RL.q (Y.pickF rfl rfl) rfl ?_
            refine RL.nil ?_
            refine hK17 _ _ _ ?_
            refine CW.keep (Keep.cons 0 rfl (Keep.cons 1 rfl (Keep.cons 2 rfl (Keep.cons 7 rfl (Keep.cons 8 rfl (Keep.cons 53 rfl (Keep.nil _))))))) ?_
            refine CW.ite rfl (fun h6 => ?_) (fun h6 => ?_)
            · refine CW.seq fun K19 hK19 => ?_
              refine CW.region ?_
              refine RL.q (Y.assign rfl) rfl ?_
              refine RL.nil ?_
              refine hK19 _ _ _ ?_
              refine CW.keep (Keep.cons 6 rfl (Keep.nil _)) ?_
              refine CW.ret ?_
              exact ⟨_, rfl, Turn.drop ⟨vbF (not_right_num hid hjd (by omega)), rfl, rfl⟩ (by repeat (first | exact List.Sublist.refl _ | apply List.Sublist.cons_cons | apply List.Sublist.cons))⟩
            · refine CW.skip ?_
              refine hK16 _ _ _ ?_
              refine CW.region ?_
              refine RL.q (Y.move rfl) rfl ?_
              refine RL.q (Y.add rfl rfl (by omega)) rfl ?_
              refine RL.q (Y.assign rfl) rfl ?_
              refine RL.nil ?_
              refine ⟨b.length - (j + 1), [(8, _)], ?_, (Keep.cons 8 rfl (Keep.cons 0 rfl (Keep.cons 1 rfl (Keep.cons 2 rfl (Keep.cons 7 rfl (Keep.nil _)))))), ?_⟩
              · omega
              · exact Turn.drop ⟨[], rfl, hsub2, j + 1, rfl, by omega, rfl, rfl, rfl, all_step3 (p := fun z => 0 ≤ z ∧ z ≤ 256) hT2 hjd (by omega)⟩ (by repeat (first | exact List.Sublist.refl _ | apply List.Sublist.cons_cons | apply List.Sublist.cons))
        · refine CW.exit ?_
          refine hK9 _ _ _ ?_
          refine CW.region ?_
          refine RL.q (Y.move rfl) rfl ?_
          refine RL.q (Y.add rfl rfl (by omega)) rfl ?_
          refine RL.q (Y.assign rfl) rfl ?_
          refine RL.nil ?_
          refine ⟨a.length - (i + 1), [(7, _)], ?_, (Keep.cons 7 rfl (Keep.cons 0 rfl (Keep.cons 1 rfl (Keep.cons 2 rfl (Keep.nil _))))), ?_⟩
          · omega
          · exact Turn.drop ⟨[], rfl, hsub, i + 1, rfl, by omega, rfl, rfl, rfl, all_step3 (p := rowOk B) hT hid (rowOk_of (by omega) (fun q hq hqb => hT2 q hq (by omega)))⟩ (by repeat (first | exact List.Sublist.refl _ | apply List.Sublist.cons_cons | apply List.Sublist.cons))
    · refine CW.exit ?_
      refine hK5 _ _ _ ?_
      refine CW.seq fun K20 hK20 => ?_
      refine CW.seq fun K21 hK21 => ?_
      refine CW.region ?_
      refine RL.q (Y.assign rfl) rfl ?_
      refine RL.nil ?_
      refine hK21 _ _ _ ?_
      refine CW.keep (Keep.cons 0 rfl (Keep.cons 1 rfl (Keep.cons 2 rfl (Keep.cons 9 rfl (Keep.nil _))))) ?_
      refine CW.block ?_
      -- LOOP 3: live [0, 1, 2, 9] changed [9]
      refine CW.keep (Keep.cons 9 rfl (Keep.cons 0 rfl (Keep.cons 1 rfl (Keep.cons 2 rfl (Keep.nil _))))) ?_
      have hdo : DualOk A B d := dual_of (by omega) (fun q hq hqa => hT q hq (by omega))
      have hrows : ∀ q (hq : q < d.length), rowOk B d[q] := fun q hq => hT q hq (by omega)
      clear hT
      refine CW.loopF (fun mm Lc M5 Γc => ∃ i : Nat, mm = a.length - i ∧ i ≤ a.length ∧ Lc = [(9, vint i)] ∧ Γc = [] ∧ M5 = M1 ∧ ∀ q, q < A.length → q < i → ∀ w, w < B.length → at2 d q w ≤ dpEnd A B d q w) a.length [(9, _)] [] rfl rfl ⟨0, rfl, Nat.zero_le _, rfl, rfl, rfl, fun _ _ h => absurd h (Nat.not_lt_zero _)⟩ ?_
      rintro mm Lc M5 Γc hsub3 ⟨i, rfl, hi, rfl, rfl, rfl, hT⟩
      refine CW.seq fun K22 hK22 => ?_
      refine CW.seq fun K23 hK23 => ?_
      refine CW.region ?_
      refine RL.q (Y.move rfl) rfl ?_
      refine RL.q (Y.move rfl) rfl ?_
      refine RL.q (Y.len rfl Try.underlying44) rfl ?_
      refine RL.q (Y.lss rfl rfl) rfl ?_
      refine RL.nil ?_
      refine hK23 _ _ _ ?_
      refine CW.keep (Keep.cons 0 rfl (Keep.cons 1 rfl (Keep.cons 2 rfl (Keep.cons 9 rfl (Keep.cons 57 rfl (Keep.nil _)))))) ?_
      refine CW.ite rfl (fun h7 => ?_) (fun h7 => ?_)
      · refine CW.skip ?_
        refine hK22 _ _ _ ?_
        refine CW.seq fun K24 hK24 => ?_
        refine CW.block ?_
        refine CW.seq fun K25 hK25 => ?_
        refine CW.region ?_
        refine RL.q (Y.assign rfl) rfl ?_
        refine RL.nil ?_
        refine hK25 _ _ _ ?_
        refine CW.keep (Keep.cons 0 rfl (Keep.cons 1 rfl (Keep.cons 2 rfl (Keep.cons 9 rfl (Keep.cons 10 rfl (Keep.nil _)))))) ?_
        refine CW.block ?_
        -- LOOP 4: live [0, 1, 2, 9, 10] changed [10]
        refine CW.keep (Keep.cons 10 rfl (Keep.cons 0 rfl (Keep.cons 1 rfl (Keep.cons 2 rfl (Keep.cons 9 rfl (Keep.nil _)))))) ?_
        refine CW.loopF (fun mm Lc M6 Γc => ∃ j : Nat, mm = b.length - j ∧ j ≤ b.length ∧ Lc = [(10, vint j)] ∧ Γc = [] ∧ M6 = M5 ∧ ∀ w, w < B.length → w < j → at2 d i w ≤ dpEnd A B d i w) b.length [(10, _)] [] rfl rfl ⟨0, rfl, Nat.zero_le _, rfl, rfl, rfl, fun _ _ h => absurd h (Nat.not_lt_zero _)⟩ ?_
        rintro mm Lc M6 Γc hsub4 ⟨j, rfl, hj, rfl, rfl, rfl, hT2⟩
        refine CW.seq fun K26 hK26 => ?_
        refine CW.seq fun K27 hK27 => ?_
        refine CW.region ?_
        refine RL.q (Y.move rfl) rfl ?_
        refine RL.q (Y.move rfl) rfl ?_
        refine RL.q (Y.len rfl Try.underlying44) rfl ?_
        refine RL.q (Y.lss rfl rfl) rfl ?_
        refine RL.nil ?_
        refine hK27 _ _ _ ?_
        refine CW.keep (Keep.cons 0 rfl (Keep.cons 1 rfl (Keep.cons 2 rfl (Keep.cons 9 rfl (Keep.cons 10 rfl (Keep.cons 63 rfl (Keep.nil _))))))) ?_
        refine CW.ite rfl (fun h8 => ?_) (fun h8 => ?_)
        · refine CW.skip ?_
          refine hK26 _ _ _ ?_
          refine CW.seq fun K28 hK28 => ?_
          refine CW.block ?_
          refine CW.seq fun K29 hK29 => ?_
          obtain ⟨rR, hR0, hR1, hR2, hR3⟩ := hdo.get (v := i) (w := j) (by omega) (by omega)
          have hRl : rR.length = B.length := hdo.row rR (List.mem_of_getElem? hR0)
          obtain ⟨uR, hcR, hrR⟩ := hd.cell (q := i * 1) (dtab_get hR0)
          obtain ⟨arR, crR, rfl, _, _, _⟩ := hrR.slice
          refine CW.regionQ mix (by kernel_rfl) ?_
          refine QL.q (Y.move rfl) rfl ?_
          refine QL.q (Y.move rfl) rfl ?_
          refine QL.q (Y.indexP i rfl rfl rfl (by omega) slice35 hd) rfl ?_
          refine QL.q (Y.loadC rfl hcR flat22) rfl ?_
          refine QL.q (Y.move rfl) rfl ?_
          refine QL.q (Y.indexP j rfl rfl rfl (by omega) slice22 hrR) rfl ?_
          refine QL.q (Y.loadP rfl hrR (dints_get hR1) flat3) rfl ?_
          refine QL.q (Y.move rfl) rfl ?_
          refine QL.q (Y.move rfl) rfl ?_
          refine QL.q (Y.move rfl) rfl ?_
          refine QL.q (Y.move rfl) rfl ?_
          refine QL.q (Y.move rfl) rfl ?_
          refine QL.callv rfl func37 rfl rfl (fun _ _ => hA ▸ hB ▸ F_ok _ _ _ a b _ _ _ i j d hu hv0 hd (hA.symm ▸ hpa) (hB.symm ▸ hpb) (hB.symm ▸ hdo.le (by omega)) (by omega) (by omega) hla hlb) ?_
          refine QL.q (Y.gtr rfl rfl) rfl ?_
          refine QL.nil ?_
          refine hK29 _ _ _ ?_
          refine CW.keep (Keep.cons 0 rfl (Keep.cons 1 rfl (Keep.cons 2 rfl (Keep.cons 9 rfl (Keep.cons 10 rfl (Keep.cons 79 rfl (Keep.nil _))))))) ?_
          refine CW.ite rfl (fun h9 => ?_) (fun h9 => ?_)
          · refine CW.seq fun K30 hK30 => ?_
            refine CW.region ?_
            refine RL.q (Y.assign rfl) rfl ?_
            refine RL.nil ?_
            refine hK30 _ _ _ ?_
            refine CW.keep (Keep.cons 6 rfl (Keep.nil _)) ?_
            refine CW.ret ?_
            exact ⟨_, rfl, Turn.drop ⟨vbF (not_right_dp (i := i) (j := j) (by omega) (by omega) (by omega)), rfl, rfl⟩ (by repeat (first | exact List.Sublist.refl _ | apply List.Sublist.cons_cons | apply List.Sublist.cons))⟩
          · refine CW.skip ?_
            refine hK28 _ _ _ ?_
            refine CW.region ?_
            refine RL.q (Y.move rfl) rfl ?_
            refine RL.q (Y.add rfl rfl (by omega)) rfl ?_
            refine RL.q (Y.assign rfl) rfl ?_
            refine RL.nil ?_
            refine ⟨b.length - (j + 1), [(10, _)], ?_, (Keep.cons 10 rfl (Keep.cons 0 rfl (Keep.cons 1 rfl (Keep.cons 2 rfl (Keep.cons 9 rfl (Keep.nil _)))))), ?_⟩
            · omega
            · exact Turn.drop ⟨[], rfl, hsub4, j + 1, rfl, by omega, rfl, rfl, rfl, all_step2 (p := fun w => at2 d i w ≤ dpEnd A B d i w) hT2 (by omega)⟩ (by repeat (first | exact List.Sublist.refl _ | apply List.Sublist.cons_cons | apply List.Sublist.cons))
        · refine CW.exit ?_
          refine hK24 _ _ _ ?_
          refine CW.region ?_
          refine RL.q (Y.move rfl) rfl ?_
          refine RL.q (Y.add rfl rfl (by omega)) rfl ?_
          refine RL.q (Y.assign rfl) rfl ?_
          refine RL.nil ?_
          refine ⟨a.length - (i + 1), [(9, _)], ?_, (Keep.cons 9 rfl (Keep.cons 0 rfl (Keep.cons 1 rfl (Keep.cons 2 rfl (Keep.nil _))))), ?_⟩
          · omega
          · exact Turn.drop ⟨[], rfl, hsub3, i + 1, rfl, by omega, rfl, rfl, rfl, all_step2 (p := fun q => ∀ w, w < B.length → at2 d q w ≤ dpEnd A B d q w) hT (fun w hw => hT2 w hw (by omega))⟩ (by repeat (first | exact List.Sublist.refl _ | apply List.Sublist.cons_cons | apply List.Sublist.cons))
      · refine CW.exit ?_
        refine hK20 _ _ _ ?_
        refine CW.seq fun K31 hK31 => ?_
        refine CW.region ?_
        refine RL.q (Y.assign rfl) rfl ?_
        refine RL.nil ?_
        refine hK31 _ _ _ ?_
        refine CW.keep (Keep.cons 6 rfl (Keep.nil _)) ?_
        refine CW.ret ?_
        exact ⟨_, rfl, Turn.drop ⟨vbT (right_of (by omega) (fun q hq _ => hrows q hq) (fun q hq _ => hT q hq (by omega))), rfl, rfl⟩ (by repeat (first | exact List.Sublist.refl _ | apply List.Sublist.cons_cons | apply List.Sublist.cons))⟩
end Go.Proofs.Ytjkcjbicleohkaa
