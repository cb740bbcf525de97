/- THE WALKS, 14: the cost of pairs by the reference. Printed by m16n.py. -/
import Derived.Test.YtjkcjbicleohkaaWm
namespace Go.Proofs.Ytjkcjbicleohkaa
open Xe

set_option maxHeartbeats 4000000 in
theorem rcost_ok (w0 : World) (M : Mem) (Γ : List As) (e1 e2 : Ex) (vs1 vs2 : List Value) (l : List PairD) (ul : Value) (hv1 : RdL M e1.enc vs1) (hv2 : RdL M e2.enc vs2) (hl : Rd M (PairD.encs l) ul) (hll : l.length ≤ 1000) :
    CallOk Try.prog w0 M Γ 15 #[.agg vs1.toArray, .agg vs2.toArray, ul] (Is M Γ (.tuple #[vint (rcost e1 e2 l).1, vint (rcost e1 e2 l).2])) := by
  have hl1 : vs1.length = 15 := hv1.1.trans (Ex.enc_len e1)
  have hl2 : vs2.length = 15 := hv2.1.trans (Ex.enc_len e2)
  have hla := rnodes_len e1
  have hlb := rnodes_len e2
  obtain ⟨a, ha⟩ : ∃ a, a = (rnodes e1).1 := ⟨_, rfl⟩
  obtain ⟨b, hb⟩ : ∃ b, b = (rnodes e2).1 := ⟨_, rfl⟩
  rw [← ha] at hla
  rw [← hb] at hlb
  obtain ⟨A, hA⟩ : ∃ A, A = a.map RNode.toM := ⟨_, rfl⟩
  obtain ⟨B, hB⟩ : ∃ B, B = b.map RNode.toM := ⟨_, rfl⟩
  have hlA : A.length = a.length := by rw [hA, List.length_map]
  have hlB : B.length = b.length := by rw [hB, List.length_map]
  obtain ⟨a3, c3, rfl, hc3, hlim3, hlen3⟩ := hl.slice
  refine enter2 (f := 15) Try.func15 rfl Try.ntmps15 rfl rfl fun w1 hw1 => ?_
  refine CW.addRd hl ?_
  refine CW.seq fun K1 hK1 => ?_
  refine CW.region ?_
  refine RL.box _ rfl rfl rfl fun b3 => ?_
  refine RL.box _ rfl rfl rfl fun b4 => ?_
  refine RL.q (Y.assign rfl) rfl ?_
  refine RL.q (Y.assign rfl) rfl ?_
  refine RL.nil ?_
  refine hK1 _ _ _ ?_
  refine CW.keep (Keep.cons 2 rfl (Keep.cons 3 rfl (Keep.cons 4 rfl (Keep.nil _)))) ?_
  refine CW.seq fun K2 hK2 => ?_
  refine CW.region ?_
  refine RL.q (Y.loadAll rfl (by repeat (first | exact List.Mem.head _ | apply List.Mem.tail)) hl1 agg31) rfl ?_
  refine RL.call rfl func17 rfl rfl (nodes_ok _ _ _ e1 vs1 hv1) ?_
  rintro _ M1 _ ⟨hs1, rfl, u1, rfl, hu1⟩
  rw [← ha] at hu1
  obtain ⟨a1, c1, rfl, hc1, hlim1, hlen1⟩ := hu1.slice
  refine RL.q (Y.move rfl) rfl ?_
  refine RL.q (Y.extract rfl rfl) rfl ?_
  refine RL.q (Y.extract rfl rfl) rfl ?_
  refine RL.q (Y.assign rfl) rfl ?_
  refine RL.q (Y.assign rfl) rfl ?_
  refine RL.nil ?_
  refine hK2 _ _ _ ?_
  refine CW.keep (Keep.cons 2 rfl (Keep.cons 4 rfl (Keep.cons 8 rfl (Keep.cons 9 rfl (Keep.nil _))))) ?_
  rw [vbb (rnodes e1).2]
  refine CW.seq fun K3 hK3 => ?_
  refine CW.region ?_
  refine RL.q (Y.loadAll rfl (by repeat (first | exact List.Mem.head _ | apply List.Mem.tail)) hl2 agg31) rfl ?_
  refine RL.call rfl func17 rfl rfl (nodes_ok _ _ _ e2 vs2 (hv2.mono hs1)) ?_
  rintro _ M2 _ ⟨hs2, rfl, u2, rfl, hu2⟩
  rw [← hb] at hu2
  obtain ⟨a2, c2, rfl, hcc2, hlim2, hlen2⟩ := hu2.slice
  refine RL.q (Y.move rfl) rfl ?_
  refine RL.q (Y.extract rfl rfl) rfl ?_
  refine RL.q (Y.extract rfl rfl) rfl ?_
  refine RL.q (Y.assign rfl) rfl ?_
  refine RL.q (Y.assign rfl) rfl ?_
  refine RL.nil ?_
  refine hK3 _ _ _ ?_
  refine CW.keep (Keep.cons 2 rfl (Keep.cons 8 rfl (Keep.cons 9 rfl (Keep.cons 10 rfl (Keep.cons 11 rfl (Keep.nil _)))))) ?_
  rw [vbb (rnodes e2).2]
  refine CW.seq fun K4 hK4 => ?_
  refine CW.seq fun K5 hK5 => ?_
  refine CW.region ?_
  refine RL.qs (Y.move rfl) rfl (fun g29 => ?_) (fun g29 => ?_)
  · refine RL.q (Y.not rfl) rfl ?_
    refine RL.q (Y.move rfl) rfl ?_
    refine RL.qg ⟨_, _, rfl, rfl, rfl⟩ (Y.move rfl) rfl ?_
    refine RL.qg ⟨_, _, rfl, rfl, rfl⟩ (Y.notD rfl) rfl ?_
    refine RL.q (Y.pickF rfl rfl) rfl ?_
    refine RL.nil ?_
    refine hK5 _ _ _ ?_
    refine CW.keep (Keep.cons 2 rfl (Keep.cons 8 rfl (Keep.cons 10 rfl (Keep.cons 34 rfl (Keep.nil _))))) ?_
    refine CW.ite rfl (fun h1 => ?_) (fun h1 => ?_)
    · refine CW.seq fun K6 hK6 => ?_
      refine CW.region ?_
      refine RL.q (Y.assign rfl) rfl ?_
      refine RL.q (Y.assign rfl) rfl ?_
      refine RL.nil ?_
      refine hK6 _ _ _ ?_
      refine CW.keep (Keep.cons 6 rfl (Keep.cons 7 rfl (Keep.nil _))) ?_
      refine CW.ret ?_
      refine ⟨_, _, rfl, rfl, ?_⟩
      rw [rcost_no (fun h => h1 h.2)]
      exact Turn.back hw1 (hs1.trans hs2) ⟨rfl, rfl, rfl⟩ (by repeat (first | exact List.Sublist.refl _ | apply List.Sublist.cons_cons | apply List.Sublist.cons))
    · refine CW.skip ?_
      refine hK4 _ _ _ ?_
      refine CW.seq fun K7 hK7 => ?_
      refine CW.region ?_
      refine RL.q (Y.move rfl) rfl ?_
      refine RL.q (Y.len rfl Try.underlying44) rfl ?_
      refine RL.q (Y.move rfl) rfl ?_
      refine RL.q (Y.len rfl Try.underlying44) rfl ?_
      refine RL.q (Y.add rfl rfl (by omega)) rfl ?_
      refine RL.q (Y.assign rfl) rfl ?_
      refine RL.nil ?_
      refine hK7 _ _ _ ?_
      refine CW.keep (Keep.cons 2 rfl (Keep.cons 8 rfl (Keep.cons 10 rfl (Keep.cons 12 rfl (Keep.nil _))))) ?_
      refine CW.seq fun K8 hK8 => ?_
      refine CW.seq fun K9 hK9 => ?_
      refine CW.region ?_
      refine RL.q (Y.assign rfl) rfl ?_
      refine RL.nil ?_
      refine hK9 _ _ _ ?_
      refine CW.keep (Keep.cons 2 rfl (Keep.cons 8 rfl (Keep.cons 10 rfl (Keep.cons 12 rfl (Keep.cons 13 rfl (Keep.nil _)))))) ?_
      refine CW.block ?_
      -- LOOP 1: live [2, 8, 10, 12, 13] changed [12, 13]
      refine CW.keep (Keep.cons 12 rfl (Keep.cons 13 rfl (Keep.cons 2 rfl (Keep.cons 8 rfl (Keep.cons 10 rfl (Keep.nil _)))))) ?_
      refine CW.loopF (fun mm Lc M3 Γc => ∃ (k : Nat) (n : Int), mm = l.length - k ∧ k ≤ l.length ∧ Lc = [(12, vint n), (13, vint k)] ∧ Γc = [] ∧ M3 = M2 ∧ (-2000 ≤ n + 2 * k ∧ n + 2 * k ≤ 312 + k) ∧ (∀ q (hq : q < l.length), q < k → plc A l[q].frm ≠ none ∧ plc B l[q].to ≠ none ∧ numOf a l[q].frm = ((plcZ A l[q].frm : Nat) : Int) ∧ numOf b l[q].to = ((plcZ B l[q].to : Nat) : Int)) ∧ costGo A B [] ((a.length : Int) + b.length - 2 * l.length) l = costGo A B (dn A B (l.take k)) (n - 2 * (l.length - k : Nat)) (l.drop k)) l.length [(12, _), (13, _)] [] rfl rfl ⟨0, _, rfl, Nat.zero_le _, rfl, rfl, rfl, by omega, fun _ _ h => absurd h (Nat.not_lt_zero _), rfl⟩ ?_
      rintro mm Lc M3 Γc hsub ⟨k, n, rfl, hk, rfl, rfl, rfl, hnb, hval, hcg⟩
      refine CW.seq fun K10 hK10 => ?_
      refine CW.seq fun K11 hK11 => ?_
      refine CW.region ?_
      refine RL.q (Y.move rfl) rfl ?_
      refine RL.q (Y.move rfl) rfl ?_
      refine RL.q (Y.len rfl Try.underlying42) rfl ?_
      refine RL.q (Y.lss rfl rfl) rfl ?_
      refine RL.nil ?_
      refine hK11 _ _ _ ?_
      refine CW.keep (Keep.cons 2 rfl (Keep.cons 8 rfl (Keep.cons 10 rfl (Keep.cons 12 rfl (Keep.cons 13 rfl (Keep.cons 43 rfl (Keep.nil _))))))) ?_
      refine CW.ite rfl (fun h2 => ?_) (fun h2 => ?_)
      · have hka : k < l.length := by omega
        refine CW.skip ?_
        refine hK10 _ _ _ ?_
        refine CW.seq fun K12 hK12 => ?_
        refine CW.block ?_
        refine CW.seq fun K13 hK13 => ?_
        refine CW.region ?_
        refine RL.q (Y.move rfl) rfl ?_
        refine RL.q (Y.move rfl) rfl ?_
        refine RL.q (Y.move rfl) rfl ?_
        refine RL.q (Y.index k rfl rfl rfl hka slice42 (fun _ hw => hw.rd_some (by repeat (first | exact List.Mem.head _ | apply List.Mem.tail)) (by omega))) rfl ?_
        refine RL.q (Y.field rfl field83_0) rfl ?_
        refine RL.q (Y.loadAggRd (l[k].frm.vals) rfl (by repeat (first | exact List.Mem.head _ | apply List.Mem.tail)) (by rw [show (l[k].frm.vals).length = 3 from rfl, flat_sub PairD.enc_len _ k _ (List.getElem?_eq_getElem (by assumption)) 0 3 (by decide)]; rfl) agg24) rfl ?_
        refine RL.callv rfl func38 rfl rfl (number_ok _ _ _ a _ _ (Rd.mono hs2 _ _ hu1)) ?_
        refine RL.q (Y.assign rfl) rfl ?_
        refine RL.nil ?_
        refine hK13 _ _ _ ?_
        refine CW.keep (Keep.cons 2 rfl (Keep.cons 8 rfl (Keep.cons 10 rfl (Keep.cons 12 rfl (Keep.cons 13 rfl (Keep.cons 14 rfl (Keep.nil _))))))) ?_
        refine CW.seq fun K14 hK14 => ?_
        refine CW.region ?_
        refine RL.q (Y.move rfl) rfl ?_
        refine RL.q (Y.move rfl) rfl ?_
        refine RL.q (Y.move rfl) rfl ?_
        refine RL.q (Y.index k rfl rfl rfl hka slice42 (fun _ hw => hw.rd_some (by repeat (first | exact List.Mem.head _ | apply List.Mem.tail)) (by omega))) rfl ?_
        refine RL.q (Y.field rfl field83_1) rfl ?_
        refine RL.q (Y.loadAggRd (l[k].to.vals) rfl (by repeat (first | exact List.Mem.head _ | apply List.Mem.tail)) (by rw [show (l[k].to.vals).length = 3 from rfl, flat_sub PairD.enc_len _ k _ (List.getElem?_eq_getElem (by assumption)) 3 3 (by decide)]; rfl) agg24) rfl ?_
        refine RL.callv rfl func38 rfl rfl (number_ok _ _ _ b _ _ hu2) ?_
        refine RL.q (Y.assign rfl) rfl ?_
        refine RL.nil ?_
        refine hK14 _ _ _ ?_
        refine CW.keep (Keep.cons 2 rfl (Keep.cons 8 rfl (Keep.cons 10 rfl (Keep.cons 12 rfl (Keep.cons 13 rfl (Keep.cons 14 rfl (Keep.cons 15 rfl (Keep.nil _)))))))) ?_
        refine CW.seq fun K15 hK15 => ?_
        refine CW.seq fun K16 hK16 => ?_
        refine CW.region ?_
        refine RL.q (Y.move rfl) rfl ?_
        refine RL.qs (Y.lss rfl rfl) rfl (fun g61 => ?_) (fun g61 => ?_)
        · refine RL.q (Y.move rfl) rfl ?_
          refine RL.no ⟨_, _, rfl, rfl, rfl⟩ rfl ?_
          refine RL.no ⟨_, _, rfl, rfl, rfl⟩ rfl ?_
          refine RL.q (Y.pickT rfl rfl) rfl ?_
          refine RL.nil ?_
          refine hK16 _ _ _ ?_
          refine CW.keep (Keep.cons 2 rfl (Keep.cons 8 rfl (Keep.cons 10 rfl (Keep.cons 12 rfl (Keep.cons 13 rfl (Keep.cons 14 rfl (Keep.cons 15 rfl (Keep.cons 65 rfl (Keep.nil _))))))))) ?_
          refine CW.yes rfl ?_
          refine CW.seq fun K17 hK17 => ?_
          refine CW.region ?_
          refine RL.q (Y.assign rfl) rfl ?_
          refine RL.q (Y.assign rfl) rfl ?_
          refine RL.nil ?_
          refine hK17 _ _ _ ?_
          refine CW.keep (Keep.cons 6 rfl (Keep.cons 7 rfl (Keep.nil _))) ?_
          refine CW.ret ?_
          refine ⟨_, _, rfl, rfl, ?_⟩
          rw [rcost_none ha hb hA hB g29 (Decidable.not_not.1 h1) (by rw [hcg, List.drop_eq_getElem_cons hka, costGo, if_neg (fun h => h.1 (by rw [hA]; exact numOf_neg g61))])]
          exact Turn.back hw1 (hs1.trans hs2) ⟨rfl, rfl, rfl⟩ (by repeat (first | exact List.Sublist.refl _ | apply List.Sublist.cons_cons | apply List.Sublist.cons))
        · refine RL.q (Y.move rfl) rfl ?_
          refine RL.qg ⟨_, _, rfl, rfl, rfl⟩ (Y.move rfl) rfl ?_
          refine RL.qg ⟨_, _, rfl, rfl, rfl⟩ (Y.lss rfl rfl) rfl ?_
          refine RL.q (Y.pickF rfl rfl) rfl ?_
          refine RL.nil ?_
          refine hK16 _ _ _ ?_
          refine CW.keep (Keep.cons 2 rfl (Keep.cons 8 rfl (Keep.cons 10 rfl (Keep.cons 12 rfl (Keep.cons 13 rfl (Keep.cons 14 rfl (Keep.cons 15 rfl (Keep.cons 65 rfl (Keep.nil _))))))))) ?_
          refine CW.ite rfl (fun h4 => ?_) (fun h4 => ?_)
          · refine CW.seq fun K18 hK18 => ?_
            refine CW.region ?_
            refine RL.q (Y.assign rfl) rfl ?_
            refine RL.q (Y.assign rfl) rfl ?_
            refine RL.nil ?_
            refine hK18 _ _ _ ?_
            refine CW.keep (Keep.cons 6 rfl (Keep.cons 7 rfl (Keep.nil _))) ?_
            refine CW.ret ?_
            refine ⟨_, _, rfl, rfl, ?_⟩
            rw [rcost_none ha hb hA hB g29 (Decidable.not_not.1 h1) (by rw [hcg, List.drop_eq_getElem_cons hka, costGo, if_neg (fun h => h.2.1 (by rw [hB]; exact numOf_neg h4))])]
            exact Turn.back hw1 (hs1.trans hs2) ⟨rfl, rfl, rfl⟩ (by repeat (first | exact List.Sublist.refl _ | apply List.Sublist.cons_cons | apply List.Sublist.cons))
          · obtain ⟨hpx, hx⟩ := numOf_pos g61
            obtain ⟨hpy, hy⟩ := numOf_pos h4
            rw [← hA] at hpx hx
            rw [← hB] at hpy hy
            rw [hx, hy]
            have hi := (plcZ_lt hpx).1
            have hj := (plcZ_lt hpy).1
            rw [hlA] at hi
            rw [hlB] at hj
            refine CW.skip ?_
            refine hK15 _ _ _ ?_
            refine CW.seq fun K19 hK19 => ?_
            refine CW.seq fun K20 hK20 => ?_
            refine CW.region ?_
            refine RL.q (Y.assign rfl) rfl ?_
            refine RL.nil ?_
            refine hK20 _ _ _ ?_
            refine CW.keep (Keep.cons 2 rfl (Keep.cons 8 rfl (Keep.cons 10 rfl (Keep.cons 12 rfl (Keep.cons 13 rfl (Keep.cons 14 rfl (Keep.cons 15 rfl (Keep.cons 16 rfl (Keep.nil _))))))))) ?_
            refine CW.block ?_
            -- LOOP 2: live [2, 8, 10, 12, 13, 14, 15, 16] changed [16]
            refine CW.keep (Keep.cons 16 rfl (Keep.cons 2 rfl (Keep.cons 8 rfl (Keep.cons 10 rfl (Keep.cons 12 rfl (Keep.cons 13 rfl (Keep.cons 14 rfl (Keep.cons 15 rfl (Keep.nil _))))))))) ?_
            refine CW.loopF (fun mm Lc M4 Γc => ∃ q : Nat, mm = k - q ∧ q ≤ k ∧ Lc = [(16, vint q)] ∧ Γc = [] ∧ M4 = M3 ∧ ∀ i (hi : i < l.length), i < q → compat A B (plcZ A l[k].frm, plcZ B l[k].to) (plcZ A l[i].frm, plcZ B l[i].to)) k [(16, _)] [] rfl rfl ⟨0, rfl, Nat.zero_le _, rfl, rfl, rfl, fun _ _ h => absurd h (Nat.not_lt_zero _)⟩ ?_
            rintro mm Lc M4 Γc hsub2 ⟨q, rfl, hq, rfl, rfl, rfl, hT⟩
            refine CW.seq fun K21 hK21 => ?_
            refine CW.seq fun K22 hK22 => ?_
            refine CW.region ?_
            refine RL.q (Y.move rfl) rfl ?_
            refine RL.q (Y.move rfl) rfl ?_
            refine RL.q (Y.lss rfl rfl) rfl ?_
            refine RL.nil ?_
            refine hK22 _ _ _ ?_
            refine CW.keep (Keep.cons 2 rfl (Keep.cons 8 rfl (Keep.cons 10 rfl (Keep.cons 12 rfl (Keep.cons 13 rfl (Keep.cons 14 rfl (Keep.cons 15 rfl (Keep.cons 16 rfl (Keep.cons 68 rfl (Keep.nil _)))))))))) ?_
            refine CW.ite rfl (fun h5 => ?_) (fun h5 => ?_)
            · have hqa : q < l.length := by omega
              have hvq := hval q hqa (by omega)
              have hq1 := (plcZ_lt hvq.1).1
              have hq2 := (plcZ_lt hvq.2.1).1
              rw [hlA] at hq1
              rw [hlB] at hq2
              have f1 : fstAt A (plcZ A l[q].frm) = a[plcZ A l[q].frm].first := by have := fstAt_R hq1; rw [← hA] at this; exact this
              have f2 : fstAt B (plcZ B l[q].to) = b[plcZ B l[q].to].first := by have := fstAt_R hq2; rw [← hB] at this; exact this
              have f3 : fstAt A (plcZ A l[k].frm) = a[plcZ A l[k].frm].first := by have := fstAt_R hi; rw [← hA] at this; exact this
              have f4 : fstAt B (plcZ B l[k].to) = b[plcZ B l[k].to].first := by have := fstAt_R hj; rw [← hB] at this; exact this
              refine CW.skip ?_
              refine hK21 _ _ _ ?_
              refine CW.seq fun K23 hK23 => ?_
              refine CW.block ?_
              refine CW.seq fun K24 hK24 => ?_
              refine CW.region ?_
              refine RL.q (Y.move rfl) rfl ?_
              refine RL.q (Y.move rfl) rfl ?_
              refine RL.q (Y.move rfl) rfl ?_
              refine RL.q (Y.index q rfl rfl rfl hqa slice42 (fun _ hw => hw.rd_some (by repeat (first | exact List.Mem.head _ | apply List.Mem.tail)) (by omega))) rfl ?_
              refine RL.q (Y.field rfl field83_0) rfl ?_
              refine RL.q (Y.loadAggRd (l[q].frm.vals) rfl (by repeat (first | exact List.Mem.head _ | apply List.Mem.tail)) (by rw [show (l[q].frm.vals).length = 3 from rfl, flat_sub PairD.enc_len _ q _ (List.getElem?_eq_getElem (by assumption)) 0 3 (by decide)]; rfl) agg24) rfl ?_
              refine RL.callv rfl func38 rfl rfl (number_ok _ _ _ a _ _ (Rd.mono hs2 _ _ hu1)) ?_
              refine RL.q (Y.assign rfl) rfl ?_
              refine RL.nil ?_
              refine hK24 _ _ _ ?_
              refine CW.keep (Keep.cons 2 rfl (Keep.cons 8 rfl (Keep.cons 10 rfl (Keep.cons 12 rfl (Keep.cons 13 rfl (Keep.cons 14 rfl (Keep.cons 15 rfl (Keep.cons 16 rfl (Keep.cons 17 rfl (Keep.nil _)))))))))) ?_
              refine CW.seq fun K25 hK25 => ?_
              refine CW.region ?_
              refine RL.q (Y.move rfl) rfl ?_
              refine RL.q (Y.move rfl) rfl ?_
              refine RL.q (Y.move rfl) rfl ?_
              refine RL.q (Y.index q rfl rfl rfl hqa slice42 (fun _ hw => hw.rd_some (by repeat (first | exact List.Mem.head _ | apply List.Mem.tail)) (by omega))) rfl ?_
              refine RL.q (Y.field rfl field83_1) rfl ?_
              refine RL.q (Y.loadAggRd (l[q].to.vals) rfl (by repeat (first | exact List.Mem.head _ | apply List.Mem.tail)) (by rw [show (l[q].to.vals).length = 3 from rfl, flat_sub PairD.enc_len _ q _ (List.getElem?_eq_getElem (by assumption)) 3 3 (by decide)]; rfl) agg24) rfl ?_
              refine RL.callv rfl func38 rfl rfl (number_ok _ _ _ b _ _ hu2) ?_
              refine RL.q (Y.assign rfl) rfl ?_
              refine RL.nil ?_
              refine hK25 _ _ _ ?_
              refine CW.keep (Keep.cons 2 rfl (Keep.cons 8 rfl (Keep.cons 10 rfl (Keep.cons 12 rfl (Keep.cons 13 rfl (Keep.cons 14 rfl (Keep.cons 15 rfl (Keep.cons 16 rfl (Keep.cons 17 rfl (Keep.cons 18 rfl (Keep.nil _))))))))))) ?_
              rw [hvq.2.2.1, hvq.2.2.2]
              refine CW.seq fun K26 hK26 => ?_
              refine CW.region ?_
              refine RL.q (Y.move rfl) rfl ?_
              refine RL.q (Y.move rfl) rfl ?_
              refine RL.qs (Y.eql rfl rfl) rfl (fun g87 => ?_) (fun g87 => ?_)
              · refine RL.q (Y.move rfl) rfl ?_
                refine RL.no ⟨_, _, rfl, rfl, rfl⟩ rfl ?_
                refine RL.no ⟨_, _, rfl, rfl, rfl⟩ rfl ?_
                refine RL.no ⟨_, _, rfl, rfl, rfl⟩ rfl ?_
                refine RL.q (Y.pickT rfl rfl) rfl ?_
                refine RL.q (Y.move rfl) rfl ?_
                refine RL.no ⟨_, _, rfl, rfl, rfl⟩ rfl ?_
                refine RL.no ⟨_, _, rfl, rfl, rfl⟩ rfl ?_
                refine RL.no ⟨_, _, rfl, rfl, rfl⟩ rfl ?_
                refine RL.no ⟨_, _, rfl, rfl, rfl⟩ rfl ?_
                refine RL.no ⟨_, _, rfl, rfl, rfl⟩ rfl ?_
                refine RL.no ⟨_, _, rfl, rfl, rfl⟩ rfl ?_
                refine RL.no ⟨_, _, rfl, rfl, rfl⟩ rfl ?_
                refine RL.q (Y.pickT rfl rfl) rfl ?_
                refine RL.q (Y.move rfl) rfl ?_
                refine RL.no ⟨_, _, rfl, rfl, rfl⟩ rfl ?_
                refine RL.no ⟨_, _, rfl, rfl, rfl⟩ rfl ?_
                refine RL.no ⟨_, _, rfl, rfl, rfl⟩ rfl ?_
                refine RL.no ⟨_, _, rfl, rfl, rfl⟩ rfl ?_
                refine RL.no ⟨_, _, rfl, rfl, rfl⟩ rfl ?_
                refine RL.no ⟨_, _, rfl, rfl, rfl⟩ rfl ?_
                refine RL.no ⟨_, _, rfl, rfl, rfl⟩ rfl ?_
                refine RL.no ⟨_, _, rfl, rfl, rfl⟩ rfl ?_
                refine RL.no ⟨_, _, rfl, rfl, rfl⟩ rfl ?_
                refine RL.q (Y.pickT rfl rfl) rfl ?_
                refine RL.q (Y.move rfl) rfl ?_
                refine RL.no ⟨_, _, rfl, rfl, rfl⟩ rfl ?_
                refine RL.no ⟨_, _, rfl, rfl, rfl⟩ rfl ?_
                refine RL.no ⟨_, _, rfl, rfl, rfl⟩ rfl ?_
                refine RL.no ⟨_, _, rfl, rfl, rfl⟩ rfl ?_
                refine RL.no ⟨_, _, rfl, rfl, rfl⟩ rfl ?_
                refine RL.no ⟨_, _, rfl, rfl, rfl⟩ rfl ?_
                refine RL.no ⟨_, _, rfl, rfl, rfl⟩ rfl ?_
                refine RL.no ⟨_, _, rfl, rfl, rfl⟩ rfl ?_
                refine RL.no ⟨_, _, rfl, rfl, rfl⟩ rfl ?_
                refine RL.q (Y.pickT rfl rfl) rfl ?_
                refine RL.nil ?_
                refine hK26 _ _ _ ?_
                refine CW.keep (Keep.cons 2 rfl (Keep.cons 8 rfl (Keep.cons 10 rfl (Keep.cons 12 rfl (Keep.cons 13 rfl (Keep.cons 14 rfl (Keep.cons 15 rfl (Keep.cons 16 rfl (Keep.cons 123 rfl (Keep.nil _)))))))))) ?_
                refine CW.yes rfl ?_
                refine CW.seq fun K27 hK27 => ?_
                refine CW.region ?_
                refine RL.q (Y.assign rfl) rfl ?_
                refine RL.q (Y.assign rfl) rfl ?_
                refine RL.nil ?_
                refine hK27 _ _ _ ?_
                refine CW.keep (Keep.cons 6 rfl (Keep.cons 7 rfl (Keep.nil _))) ?_
                refine CW.ret ?_
                refine ⟨_, _, rfl, rfl, ?_⟩
                rw [rcost_none ha hb hA hB g29 (Decidable.not_not.1 h1) (by rw [hcg, List.drop_eq_getElem_cons hka, costGo, if_neg (fun h => by have h9 := h.2.2 _ (dn_in hqa (by omega)); simp only [compat, f1, f2, f3, f4] at h9; omega)])]
                exact Turn.back hw1 (hs1.trans hs2) ⟨rfl, rfl, rfl⟩ (by repeat (first | exact List.Sublist.refl _ | apply List.Sublist.cons_cons | apply List.Sublist.cons))
              · refine RL.q (Y.move rfl) rfl ?_
                refine RL.qg ⟨_, _, rfl, rfl, rfl⟩ (Y.move rfl) rfl ?_
                refine RL.qg ⟨_, _, rfl, rfl, rfl⟩ (Y.move rfl) rfl ?_
                refine RL.qgs ⟨_, _, rfl, rfl, rfl⟩ (Y.eql rfl rfl) rfl (fun g91 => ?_) (fun g91 => ?_)
                · refine RL.q (Y.pickF rfl rfl) rfl ?_
                  refine RL.q (Y.move rfl) rfl ?_
                  refine RL.no ⟨_, _, rfl, rfl, rfl⟩ rfl ?_
                  refine RL.no ⟨_, _, rfl, rfl, rfl⟩ rfl ?_
                  refine RL.no ⟨_, _, rfl, rfl, rfl⟩ rfl ?_
                  refine RL.no ⟨_, _, rfl, rfl, rfl⟩ rfl ?_
                  refine RL.no ⟨_, _, rfl, rfl, rfl⟩ rfl ?_
                  refine RL.no ⟨_, _, rfl, rfl, rfl⟩ rfl ?_
                  refine RL.no ⟨_, _, rfl, rfl, rfl⟩ rfl ?_
                  refine RL.q (Y.pickT rfl rfl) rfl ?_
                  refine RL.q (Y.move rfl) rfl ?_
                  refine RL.no ⟨_, _, rfl, rfl, rfl⟩ rfl ?_
                  refine RL.no ⟨_, _, rfl, rfl, rfl⟩ rfl ?_
                  refine RL.no ⟨_, _, rfl, rfl, rfl⟩ rfl ?_
                  refine RL.no ⟨_, _, rfl, rfl, rfl⟩ rfl ?_
                  refine RL.no ⟨_, _, rfl, rfl, rfl⟩ rfl ?_
                  refine RL.no ⟨_, _, rfl, rfl, rfl⟩ rfl ?_
                  refine RL.no ⟨_, _, rfl, rfl, rfl⟩ rfl ?_
                  refine RL.no ⟨_, _, rfl, rfl, rfl⟩ rfl ?_
                  refine RL.no ⟨_, _, rfl, rfl, rfl⟩ rfl ?_
                  refine RL.q (Y.pickT rfl rfl) rfl ?_
                  refine RL.q (Y.move rfl) rfl ?_
                  refine RL.no ⟨_, _, rfl, rfl, rfl⟩ rfl ?_
                  refine RL.no ⟨_, _, rfl, rfl, rfl⟩ rfl ?_
                  refine RL.no ⟨_, _, rfl, rfl, rfl⟩ rfl ?_
                  refine RL.no ⟨_, _, rfl, rfl, rfl⟩ rfl ?_
                  refine RL.no ⟨_, _, rfl, rfl, rfl⟩ rfl ?_
                  refine RL.no ⟨_, _, rfl, rfl, rfl⟩ rfl ?_
                  refine RL.no ⟨_, _, rfl, rfl, rfl⟩ rfl ?_
                  refine RL.no ⟨_, _, rfl, rfl, rfl⟩ rfl ?_
                  refine RL.no ⟨_, _, rfl, rfl, rfl⟩ rfl ?_
                  refine RL.q (Y.pickT rfl rfl) rfl ?_
                  refine RL.nil ?_
                  refine hK26 _ _ _ ?_
                  refine CW.keep (Keep.cons 2 rfl (Keep.cons 8 rfl (Keep.cons 10 rfl (Keep.cons 12 rfl (Keep.cons 13 rfl (Keep.cons 14 rfl (Keep.cons 15 rfl (Keep.cons 16 rfl (Keep.cons 123 rfl (Keep.nil _)))))))))) ?_
                  refine CW.yes rfl ?_
                  refine CW.seq fun K28 hK28 => ?_
                  refine CW.region ?_
                  refine RL.q (Y.assign rfl) rfl ?_
                  refine RL.q (Y.assign rfl) rfl ?_
                  refine RL.nil ?_
                  refine hK28 _ _ _ ?_
                  refine CW.keep (Keep.cons 6 rfl (Keep.cons 7 rfl (Keep.nil _))) ?_
                  refine CW.ret ?_
                  refine ⟨_, _, rfl, rfl, ?_⟩
                  rw [rcost_none ha hb hA hB g29 (Decidable.not_not.1 h1) (by rw [hcg, List.drop_eq_getElem_cons hka, costGo, if_neg (fun h => by have h9 := h.2.2 _ (dn_in hqa (by omega)); simp only [compat, f1, f2, f3, f4] at h9; omega)])]
                  exact Turn.back hw1 (hs1.trans hs2) ⟨rfl, rfl, rfl⟩ (by repeat (first | exact List.Sublist.refl _ | apply List.Sublist.cons_cons | apply List.Sublist.cons))
                · refine RL.q (Y.pickF rfl rfl) rfl ?_
                  refine RL.q (Y.move rfl) rfl ?_
                  refine RL.qg ⟨_, _, rfl, rfl, rfl⟩ (Y.move rfl) rfl ?_
                  refine RL.qg ⟨_, _, rfl, rfl, rfl⟩ (Y.move rfl) rfl ?_
                  refine RL.qg ⟨_, _, rfl, rfl, rfl⟩ (Y.lss rfl rfl) rfl ?_
                  refine RL.qg ⟨_, _, rfl, rfl, rfl⟩ (Y.move rfl) rfl ?_
                  refine RL.qg ⟨_, _, rfl, rfl, rfl⟩ (Y.move rfl) rfl ?_
                  refine RL.qg ⟨_, _, rfl, rfl, rfl⟩ (Y.lss rfl rfl) rfl ?_
                  refine RL.qgs ⟨_, _, rfl, rfl, rfl⟩ (Y.neqD Try.underlying4 rfl rfl) rfl (fun g100 => ?_) (fun g100 => ?_)
                  · refine RL.q (Y.pickF rfl rfl) rfl ?_
                    refine RL.q (Y.move rfl) rfl ?_
                    refine RL.no ⟨_, _, rfl, rfl, rfl⟩ rfl ?_
                    refine RL.no ⟨_, _, rfl, rfl, rfl⟩ rfl ?_
                    refine RL.no ⟨_, _, rfl, rfl, rfl⟩ rfl ?_
                    refine RL.no ⟨_, _, rfl, rfl, rfl⟩ rfl ?_
                    refine RL.no ⟨_, _, rfl, rfl, rfl⟩ rfl ?_
                    refine RL.no ⟨_, _, rfl, rfl, rfl⟩ rfl ?_
                    refine RL.no ⟨_, _, rfl, rfl, rfl⟩ rfl ?_
                    refine RL.no ⟨_, _, rfl, rfl, rfl⟩ rfl ?_
                    refine RL.no ⟨_, _, rfl, rfl, rfl⟩ rfl ?_
                    refine RL.q (Y.pickT rfl rfl) rfl ?_
                    refine RL.q (Y.move rfl) rfl ?_
                    refine RL.no ⟨_, _, rfl, rfl, rfl⟩ rfl ?_
                    refine RL.no ⟨_, _, rfl, rfl, rfl⟩ rfl ?_
                    refine RL.no ⟨_, _, rfl, rfl, rfl⟩ rfl ?_
                    refine RL.no ⟨_, _, rfl, rfl, rfl⟩ rfl ?_
                    refine RL.no ⟨_, _, rfl, rfl, rfl⟩ rfl ?_
                    refine RL.no ⟨_, _, rfl, rfl, rfl⟩ rfl ?_
                    refine RL.no ⟨_, _, rfl, rfl, rfl⟩ rfl ?_
                    refine RL.no ⟨_, _, rfl, rfl, rfl⟩ rfl ?_
                    refine RL.no ⟨_, _, rfl, rfl, rfl⟩ rfl ?_
                    refine RL.q (Y.pickT rfl rfl) rfl ?_
                    refine RL.nil ?_
                    refine hK26 _ _ _ ?_
                    refine CW.keep (Keep.cons 2 rfl (Keep.cons 8 rfl (Keep.cons 10 rfl (Keep.cons 12 rfl (Keep.cons 13 rfl (Keep.cons 14 rfl (Keep.cons 15 rfl (Keep.cons 16 rfl (Keep.cons 123 rfl (Keep.nil _)))))))))) ?_
                    refine CW.yes rfl ?_
                    refine CW.seq fun K29 hK29 => ?_
                    refine CW.region ?_
                    refine RL.q (Y.assign rfl) rfl ?_
                    refine RL.q (Y.assign rfl) rfl ?_
                    refine RL.nil ?_
                    refine hK29 _ _ _ ?_
                    refine CW.keep (Keep.cons 6 rfl (Keep.cons 7 rfl (Keep.nil _))) ?_
                    refine CW.ret ?_
                    refine ⟨_, _, rfl, rfl, ?_⟩
                    rw [rcost_none ha hb hA hB g29 (Decidable.not_not.1 h1) (by rw [hcg, List.drop_eq_getElem_cons hka, costGo, if_neg (fun h => by have h9 := h.2.2 _ (dn_in hqa (by omega)); simp only [compat, f1, f2, f3, f4] at h9; omega)])]
                    exact Turn.back hw1 (hs1.trans hs2) ⟨rfl, rfl, rfl⟩ (by repeat (first | exact List.Sublist.refl _ | apply List.Sublist.cons_cons | apply List.Sublist.cons))
                  · refine RL.q (Y.pickF rfl rfl) rfl ?_
                    refine RL.q (Y.move rfl) rfl ?_
                    refine RL.qg ⟨_, _, rfl, rfl, rfl⟩ (Y.move rfl) rfl ?_
                    refine RL.qg ⟨_, _, rfl, rfl, rfl⟩ (Y.move rfl) rfl ?_
                    refine RL.qg ⟨_, _, rfl, rfl, rfl⟩ (Y.move rfl) rfl ?_
                    refine RL.callv ⟨_, _, rfl, rfl, rfl⟩ func39 rfl rfl (below_ok _ _ _ a _ (plcZ A l[k].frm) (plcZ A l[q].frm) (Rd.mono hs2 _ _ hu1) hq1) ?_
                    refine RL.qg ⟨_, _, rfl, rfl, rfl⟩ (Y.move rfl) rfl ?_
                    refine RL.qg ⟨_, _, rfl, rfl, rfl⟩ (Y.move rfl) rfl ?_
                    refine RL.qg ⟨_, _, rfl, rfl, rfl⟩ (Y.move rfl) rfl ?_
                    refine RL.callv ⟨_, _, rfl, rfl, rfl⟩ func39 rfl rfl (below_ok _ _ _ b _ (plcZ B l[k].to) (plcZ B l[q].to) hu2 hq2) ?_
                    refine RL.qgs ⟨_, _, rfl, rfl, rfl⟩ (Y.neqD Try.underlying4 rfl rfl) rfl (fun g111 => ?_) (fun g111 => ?_)
                    · refine RL.q (Y.pickF rfl rfl) rfl ?_
                      refine RL.q (Y.move rfl) rfl ?_
                      refine RL.no ⟨_, _, rfl, rfl, rfl⟩ rfl ?_
                      refine RL.no ⟨_, _, rfl, rfl, rfl⟩ rfl ?_
                      refine RL.no ⟨_, _, rfl, rfl, rfl⟩ rfl ?_
                      refine RL.no ⟨_, _, rfl, rfl, rfl⟩ rfl ?_
                      refine RL.no ⟨_, _, rfl, rfl, rfl⟩ rfl ?_
                      refine RL.no ⟨_, _, rfl, rfl, rfl⟩ rfl ?_
                      refine RL.no ⟨_, _, rfl, rfl, rfl⟩ rfl ?_
                      refine RL.no ⟨_, _, rfl, rfl, rfl⟩ rfl ?_
                      refine RL.no ⟨_, _, rfl, rfl, rfl⟩ rfl ?_
                      refine RL.q (Y.pickT rfl rfl) rfl ?_
                      refine RL.nil ?_
                      refine hK26 _ _ _ ?_
                      refine CW.keep (Keep.cons 2 rfl (Keep.cons 8 rfl (Keep.cons 10 rfl (Keep.cons 12 rfl (Keep.cons 13 rfl (Keep.cons 14 rfl (Keep.cons 15 rfl (Keep.cons 16 rfl (Keep.cons 123 rfl (Keep.nil _)))))))))) ?_
                      refine CW.yes rfl ?_
                      refine CW.seq fun K30 hK30 => ?_
                      refine CW.region ?_
                      refine RL.q (Y.assign rfl) rfl ?_
                      refine RL.q (Y.assign rfl) rfl ?_
                      refine RL.nil ?_
                      refine hK30 _ _ _ ?_
                      refine CW.keep (Keep.cons 6 rfl (Keep.cons 7 rfl (Keep.nil _))) ?_
                      refine CW.ret ?_
                      refine ⟨_, _, rfl, rfl, ?_⟩
                      rw [rcost_none ha hb hA hB g29 (Decidable.not_not.1 h1) (by rw [hcg, List.drop_eq_getElem_cons hka, costGo, if_neg (fun h => by have h9 := h.2.2 _ (dn_in hqa (by omega)); simp only [compat, f1, f2, f3, f4] at h9; omega)])]
                      exact Turn.back hw1 (hs1.trans hs2) ⟨rfl, rfl, rfl⟩ (by repeat (first | exact List.Sublist.refl _ | apply List.Sublist.cons_cons | apply List.Sublist.cons))
                    · refine RL.q (Y.pickF rfl rfl) rfl ?_
                      refine RL.q (Y.move rfl) rfl ?_
                      refine RL.qg ⟨_, _, rfl, rfl, rfl⟩ (Y.move rfl) rfl ?_
                      refine RL.qg ⟨_, _, rfl, rfl, rfl⟩ (Y.move rfl) rfl ?_
                      refine RL.qg ⟨_, _, rfl, rfl, rfl⟩ (Y.move rfl) rfl ?_
                      refine RL.callv ⟨_, _, rfl, rfl, rfl⟩ func39 rfl rfl (below_ok _ _ _ a _ (plcZ A l[q].frm) (plcZ A l[k].frm) (Rd.mono hs2 _ _ hu1) hi) ?_
                      refine RL.qg ⟨_, _, rfl, rfl, rfl⟩ (Y.move rfl) rfl ?_
                      refine RL.qg ⟨_, _, rfl, rfl, rfl⟩ (Y.move rfl) rfl ?_
                      refine RL.qg ⟨_, _, rfl, rfl, rfl⟩ (Y.move rfl) rfl ?_
                      refine RL.callv ⟨_, _, rfl, rfl, rfl⟩ func39 rfl rfl (below_ok _ _ _ b _ (plcZ B l[q].to) (plcZ B l[k].to) hu2 hj) ?_
                      refine RL.qg ⟨_, _, rfl, rfl, rfl⟩ (Y.neqD Try.underlying4 rfl rfl) rfl ?_
                      refine RL.q (Y.pickF rfl rfl) rfl ?_
                      refine RL.nil ?_
                      refine hK26 _ _ _ ?_
                      refine CW.keep (Keep.cons 2 rfl (Keep.cons 8 rfl (Keep.cons 10 rfl (Keep.cons 12 rfl (Keep.cons 13 rfl (Keep.cons 14 rfl (Keep.cons 15 rfl (Keep.cons 16 rfl (Keep.cons 123 rfl (Keep.nil _)))))))))) ?_
                      refine CW.ite rfl (fun h10 => ?_) (fun h10 => ?_)
                      · refine CW.seq fun K31 hK31 => ?_
                        refine CW.region ?_
                        refine RL.q (Y.assign rfl) rfl ?_
                        refine RL.q (Y.assign rfl) rfl ?_
                        refine RL.nil ?_
                        refine hK31 _ _ _ ?_
                        refine CW.keep (Keep.cons 6 rfl (Keep.cons 7 rfl (Keep.nil _))) ?_
                        refine CW.ret ?_
                        refine ⟨_, _, rfl, rfl, ?_⟩
                        rw [rcost_none ha hb hA hB g29 (Decidable.not_not.1 h1) (by rw [hcg, List.drop_eq_getElem_cons hka, costGo, if_neg (fun h => by have h9 := h.2.2 _ (dn_in hqa (by omega)); simp only [compat, f1, f2, f3, f4] at h9; omega)])]
                        exact Turn.back hw1 (hs1.trans hs2) ⟨rfl, rfl, rfl⟩ (by repeat (first | exact List.Sublist.refl _ | apply List.Sublist.cons_cons | apply List.Sublist.cons))
                      · refine CW.skip ?_
                        refine hK23 _ _ _ ?_
                        refine CW.region ?_
                        refine RL.q (Y.move rfl) rfl ?_
                        refine RL.q (Y.add rfl rfl (by omega)) rfl ?_
                        refine RL.q (Y.assign rfl) rfl ?_
                        refine RL.nil ?_
                        refine ⟨k - (q + 1), [(16, _)], ?_, (Keep.cons 16 rfl (Keep.cons 2 rfl (Keep.cons 8 rfl (Keep.cons 10 rfl (Keep.cons 12 rfl (Keep.cons 13 rfl (Keep.cons 14 rfl (Keep.cons 15 rfl (Keep.nil _))))))))), ?_⟩
                        · omega
                        · exact Turn.drop ⟨[], rfl, hsub2, q + 1, rfl, by omega, rfl, rfl, rfl, all_step (p := fun z => compat A B (plcZ A l[k].frm, plcZ B l[k].to) (plcZ A z.frm, plcZ B z.to)) hT hqa (by simp only [compat, f1, f2, f3, f4]; refine ⟨⟨?_, ?_, ?_⟩, ?_, ?_⟩ <;> omega)⟩ (by repeat (first | exact List.Sublist.refl _ | apply List.Sublist.cons_cons | apply List.Sublist.cons))
            · refine CW.exit ?_
              refine hK19 _ _ _ ?_
              refine CW.seq fun K32 hK32 => ?_
              refine CW.region ?_
              refine RL.q (Y.move rfl) rfl ?_
              refine RL.q (Y.sub rfl rfl (by omega)) rfl ?_
              refine RL.q (Y.assign rfl) rfl ?_
              refine RL.nil ?_
              refine hK32 _ _ _ ?_
              refine CW.keep (Keep.cons 2 rfl (Keep.cons 8 rfl (Keep.cons 10 rfl (Keep.cons 12 rfl (Keep.cons 13 rfl (Keep.cons 14 rfl (Keep.cons 15 rfl (Keep.nil _)))))))) ?_
              refine CW.seq fun K33 hK33 => ?_
              have hEA : ((a.flatMap RNode.enc).drop (plcZ A l[k].frm * 17 + 0)).take 15 = (exAt A (plcZ A l[k].frm)).enc := by have := rnodeE hi; rw [← hA] at this; exact this
              have hEB : ((b.flatMap RNode.enc).drop (plcZ B l[k].to * 17 + 0)).take 15 = (exAt B (plcZ B l[k].to)).enc := by have := rnodeE hj; rw [← hB] at this; exact this
              refine CW.addRd (Rd.mono hs2 _ _ hu1) ?_
              refine CW.addRd hu2 ?_
              have hall : ∀ z ∈ dn A B (l.take k), compat A B (plcZ A l[k].frm, plcZ B l[k].to) z := fun z hz => by obtain ⟨i, hi2, hi3, rfl⟩ := dn_mem hk hz; exact hT i hi2 (by omega)
              have hstep : ∀ n' : Int, n' = n - 2 + chg A B (plcZ A l[k].frm, plcZ B l[k].to) → costGo A B [] ((a.length : Int) + b.length - 2 * l.length) l = costGo A B (dn A B (l.take (k + 1))) (n' - 2 * (l.length - (k + 1) : Nat)) (l.drop (k + 1)) := fun n' hn' => by rw [hcg, List.drop_eq_getElem_cons hka, costGo, if_pos ⟨hpx, hpy, hall⟩, dn_snoc _ _ _ _ hka]; congr 1; omega
              have hval2 : ∀ q (hq : q < l.length), q < k + 1 → plc A l[q].frm ≠ none ∧ plc B l[q].to ≠ none ∧ numOf a l[q].frm = ((plcZ A l[q].frm : Nat) : Int) ∧ numOf b l[q].to = ((plcZ B l[q].to : Nat) : Int) := all_step (p := fun z => plc A z.frm ≠ none ∧ plc B z.to ≠ none ∧ numOf a z.frm = ((plcZ A z.frm : Nat) : Int) ∧ numOf b z.to = ((plcZ B z.to : Nat) : Int)) hval hka ⟨hpx, hpy, hx, hy⟩
              refine CW.regionQ mix (by kernel_rfl) ?_
              refine QL.q (Y.move rfl) rfl ?_
              refine QL.q (Y.move rfl) rfl ?_
              refine QL.q (Y.index (plcZ A l[k].frm) rfl rfl rfl hi slice44 (fun _ hw => hw.rd_some (by repeat (first | exact List.Mem.head _ | apply List.Mem.tail)) (by omega))) rfl ?_
              refine QL.q (Y.field rfl field49_0) rfl ?_
              refine QL.loadAgg rfl rfl (by repeat (first | exact List.Mem.head _ | apply List.Mem.tail)) hEA (by first | rfl | exact Ex.enc_len _ | exact Ty.enc_len _ | exact MNode.enc_len _ | exact RNode.enc_len _) agg31 rfl fun us130 hul130 hur130 => ?_
              refine QL.q (Y.move rfl) rfl ?_
              refine QL.q (Y.move rfl) rfl ?_
              refine QL.q (Y.index (plcZ B l[k].to) rfl rfl rfl hj slice44 (fun _ hw => hw.rd_some (by repeat (first | exact List.Mem.head _ | apply List.Mem.tail)) (by omega))) rfl ?_
              refine QL.q (Y.field rfl field49_0) rfl ?_
              refine QL.loadAgg rfl rfl (by repeat (first | exact List.Mem.head _ | apply List.Mem.tail)) hEB (by first | rfl | exact Ex.enc_len _ | exact Ty.enc_len _ | exact MNode.enc_len _ | exact RNode.enc_len _) agg31 rfl fun us135 hul135 hur135 => ?_
              refine QL.callv rfl func40 rfl rfl (fun _ _ => alike_ok _ _ _ _ _ _ _ hur130 hur135) ?_
              refine QL.q (Y.notD rfl) rfl ?_
              refine QL.nil ?_
              refine hK33 _ _ _ ?_
              refine CW.keep (Keep.cons 2 rfl (Keep.cons 8 rfl (Keep.cons 10 rfl (Keep.cons 12 rfl (Keep.cons 13 rfl (Keep.cons 137 rfl (Keep.nil _))))))) ?_
              refine CW.ite rfl (fun h11 => ?_) (fun h11 => ?_)
              · refine CW.region ?_
                refine RL.q (Y.move rfl) rfl ?_
                refine RL.q (Y.add rfl rfl (by omega)) rfl ?_
                refine RL.q (Y.assign rfl) rfl ?_
                refine RL.nil ?_
                refine hK12 _ _ _ ?_
                refine CW.keep (Keep.cons 2 rfl (Keep.cons 8 rfl (Keep.cons 10 rfl (Keep.cons 12 rfl (Keep.cons 13 rfl (Keep.nil _)))))) ?_
                refine CW.region ?_
                refine RL.q (Y.move rfl) rfl ?_
                refine RL.q (Y.add rfl rfl (by omega)) rfl ?_
                refine RL.q (Y.assign rfl) rfl ?_
                refine RL.nil ?_
                refine ⟨l.length - (k + 1), [(12, _), (13, _)], ?_, (Keep.cons 12 rfl (Keep.cons 13 rfl (Keep.cons 2 rfl (Keep.cons 8 rfl (Keep.cons 10 rfl (Keep.nil _)))))), ?_⟩
                · omega
                · exact Turn.drop ⟨[], rfl, hsub, k + 1, _, rfl, by omega, rfl, rfl, rfl, by omega, hval2, hstep _ (by rw [chg, if_neg h11])⟩ (by repeat (first | exact List.Sublist.refl _ | apply List.Sublist.cons_cons | apply List.Sublist.cons))
              · refine CW.skip ?_
                refine hK12 _ _ _ ?_
                refine CW.region ?_
                refine RL.q (Y.move rfl) rfl ?_
                refine RL.q (Y.add rfl rfl (by omega)) rfl ?_
                refine RL.q (Y.assign rfl) rfl ?_
                refine RL.nil ?_
                refine ⟨l.length - (k + 1), [(12, _), (13, _)], ?_, (Keep.cons 12 rfl (Keep.cons 13 rfl (Keep.cons 2 rfl (Keep.cons 8 rfl (Keep.cons 10 rfl (Keep.nil _)))))), ?_⟩
                · omega
                · exact Turn.drop ⟨[], rfl, hsub, k + 1, _, rfl, by omega, rfl, rfl, rfl, by omega, hval2, hstep _ (by rw [chg, if_pos (Decidable.not_not.1 h11)]; omega)⟩ (by repeat (first | exact List.Sublist.refl _ | apply List.Sublist.cons_cons | apply List.Sublist.cons))
      · refine CW.exit ?_
        refine hK8 _ _ _ ?_
        refine CW.seq fun K34 hK34 => ?_
        refine CW.region ?_
        refine RL.q (Y.move rfl) rfl ?_
        refine RL.q (Y.assign rfl) rfl ?_
        refine RL.q (Y.assign rfl) rfl ?_
        refine RL.nil ?_
        refine hK34 _ _ _ ?_
        refine CW.keep (Keep.cons 6 rfl (Keep.cons 7 rfl (Keep.nil _))) ?_
        refine CW.ret ?_
        refine ⟨_, _, rfl, rfl, ?_⟩
        rw [rcost_some ha hb hA hB g29 (Decidable.not_not.1 h1) (n := n) (by rw [hcg, List.drop_of_length_le (by omega), costGo]; congr 1; omega)]
        exact Turn.back hw1 (hs1.trans hs2) ⟨rfl, rfl, rfl⟩ (by repeat (first | exact List.Sublist.refl _ | apply List.Sublist.cons_cons | apply List.Sublist.cons))
  · refine RL.q (Y.not rfl) rfl ?_
    refine RL.q (Y.move rfl) rfl ?_
    refine RL.no ⟨_, _, rfl, rfl, rfl⟩ rfl ?_
    refine RL.no ⟨_, _, rfl, rfl, rfl⟩ rfl ?_
    refine RL.q (Y.pickT rfl rfl) rfl ?_
    refine RL.nil ?_
    refine hK5 _ _ _ ?_
    refine CW.keep (Keep.cons 2 rfl (Keep.cons 8 rfl (Keep.cons 10 rfl (Keep.cons 34 rfl (Keep.nil _))))) ?_
    refine CW.yes rfl ?_
    refine CW.seq fun K35 hK35 => ?_
    refine CW.region ?_
    refine RL.q (Y.assign rfl) rfl ?_
    refine RL.q (Y.assign rfl) rfl ?_
    refine RL.nil ?_
    refine hK35 _ _ _ ?_
    refine CW.keep (Keep.cons 6 rfl (Keep.cons 7 rfl (Keep.nil _))) ?_
    refine CW.ret ?_
    refine ⟨_, _, rfl, rfl, ?_⟩
    rw [rcost_no (fun h => g29 h.1)]
    exact Turn.back hw1 (hs1.trans hs2) ⟨rfl, rfl, rfl⟩ (by repeat (first | exact List.Sublist.refl _ | apply List.Sublist.cons_cons | apply List.Sublist.cons))
end Go.Proofs.Ytjkcjbicleohkaa
