/- THE WALKS, 13: the cost of pairs. Printed by m16m.py. -/
import Derived.Test.YtjkcjbicleohkaaWl
namespace Go.Proofs.Ytjkcjbicleohkaa
open Xe

theorem arr102 : arrB Try.prog 102 2 3 1 = true := by kernel_rfl

theorem mcost_ok (w0 : World) (M : Mem) (Γ : List As) (a b : List MNode) (l : List PairD) (u v ul : Value) (hu : Rd M (MNode.encs a) u) (hv0 : Rd M (MNode.encs b) v) (hl : Rd M (PairD.encs l) ul)
    (hda : ∀ i (hi : i < a.length) j (hj : j < a.length), j < i → a[j].e.id ≠ a[i].e.id) (hdb : ∀ i (hi : i < b.length) j (hj : j < b.length), j < i → b[j].e.id ≠ b[i].e.id) (hla : a.length ≤ 1000) (hlb : b.length ≤ 1000) (hll : l.length ≤ 1000) :
    CallOk Try.prog w0 M Γ 46 #[u, v, ul] (Is M Γ (vint (mcost a b l))) := by
  obtain ⟨a1, c1, rfl, hc1, hlim1, hlen1⟩ := hu.slice
  obtain ⟨a2, c2, rfl, hcc2, hlim2, hlen2⟩ := hv0.slice
  obtain ⟨a3, c3, rfl, hc3, hlim3, hlen3⟩ := hl.slice
  refine enter (f := 46) Try.func46 rfl Try.ntmps46 rfl rfl fun w1 hw1 => ?_
  refine CW.addRd hu ?_
  refine CW.addRd hv0 ?_
  refine CW.addRd hl ?_
  refine CW.accNil 102 2 ?_
  refine CW.seq fun K1 hK1 => ?_
  refine CW.region ?_
  refine RL.q (Y.assign rfl) rfl ?_
  refine RL.nil ?_
  refine hK1 _ _ _ ?_
  refine CW.keep (Keep.cons 0 rfl (Keep.cons 1 rfl (Keep.cons 2 rfl (Keep.nil _)))) ?_
  refine CW.seq fun K2 hK2 => ?_
  refine CW.region ?_
  refine RL.q (Y.move rfl) rfl ?_
  refine RL.call rfl func54 rfl rfl (places_ok _ _ _ a _ hu hda) ?_
  rintro _ M _ ⟨b23, rfl, rfl, rfl⟩
  refine RL.q (Y.move rfl) rfl ?_
  refine RL.call rfl func54 rfl rfl (places_ok _ _ _ b _ hv0 hdb) ?_
  rintro _ M _ ⟨b25, rfl, rfl, rfl⟩
  refine RL.q (Y.assign rfl) rfl ?_
  refine RL.q (Y.assign rfl) rfl ?_
  refine RL.nil ?_
  refine hK2 _ _ _ ?_
  refine CW.keep (Keep.cons 0 rfl (Keep.cons 1 rfl (Keep.cons 2 rfl (Keep.cons 7 rfl (Keep.cons 8 rfl (Keep.nil _)))))) ?_
  refine CW.seq fun K3 hK3 => ?_
  refine CW.region ?_
  refine RL.q (Y.assign rfl) rfl ?_
  refine RL.nil ?_
  refine hK3 _ _ _ ?_
  refine CW.keep (Keep.cons 0 rfl (Keep.cons 1 rfl (Keep.cons 2 rfl (Keep.cons 7 rfl (Keep.cons 8 rfl (Keep.cons 9 rfl (Keep.nil _))))))) ?_
  refine CW.seq fun K4 hK4 => ?_
  refine CW.region ?_
  refine RL.q (Y.move rfl) rfl ?_
  refine RL.q (Y.len rfl Try.underlying74) rfl ?_
  refine RL.q (Y.move rfl) rfl ?_
  refine RL.q (Y.len rfl Try.underlying74) rfl ?_
  refine RL.q (Y.add rfl rfl (by omega)) rfl ?_
  refine RL.q (Y.move rfl) rfl ?_
  refine RL.q (Y.len rfl Try.underlying34) rfl ?_
  refine RL.q (Y.mul rfl rfl (by omega)) rfl ?_
  refine RL.q (Y.sub rfl rfl (by omega)) rfl ?_
  refine RL.q (Y.assign rfl) rfl ?_
  refine RL.nil ?_
  refine hK4 _ _ _ ?_
  refine CW.keep (Keep.cons 0 rfl (Keep.cons 1 rfl (Keep.cons 2 rfl (Keep.cons 7 rfl (Keep.cons 8 rfl (Keep.cons 9 rfl (Keep.cons 10 rfl (Keep.nil _)))))))) ?_
  refine CW.seq fun K5 hK5 => ?_
  refine CW.seq fun K6 hK6 => ?_
  refine CW.region ?_
  refine RL.q (Y.move rfl) rfl ?_
  refine RL.q (Y.len rfl Try.underlying34) rfl ?_
  refine RL.q (Y.move rfl) rfl ?_
  refine RL.nil ?_
  refine hK6 _ _ _ ?_
  refine CW.keep (Keep.cons 0 rfl (Keep.cons 1 rfl (Keep.cons 7 rfl (Keep.cons 8 rfl (Keep.cons 9 rfl (Keep.cons 10 rfl (Keep.cons 35 rfl (Keep.cons 36 rfl (Keep.cons 37 rfl (Keep.nil _)))))))))) ?_
  refine CW.block ?_
  -- LOOP 1: live [0, 1, 7, 8, 9, 10, 35, 36, 37] changed [9, 10, 37]
  refine CW.keep (Keep.cons 9 rfl (Keep.cons 10 rfl (Keep.cons 37 rfl (Keep.cons 0 rfl (Keep.cons 1 rfl (Keep.cons 7 rfl (Keep.cons 8 rfl (Keep.cons 35 rfl (Keep.cons 36 rfl (Keep.nil _)))))))))) ?_
  refine CW.front (x := .acc _ _ _ _ _) (by repeat (first | exact Pick.here _ | apply Pick.there)) ?_
  refine CW.loopF (fun mm Lc M1 Γc => ∃ (k : Nat) (done : List (Nat × Nat)) (n : Int) (a9 : Option Addr) (c9 : Nat), mm = l.length - k ∧ k ≤ l.length ∧ Lc = [(9, .slice a9 done.length c9), (10, vint n), (37, vint k)] ∧ Γc = [.acc (.slice a9 done.length c9) 102 2 done.length (done.flatMap i2v)] ∧ M1 = M ∧ done.length = k ∧ (∀ q ∈ done, q.1 < a.length ∧ q.2 < b.length) ∧ (-3000 ≤ n ∧ n ≤ 3000 + k) ∧ costGo a b [] ((a.length : Int) + b.length - 2 * l.length) l = costGo a b done n (l.drop k)) l.length [(9, _), (10, _), (37, _)] [.acc _ _ _ _ _] rfl rfl ⟨0, [], _, none, 0, rfl, Nat.zero_le _, rfl, rfl, rfl, rfl, fun q h => by simp at h, by omega, rfl⟩ ?_
  rintro mm Lc M1 Γc hsub ⟨k, done, n, a9, c9, rfl, hk, rfl, rfl, rfl, hdk, hdb2, hnb, hcg⟩
  refine CW.seq fun K7 hK7 => ?_
  refine CW.region ?_
  refine RL.q (Y.lss rfl rfl) rfl ?_
  refine RL.nil ?_
  refine hK7 _ _ _ ?_
  refine CW.keep (Keep.cons 0 rfl (Keep.cons 1 rfl (Keep.cons 7 rfl (Keep.cons 8 rfl (Keep.cons 9 rfl (Keep.cons 10 rfl (Keep.cons 35 rfl (Keep.cons 36 rfl (Keep.cons 37 rfl (Keep.cons 38 rfl (Keep.nil _))))))))))) ?_
  refine CW.seq fun K8 hK8 => ?_
  refine CW.ite rfl (fun h1 => ?_) (fun h1 => ?_)
  · have hka : k < l.length := by omega
    have hn := List.getElem?_eq_getElem hka
    refine CW.skip ?_
    refine hK8 _ _ _ ?_
    refine CW.seq fun K9 hK9 => ?_
    refine CW.block ?_
    refine CW.seq fun K10 hK10 => ?_
    refine CW.region ?_
    refine RL.q (Y.index k rfl rfl rfl hka slice34 (fun _ hw => hw.rd_some (by repeat (first | exact List.Mem.head _ | apply List.Mem.tail)) (by omega))) rfl ?_
    refine RL.loadAgg rfl rfl (by repeat (first | exact List.Mem.head _ | apply List.Mem.tail)) (flat_take PairD.enc_len _ k _ hn) (by first | rfl | exact Ex.enc_len _ | exact Ty.enc_len _ | exact MNode.enc_len _ | exact RNode.enc_len _) agg51 rfl fun us40 hul40 hur40 => ?_
    refine RL.alloc _ zero51 rfl rfl fun b12 => ?_
    refine RL.storeAgg us40 rfl rfl (by repeat (first | exact Repl.here _ | apply Repl.there)) (by simp [hul40]) (by simp [hul40]) (fun _ _ => hur40.one) (by rw [hul40]; exact size51) ?_
    refine RL.nil ?_
    refine hK10 _ _ _ ?_
    refine CW.keep (Keep.cons 0 rfl (Keep.cons 1 rfl (Keep.cons 7 rfl (Keep.cons 8 rfl (Keep.cons 9 rfl (Keep.cons 10 rfl (Keep.cons 12 rfl (Keep.cons 35 rfl (Keep.cons 36 rfl (Keep.cons 37 rfl (Keep.nil _))))))))))) ?_
    refine CW.seq fun K11 hK11 => ?_
    refine CW.region ?_
    refine RL.q (Y.move rfl) rfl ?_
    refine RL.q (Y.field rfl field51_0) rfl ?_
    first | refine RL.q (Y.loadAggV [_, _, _] rfl (by repeat (first | exact List.Mem.head _ | apply List.Mem.tail)) (by repeat (first | exact List.Mem.head _ | apply List.Mem.tail)) (by rfl) agg24) rfl ?_ | refine RL.q (Y.loadAll rfl (by repeat (first | exact List.Mem.head _ | apply List.Mem.tail)) (by rfl) agg24) rfl ?_
    refine RL.q (Y.lookPlc (k := l[k].frm) (l := a) rfl rfl key24 map98 zero3 (by repeat (first | exact List.Mem.head _ | apply List.Mem.tail))) rfl ?_
    refine RL.q (Y.move rfl) rfl ?_
    refine RL.q (Y.extract rfl rfl) rfl ?_
    refine RL.q (Y.extract rfl rfl) rfl ?_
    refine RL.q (Y.assign rfl) rfl ?_
    refine RL.q (Y.assign rfl) rfl ?_
    refine RL.nil ?_
    refine hK11 _ _ _ ?_
    refine CW.keep (Keep.cons 0 rfl (Keep.cons 1 rfl (Keep.cons 7 rfl (Keep.cons 8 rfl (Keep.cons 9 rfl (Keep.cons 10 rfl (Keep.cons 12 rfl (Keep.cons 13 rfl (Keep.cons 14 rfl (Keep.cons 35 rfl (Keep.cons 36 rfl (Keep.cons 37 rfl (Keep.nil _))))))))))))) ?_
    refine CW.seq fun K12 hK12 => ?_
    refine CW.region ?_
    refine RL.q (Y.move rfl) rfl ?_
    refine RL.q (Y.field rfl field51_1) rfl ?_
    first | refine RL.q (Y.loadAggV [_, _, _] rfl (by repeat (first | exact List.Mem.head _ | apply List.Mem.tail)) (by repeat (first | exact List.Mem.head _ | apply List.Mem.tail)) (by rfl) agg24) rfl ?_ | refine RL.q (Y.loadAll rfl (by repeat (first | exact List.Mem.head _ | apply List.Mem.tail)) (by rfl) agg24) rfl ?_
    refine RL.q (Y.lookPlc (k := l[k].to) (l := b) rfl rfl key24 map98 zero3 (by repeat (first | exact List.Mem.head _ | apply List.Mem.tail))) rfl ?_
    refine RL.q (Y.move rfl) rfl ?_
    refine RL.q (Y.extract rfl rfl) rfl ?_
    refine RL.q (Y.extract rfl rfl) rfl ?_
    refine RL.q (Y.assign rfl) rfl ?_
    refine RL.q (Y.assign rfl) rfl ?_
    refine RL.nil ?_
    refine hK12 _ _ _ ?_
    refine CW.keep (Keep.cons 0 rfl (Keep.cons 1 rfl (Keep.cons 7 rfl (Keep.cons 8 rfl (Keep.cons 9 rfl (Keep.cons 10 rfl (Keep.cons 13 rfl (Keep.cons 14 rfl (Keep.cons 15 rfl (Keep.cons 16 rfl (Keep.cons 35 rfl (Keep.cons 36 rfl (Keep.cons 37 rfl (Keep.nil _)))))))))))))) ?_
    refine CW.seq fun K13 hK13 => ?_
    refine CW.seq fun K14 hK14 => ?_
    refine CW.region ?_
    refine RL.qs (Y.move rfl) rfl (fun g55 => ?_) (fun g55 => ?_)
    · refine RL.q (Y.not rfl) rfl ?_
      refine RL.q (Y.move rfl) rfl ?_
      refine RL.qg ⟨_, _, rfl, rfl, rfl⟩ (Y.move rfl) rfl ?_
      refine RL.qg ⟨_, _, rfl, rfl, rfl⟩ (Y.notD rfl) rfl ?_
      refine RL.q (Y.pickF rfl rfl) rfl ?_
      refine RL.nil ?_
      refine hK14 _ _ _ ?_
      refine CW.keep (Keep.cons 0 rfl (Keep.cons 1 rfl (Keep.cons 7 rfl (Keep.cons 8 rfl (Keep.cons 9 rfl (Keep.cons 10 rfl (Keep.cons 13 rfl (Keep.cons 15 rfl (Keep.cons 35 rfl (Keep.cons 36 rfl (Keep.cons 37 rfl (Keep.cons 60 rfl (Keep.nil _))))))))))))) ?_
      refine CW.ite rfl (fun h2 => ?_) (fun h2 => ?_)
      · refine CW.seq fun K15 hK15 => ?_
        refine CW.region ?_
        refine RL.q (Y.assign rfl) rfl ?_
        refine RL.nil ?_
        refine hK15 _ _ _ ?_
        refine CW.keep (Keep.cons 6 rfl (Keep.nil _)) ?_
        refine CW.ret ?_
        refine ⟨_, rfl, Turn.drop ⟨?_, rfl, rfl⟩ (by repeat (first | exact List.Sublist.refl _ | apply List.Sublist.cons_cons | apply List.Sublist.cons))⟩
        rw [mcost, hcg, List.drop_eq_getElem_cons hka, costGo, if_neg (fun h => h2 h.2.1)]
        rfl
      · refine CW.skip ?_
        refine hK13 _ _ _ ?_
        refine CW.seq fun K16 hK16 => ?_
        refine CW.seq fun K17 hK17 => ?_
        have hi := (plcZ_lt g55).1
        have hj := (plcZ_lt (Decidable.not_not.1 h2)).1
        refine CW.region ?_
        refine RL.q (Y.move rfl) rfl ?_
        refine RL.q (Y.len rfl Try.underlying100) rfl ?_
        refine RL.q (Y.move rfl) rfl ?_
        refine RL.nil ?_
        refine hK17 _ _ _ ?_
        refine CW.keep (Keep.cons 0 rfl (Keep.cons 1 rfl (Keep.cons 7 rfl (Keep.cons 8 rfl (Keep.cons 9 rfl (Keep.cons 10 rfl (Keep.cons 13 rfl (Keep.cons 15 rfl (Keep.cons 35 rfl (Keep.cons 36 rfl (Keep.cons 37 rfl (Keep.cons 61 rfl (Keep.cons 62 rfl (Keep.cons 63 rfl (Keep.nil _))))))))))))))) ?_
        refine CW.block ?_
        -- LOOP 2: live [0, 1, 7, 8, 9, 10, 13, 15, 35, 36, 37, 61, 62, 63] changed [63]
        refine CW.keep (Keep.cons 63 rfl (Keep.cons 0 rfl (Keep.cons 1 rfl (Keep.cons 7 rfl (Keep.cons 8 rfl (Keep.cons 9 rfl (Keep.cons 10 rfl (Keep.cons 13 rfl (Keep.cons 15 rfl (Keep.cons 35 rfl (Keep.cons 36 rfl (Keep.cons 37 rfl (Keep.cons 61 rfl (Keep.cons 62 rfl (Keep.nil _))))))))))))))) ?_
        refine CW.loopF (fun mm Lc M2 Γc => ∃ q : Nat, mm = done.length - q ∧ q ≤ done.length ∧ Lc = [(63, vint q)] ∧ Γc = [] ∧ M2 = M1 ∧ ∀ i (hi : i < done.length), i < q → compat a b (plcZ a l[k].frm, plcZ b l[k].to) done[i]) done.length [(63, _)] [] rfl rfl ⟨0, rfl, Nat.zero_le _, rfl, rfl, rfl, fun _ _ h => absurd h (Nat.not_lt_zero _)⟩ ?_
        rintro mm Lc M2 Γc hsub2 ⟨q, rfl, hq, rfl, rfl, rfl, hT⟩
        refine CW.seq fun K18 hK18 => ?_
        refine CW.region ?_
        refine RL.q (Y.lss rfl rfl) rfl ?_
        refine RL.nil ?_
        refine hK18 _ _ _ ?_
        refine CW.keep (Keep.cons 0 rfl (Keep.cons 1 rfl (Keep.cons 7 rfl (Keep.cons 8 rfl (Keep.cons 9 rfl (Keep.cons 10 rfl (Keep.cons 13 rfl (Keep.cons 15 rfl (Keep.cons 35 rfl (Keep.cons 36 rfl (Keep.cons 37 rfl (Keep.cons 61 rfl (Keep.cons 62 rfl (Keep.cons 63 rfl (Keep.cons 64 rfl (Keep.nil _)))))))))))))))) ?_
        refine CW.seq fun K19 hK19 => ?_
        refine CW.ite rfl (fun h3 => ?_) (fun h3 => ?_)
        · refine CW.skip ?_
          refine hK19 _ _ _ ?_
          refine CW.seq fun K20 hK20 => ?_
          refine CW.block ?_
          refine CW.seq fun K21 hK21 => ?_
          have hqa : q < done.length := by omega
          obtain ⟨hq1, hq2⟩ := hdb2 _ (List.getElem_mem hqa)
          refine CW.region ?_
          refine RL.q (Y.indexAcc q rfl rfl rfl hqa slice100 (by repeat (first | exact List.Mem.head _ | apply List.Mem.tail)) (i2_get done q 0 hqa _ rfl)) rfl ?_
          refine RL.q (Y.loadAggAcc (i2v done[q]) rfl (by repeat (first | exact List.Mem.head _ | apply List.Mem.tail)) (fun j v h => i2_get done q j hqa v h) agg102) rfl ?_
          refine RL.alloc _ zero102 rfl rfl fun b18 => ?_
          refine RL.storeAgg [vint done[q].1, vint done[q].2] rfl rfl (by repeat (first | exact Repl.here _ | apply Repl.there)) (by rfl) (by simp [i2v]) (by simp [i2v, Value.oneCell']) size102 ?_
          refine RL.nil ?_
          refine hK21 _ _ _ ?_
          refine CW.keep (Keep.cons 0 rfl (Keep.cons 1 rfl (Keep.cons 7 rfl (Keep.cons 8 rfl (Keep.cons 9 rfl (Keep.cons 10 rfl (Keep.cons 13 rfl (Keep.cons 15 rfl (Keep.cons 18 rfl (Keep.cons 35 rfl (Keep.cons 36 rfl (Keep.cons 37 rfl (Keep.cons 61 rfl (Keep.cons 62 rfl (Keep.cons 63 rfl (Keep.nil _)))))))))))))))) ?_
          refine CW.seq fun K22 hK22 => ?_
          refine CW.regionM1 19 (.bool (decide (((plcZ a l[k].frm : Nat) : Int) ≠ ((done[q].1 : Nat) : Int) ∧ ((plcZ b l[k].to : Nat) : Int) ≠ ((done[q].2 : Nat) : Int) ∧ (((plcZ a l[k].frm : Nat) : Int) < ((done[q].1 : Nat) : Int) ↔ ((plcZ b l[k].to : Nat) : Int) < ((done[q].2 : Nat) : Int))))) ?_ ?_
          · refine RL.q (Y.move rfl) rfl ?_
            refine RL.q (Y.indexArr 0 rfl rfl rfl (by decide) arr102) rfl ?_
            first | refine RL.q (Y.loadOwnV rfl (by repeat (first | exact List.Mem.head _ | apply List.Mem.tail)) (by repeat (first | exact List.Mem.head _ | apply List.Mem.tail)) (by rfl) flat3) rfl ?_ | refine RL.q (Y.loadOwn rfl (by repeat (first | exact List.Mem.head _ | apply List.Mem.tail)) (by rfl) flat3) rfl ?_ | refine RL.loadOwnSl rfl rfl (by repeat (first | exact List.Mem.head _ | apply List.Mem.tail)) (by repeat (first | exact List.Mem.head _ | apply List.Mem.tail)) (by rfl) flat3 rfl fun a69 c69 hu69 hc69 hl69 => ?_
            refine RL.qs (Y.neq rfl rfl) rfl (fun g70 => ?_) (fun g70 => ?_)
            · refine RL.q (Y.move rfl) rfl ?_
              refine RL.qg ⟨_, _, rfl, rfl, rfl⟩ (Y.move rfl) rfl ?_
              refine RL.qg ⟨_, _, rfl, rfl, rfl⟩ (Y.indexArr 1 rfl rfl rfl (by decide) arr102) rfl ?_
              first | refine RL.qg ⟨_, _, rfl, rfl, rfl⟩ (Y.loadOwnV rfl (by repeat (first | exact List.Mem.head _ | apply List.Mem.tail)) (by repeat (first | exact List.Mem.head _ | apply List.Mem.tail)) (by rfl) flat3) rfl ?_ | refine RL.qg ⟨_, _, rfl, rfl, rfl⟩ (Y.loadOwn rfl (by repeat (first | exact List.Mem.head _ | apply List.Mem.tail)) (by rfl) flat3) rfl ?_ | refine RL.loadOwnSl ⟨_, _, rfl, rfl, rfl⟩ rfl (by repeat (first | exact List.Mem.head _ | apply List.Mem.tail)) (by repeat (first | exact List.Mem.head _ | apply List.Mem.tail)) (by rfl) flat3 rfl fun a74 c74 hu74 hc74 hl74 => ?_
              refine RL.qgs ⟨_, _, rfl, rfl, rfl⟩ (Y.neq rfl rfl) rfl (fun g75 => ?_) (fun g75 => ?_)
              · refine RL.q (Y.pickT rfl rfl) rfl ?_
                refine RL.q (Y.move rfl) rfl ?_
                refine RL.qg ⟨_, _, rfl, rfl, rfl⟩ (Y.move rfl) rfl ?_
                refine RL.qg ⟨_, _, rfl, rfl, rfl⟩ (Y.indexArr 0 rfl rfl rfl (by decide) arr102) rfl ?_
                first | refine RL.qg ⟨_, _, rfl, rfl, rfl⟩ (Y.loadOwnV rfl (by repeat (first | exact List.Mem.head _ | apply List.Mem.tail)) (by repeat (first | exact List.Mem.head _ | apply List.Mem.tail)) (by rfl) flat3) rfl ?_ | refine RL.qg ⟨_, _, rfl, rfl, rfl⟩ (Y.loadOwn rfl (by repeat (first | exact List.Mem.head _ | apply List.Mem.tail)) (by rfl) flat3) rfl ?_ | refine RL.loadOwnSl ⟨_, _, rfl, rfl, rfl⟩ rfl (by repeat (first | exact List.Mem.head _ | apply List.Mem.tail)) (by repeat (first | exact List.Mem.head _ | apply List.Mem.tail)) (by rfl) flat3 rfl fun a80 c80 hu80 hc80 hl80 => ?_
                refine RL.qg ⟨_, _, rfl, rfl, rfl⟩ (Y.lss rfl rfl) rfl ?_
                refine RL.qg ⟨_, _, rfl, rfl, rfl⟩ (Y.move rfl) rfl ?_
                refine RL.qg ⟨_, _, rfl, rfl, rfl⟩ (Y.indexArr 1 rfl rfl rfl (by decide) arr102) rfl ?_
                first | refine RL.qg ⟨_, _, rfl, rfl, rfl⟩ (Y.loadOwnV rfl (by repeat (first | exact List.Mem.head _ | apply List.Mem.tail)) (by repeat (first | exact List.Mem.head _ | apply List.Mem.tail)) (by rfl) flat3) rfl ?_ | refine RL.qg ⟨_, _, rfl, rfl, rfl⟩ (Y.loadOwn rfl (by repeat (first | exact List.Mem.head _ | apply List.Mem.tail)) (by rfl) flat3) rfl ?_ | refine RL.loadOwnSl ⟨_, _, rfl, rfl, rfl⟩ rfl (by repeat (first | exact List.Mem.head _ | apply List.Mem.tail)) (by repeat (first | exact List.Mem.head _ | apply List.Mem.tail)) (by rfl) flat3 rfl fun a84 c84 hu84 hc84 hl84 => ?_
                refine RL.qg ⟨_, _, rfl, rfl, rfl⟩ (Y.lss rfl rfl) rfl ?_
                refine RL.qg ⟨_, _, rfl, rfl, rfl⟩ (Y.eqlBB Try.underlying4 rfl rfl) rfl ?_
                refine RL.q (Y.pickT rfl rfl) rfl ?_
                refine RL.q (Y.assign rfl) rfl ?_
                refine RL.nil ?_
                exact ⟨gl rfl (bmerge (by first | omega | (simp; done) | (simp; omega))), (by repeat (first | exact Keep.nil _ | refine Keep.cons _ rfl ?_)), fun _ hw => hw.sub (by repeat (first | exact List.Sublist.refl _ | apply List.Sublist.cons_cons | apply List.Sublist.cons))⟩
              · refine RL.q (Y.pickT rfl rfl) rfl ?_
                refine RL.q (Y.move rfl) rfl ?_
                refine RL.no ⟨_, _, rfl, rfl, rfl⟩ rfl ?_
                refine RL.no ⟨_, _, rfl, rfl, rfl⟩ rfl ?_
                refine RL.no ⟨_, _, rfl, rfl, rfl⟩ rfl ?_
                refine RL.no ⟨_, _, rfl, rfl, rfl⟩ rfl ?_
                refine RL.no ⟨_, _, rfl, rfl, rfl⟩ rfl ?_
                refine RL.no ⟨_, _, rfl, rfl, rfl⟩ rfl ?_
                refine RL.no ⟨_, _, rfl, rfl, rfl⟩ rfl ?_
                refine RL.no ⟨_, _, rfl, rfl, rfl⟩ rfl ?_
                refine RL.no ⟨_, _, rfl, rfl, rfl⟩ rfl ?_
                refine RL.q (Y.pickF rfl rfl) rfl ?_
                refine RL.q (Y.assign rfl) rfl ?_
                refine RL.nil ?_
                exact ⟨gl rfl (bmerge (by first | omega | (simp; done) | (simp; omega))), (by repeat (first | exact Keep.nil _ | refine Keep.cons _ rfl ?_)), fun _ hw => hw.sub (by repeat (first | exact List.Sublist.refl _ | apply List.Sublist.cons_cons | apply List.Sublist.cons))⟩
            · refine RL.q (Y.move rfl) rfl ?_
              refine RL.no ⟨_, _, rfl, rfl, rfl⟩ rfl ?_
              refine RL.no ⟨_, _, rfl, rfl, rfl⟩ rfl ?_
              refine RL.no ⟨_, _, rfl, rfl, rfl⟩ rfl ?_
              refine RL.no ⟨_, _, rfl, rfl, rfl⟩ rfl ?_
              refine RL.q (Y.pickF rfl rfl) rfl ?_
              refine RL.q (Y.move rfl) rfl ?_
              refine RL.no ⟨_, _, rfl, rfl, rfl⟩ rfl ?_
              refine RL.no ⟨_, _, rfl, rfl, rfl⟩ rfl ?_
              refine RL.no ⟨_, _, rfl, rfl, rfl⟩ rfl ?_
              refine RL.no ⟨_, _, rfl, rfl, rfl⟩ rfl ?_
              refine RL.no ⟨_, _, rfl, rfl, rfl⟩ rfl ?_
              refine RL.no ⟨_, _, rfl, rfl, rfl⟩ rfl ?_
              refine RL.no ⟨_, _, rfl, rfl, rfl⟩ rfl ?_
              refine RL.no ⟨_, _, rfl, rfl, rfl⟩ rfl ?_
              refine RL.no ⟨_, _, rfl, rfl, rfl⟩ rfl ?_
              refine RL.q (Y.pickF rfl rfl) rfl ?_
              refine RL.q (Y.assign rfl) rfl ?_
              refine RL.nil ?_
              exact ⟨gl rfl (bmerge (by first | omega | (simp; done) | (simp; omega))), (by repeat (first | exact Keep.nil _ | refine Keep.cons _ rfl ?_)), fun _ hw => hw.sub (by repeat (first | exact List.Sublist.refl _ | apply List.Sublist.cons_cons | apply List.Sublist.cons))⟩
          refine hK22 _ _ _ ?_
          refine CW.seq fun K23 hK23 => ?_
          refine CW.regionQM1 mix (by kernel_rfl) 20 (.bool (decide ((((fstAt a done[q].1 : Nat) : Int) ≤ ((plcZ a l[k].frm : Nat) : Int) ∧ ((plcZ a l[k].frm : Nat) : Int) < ((done[q].1 : Nat) : Int)) ↔ (((fstAt b done[q].2 : Nat) : Int) ≤ ((plcZ b l[k].to : Nat) : Int) ∧ ((plcZ b l[k].to : Nat) : Int) < ((done[q].2 : Nat) : Int))))) ?_ ?_
          · refine QL.q (Y.move rfl) rfl ?_
            refine QL.q (Y.move rfl) rfl ?_
            refine QL.q (Y.indexArr 0 rfl rfl rfl (by decide) arr102) rfl ?_
            first | refine QL.q (Y.loadOwnV rfl (by repeat (first | exact List.Mem.head _ | apply List.Mem.tail)) (by repeat (first | exact List.Mem.head _ | apply List.Mem.tail)) (by rfl) flat3) rfl ?_ | refine QL.q (Y.loadOwn rfl (by repeat (first | exact List.Mem.head _ | apply List.Mem.tail)) (by rfl) flat3) rfl ?_ | refine QL.loadOwnSl rfl rfl (by repeat (first | exact List.Mem.head _ | apply List.Mem.tail)) (by repeat (first | exact List.Mem.head _ | apply List.Mem.tail)) (by rfl) flat3 rfl fun a91 c91 hu91 hc91 hl91 => ?_
            refine QL.q (Y.index done[q].1 rfl rfl rfl hq1 slice74 (fun _ hw => hw.rd_some (by repeat (first | exact List.Mem.head _ | apply List.Mem.tail)) (by omega))) rfl ?_
            refine QL.q (Y.field rfl field80_1) rfl ?_
            refine QL.q (Y.loadRd rfl (by repeat (first | exact List.Mem.head _ | apply List.Mem.tail)) (mfirst hq1) flat3) rfl ?_
            refine QL.qs (Y.geq rfl rfl) rfl (fun g95 => ?_) (fun g95 => ?_)
            · refine QL.q (Y.move rfl) rfl ?_
              refine QL.qg ⟨_, _, rfl, rfl, rfl⟩ (Y.move rfl) rfl ?_
              refine QL.qg ⟨_, _, rfl, rfl, rfl⟩ (Y.indexArr 0 rfl rfl rfl (by decide) arr102) rfl ?_
              first | refine QL.qg ⟨_, _, rfl, rfl, rfl⟩ (Y.loadOwnV rfl (by repeat (first | exact List.Mem.head _ | apply List.Mem.tail)) (by repeat (first | exact List.Mem.head _ | apply List.Mem.tail)) (by rfl) flat3) rfl ?_ | refine QL.qg ⟨_, _, rfl, rfl, rfl⟩ (Y.loadOwn rfl (by repeat (first | exact List.Mem.head _ | apply List.Mem.tail)) (by rfl) flat3) rfl ?_ | refine QL.loadOwnSl ⟨_, _, rfl, rfl, rfl⟩ rfl (by repeat (first | exact List.Mem.head _ | apply List.Mem.tail)) (by repeat (first | exact List.Mem.head _ | apply List.Mem.tail)) (by rfl) flat3 rfl fun a99 c99 hu99 hc99 hl99 => ?_
              refine QL.qg ⟨_, _, rfl, rfl, rfl⟩ (Y.lss rfl rfl) rfl ?_
              refine QL.q (Y.pickT rfl rfl) rfl ?_
              refine QL.q (Y.move rfl) rfl ?_
              refine QL.q (Y.move rfl) rfl ?_
              refine QL.q (Y.indexArr 1 rfl rfl rfl (by decide) arr102) rfl ?_
              first | refine QL.q (Y.loadOwnV rfl (by repeat (first | exact List.Mem.head _ | apply List.Mem.tail)) (by repeat (first | exact List.Mem.head _ | apply List.Mem.tail)) (by rfl) flat3) rfl ?_ | refine QL.q (Y.loadOwn rfl (by repeat (first | exact List.Mem.head _ | apply List.Mem.tail)) (by rfl) flat3) rfl ?_ | refine QL.loadOwnSl rfl rfl (by repeat (first | exact List.Mem.head _ | apply List.Mem.tail)) (by repeat (first | exact List.Mem.head _ | apply List.Mem.tail)) (by rfl) flat3 rfl fun a105 c105 hu105 hc105 hl105 => ?_
              refine QL.q (Y.index done[q].2 rfl rfl rfl hq2 slice74 (fun _ hw => hw.rd_some (by repeat (first | exact List.Mem.head _ | apply List.Mem.tail)) (by omega))) rfl ?_
              refine QL.q (Y.field rfl field80_1) rfl ?_
              refine QL.q (Y.loadRd rfl (by repeat (first | exact List.Mem.head _ | apply List.Mem.tail)) (mfirst hq2) flat3) rfl ?_
              refine QL.qs (Y.geq rfl rfl) rfl (fun g109 => ?_) (fun g109 => ?_)
              · refine QL.q (Y.move rfl) rfl ?_
                refine QL.qg ⟨_, _, rfl, rfl, rfl⟩ (Y.move rfl) rfl ?_
                refine QL.qg ⟨_, _, rfl, rfl, rfl⟩ (Y.indexArr 1 rfl rfl rfl (by decide) arr102) rfl ?_
                first | refine QL.qg ⟨_, _, rfl, rfl, rfl⟩ (Y.loadOwnV rfl (by repeat (first | exact List.Mem.head _ | apply List.Mem.tail)) (by repeat (first | exact List.Mem.head _ | apply List.Mem.tail)) (by rfl) flat3) rfl ?_ | refine QL.qg ⟨_, _, rfl, rfl, rfl⟩ (Y.loadOwn rfl (by repeat (first | exact List.Mem.head _ | apply List.Mem.tail)) (by rfl) flat3) rfl ?_ | refine QL.loadOwnSl ⟨_, _, rfl, rfl, rfl⟩ rfl (by repeat (first | exact List.Mem.head _ | apply List.Mem.tail)) (by repeat (first | exact List.Mem.head _ | apply List.Mem.tail)) (by rfl) flat3 rfl fun a113 c113 hu113 hc113 hl113 => ?_
                refine QL.qg ⟨_, _, rfl, rfl, rfl⟩ (Y.lss rfl rfl) rfl ?_
                refine QL.q (Y.pickT rfl rfl) rfl ?_
                refine QL.q (Y.eqlBB Try.underlying4 rfl rfl) rfl ?_
                refine QL.q (Y.assign rfl) rfl ?_
                refine QL.nil ?_
                exact ⟨gl rfl (bmerge (by first | omega | (simp; done) | (simp; omega))), (by repeat (first | exact Keep.nil _ | refine Keep.cons _ rfl ?_)), fun _ hw => hw.sub (by repeat (first | exact List.Sublist.refl _ | apply List.Sublist.cons_cons | apply List.Sublist.cons))⟩
              · refine QL.q (Y.move rfl) rfl ?_
                refine QL.no ⟨_, _, rfl, rfl, rfl⟩ rfl ?_
                refine QL.no ⟨_, _, rfl, rfl, rfl⟩ rfl ?_
                refine QL.no ⟨_, _, rfl, rfl, rfl⟩ rfl ?_
                refine QL.no ⟨_, _, rfl, rfl, rfl⟩ rfl ?_
                refine QL.q (Y.pickF rfl rfl) rfl ?_
                refine QL.q (Y.eqlBB Try.underlying4 rfl rfl) rfl ?_
                refine QL.q (Y.assign rfl) rfl ?_
                refine QL.nil ?_
                exact ⟨gl rfl (bmerge (by first | omega | (simp; done) | (simp; omega))), (by repeat (first | exact Keep.nil _ | refine Keep.cons _ rfl ?_)), fun _ hw => hw.sub (by repeat (first | exact List.Sublist.refl _ | apply List.Sublist.cons_cons | apply List.Sublist.cons))⟩
            · refine QL.q (Y.move rfl) rfl ?_
              refine QL.no ⟨_, _, rfl, rfl, rfl⟩ rfl ?_
              refine QL.no ⟨_, _, rfl, rfl, rfl⟩ rfl ?_
              refine QL.no ⟨_, _, rfl, rfl, rfl⟩ rfl ?_
              refine QL.no ⟨_, _, rfl, rfl, rfl⟩ rfl ?_
              refine QL.q (Y.pickF rfl rfl) rfl ?_
              refine QL.q (Y.move rfl) rfl ?_
              refine QL.q (Y.move rfl) rfl ?_
              refine QL.q (Y.indexArr 1 rfl rfl rfl (by decide) arr102) rfl ?_
              first | refine QL.q (Y.loadOwnV rfl (by repeat (first | exact List.Mem.head _ | apply List.Mem.tail)) (by repeat (first | exact List.Mem.head _ | apply List.Mem.tail)) (by rfl) flat3) rfl ?_ | refine QL.q (Y.loadOwn rfl (by repeat (first | exact List.Mem.head _ | apply List.Mem.tail)) (by rfl) flat3) rfl ?_ | refine QL.loadOwnSl rfl rfl (by repeat (first | exact List.Mem.head _ | apply List.Mem.tail)) (by repeat (first | exact List.Mem.head _ | apply List.Mem.tail)) (by rfl) flat3 rfl fun a105 c105 hu105 hc105 hl105 => ?_
              refine QL.q (Y.index done[q].2 rfl rfl rfl hq2 slice74 (fun _ hw => hw.rd_some (by repeat (first | exact List.Mem.head _ | apply List.Mem.tail)) (by omega))) rfl ?_
              refine QL.q (Y.field rfl field80_1) rfl ?_
              refine QL.q (Y.loadRd rfl (by repeat (first | exact List.Mem.head _ | apply List.Mem.tail)) (mfirst hq2) flat3) rfl ?_
              refine QL.qs (Y.geq rfl rfl) rfl (fun g109 => ?_) (fun g109 => ?_)
              · refine QL.q (Y.move rfl) rfl ?_
                refine QL.qg ⟨_, _, rfl, rfl, rfl⟩ (Y.move rfl) rfl ?_
                refine QL.qg ⟨_, _, rfl, rfl, rfl⟩ (Y.indexArr 1 rfl rfl rfl (by decide) arr102) rfl ?_
                first | refine QL.qg ⟨_, _, rfl, rfl, rfl⟩ (Y.loadOwnV rfl (by repeat (first | exact List.Mem.head _ | apply List.Mem.tail)) (by repeat (first | exact List.Mem.head _ | apply List.Mem.tail)) (by rfl) flat3) rfl ?_ | refine QL.qg ⟨_, _, rfl, rfl, rfl⟩ (Y.loadOwn rfl (by repeat (first | exact List.Mem.head _ | apply List.Mem.tail)) (by rfl) flat3) rfl ?_ | refine QL.loadOwnSl ⟨_, _, rfl, rfl, rfl⟩ rfl (by repeat (first | exact List.Mem.head _ | apply List.Mem.tail)) (by repeat (first | exact List.Mem.head _ | apply List.Mem.tail)) (by rfl) flat3 rfl fun a113 c113 hu113 hc113 hl113 => ?_
                refine QL.qg ⟨_, _, rfl, rfl, rfl⟩ (Y.lss rfl rfl) rfl ?_
                refine QL.q (Y.pickT rfl rfl) rfl ?_
                refine QL.q (Y.eqlBB Try.underlying4 rfl rfl) rfl ?_
                refine QL.q (Y.assign rfl) rfl ?_
                refine QL.nil ?_
                exact ⟨gl rfl (bmerge (by first | omega | (simp; done) | (simp; omega))), (by repeat (first | exact Keep.nil _ | refine Keep.cons _ rfl ?_)), fun _ hw => hw.sub (by repeat (first | exact List.Sublist.refl _ | apply List.Sublist.cons_cons | apply List.Sublist.cons))⟩
              · refine QL.q (Y.move rfl) rfl ?_
                refine QL.no ⟨_, _, rfl, rfl, rfl⟩ rfl ?_
                refine QL.no ⟨_, _, rfl, rfl, rfl⟩ rfl ?_
                refine QL.no ⟨_, _, rfl, rfl, rfl⟩ rfl ?_
                refine QL.no ⟨_, _, rfl, rfl, rfl⟩ rfl ?_
                refine QL.q (Y.pickF rfl rfl) rfl ?_
                refine QL.q (Y.eqlBB Try.underlying4 rfl rfl) rfl ?_
                refine QL.q (Y.assign rfl) rfl ?_
                refine QL.nil ?_
                exact ⟨gl rfl (bmerge (by first | omega | (simp; done) | (simp; omega))), (by repeat (first | exact Keep.nil _ | refine Keep.cons _ rfl ?_)), fun _ hw => hw.sub (by repeat (first | exact List.Sublist.refl _ | apply List.Sublist.cons_cons | apply List.Sublist.cons))⟩
          refine hK23 _ _ _ ?_
          refine CW.seq fun K24 hK24 => ?_
          refine CW.regionQM1 mix (by kernel_rfl) 21 (.bool (decide ((((fstAt a (plcZ a l[k].frm) : Nat) : Int) ≤ ((done[q].1 : Nat) : Int) ∧ ((done[q].1 : Nat) : Int) < ((plcZ a l[k].frm : Nat) : Int)) ↔ (((fstAt b (plcZ b l[k].to) : Nat) : Int) ≤ ((done[q].2 : Nat) : Int) ∧ ((done[q].2 : Nat) : Int) < ((plcZ b l[k].to : Nat) : Int))))) ?_ ?_
          · refine QL.q (Y.indexArr 0 rfl rfl rfl (by decide) arr102) rfl ?_
            first | refine QL.q (Y.loadOwnV rfl (by repeat (first | exact List.Mem.head _ | apply List.Mem.tail)) (by repeat (first | exact List.Mem.head _ | apply List.Mem.tail)) (by rfl) flat3) rfl ?_ | refine QL.q (Y.loadOwn rfl (by repeat (first | exact List.Mem.head _ | apply List.Mem.tail)) (by rfl) flat3) rfl ?_ | refine QL.loadOwnSl rfl rfl (by repeat (first | exact List.Mem.head _ | apply List.Mem.tail)) (by repeat (first | exact List.Mem.head _ | apply List.Mem.tail)) (by rfl) flat3 rfl fun a118 c118 hu118 hc118 hl118 => ?_
            refine QL.q (Y.move rfl) rfl ?_
            refine QL.q (Y.move rfl) rfl ?_
            refine QL.q (Y.index (plcZ a l[k].frm) rfl rfl rfl hi slice74 (fun _ hw => hw.rd_some (by repeat (first | exact List.Mem.head _ | apply List.Mem.tail)) (by omega))) rfl ?_
            refine QL.q (Y.field rfl field80_1) rfl ?_
            refine QL.q (Y.loadRd rfl (by repeat (first | exact List.Mem.head _ | apply List.Mem.tail)) (mfirst hi) flat3) rfl ?_
            refine QL.qs (Y.geq rfl rfl) rfl (fun g124 => ?_) (fun g124 => ?_)
            · refine QL.q (Y.move rfl) rfl ?_
              refine QL.qg ⟨_, _, rfl, rfl, rfl⟩ (Y.indexArr 0 rfl rfl rfl (by decide) arr102) rfl ?_
              first | refine QL.qg ⟨_, _, rfl, rfl, rfl⟩ (Y.loadOwnV rfl (by repeat (first | exact List.Mem.head _ | apply List.Mem.tail)) (by repeat (first | exact List.Mem.head _ | apply List.Mem.tail)) (by rfl) flat3) rfl ?_ | refine QL.qg ⟨_, _, rfl, rfl, rfl⟩ (Y.loadOwn rfl (by repeat (first | exact List.Mem.head _ | apply List.Mem.tail)) (by rfl) flat3) rfl ?_ | refine QL.loadOwnSl ⟨_, _, rfl, rfl, rfl⟩ rfl (by repeat (first | exact List.Mem.head _ | apply List.Mem.tail)) (by repeat (first | exact List.Mem.head _ | apply List.Mem.tail)) (by rfl) flat3 rfl fun a127 c127 hu127 hc127 hl127 => ?_
              refine QL.qg ⟨_, _, rfl, rfl, rfl⟩ (Y.move rfl) rfl ?_
              refine QL.qg ⟨_, _, rfl, rfl, rfl⟩ (Y.lss rfl rfl) rfl ?_
              refine QL.q (Y.pickT rfl rfl) rfl ?_
              refine QL.q (Y.indexArr 1 rfl rfl rfl (by decide) arr102) rfl ?_
              first | refine QL.q (Y.loadOwnV rfl (by repeat (first | exact List.Mem.head _ | apply List.Mem.tail)) (by repeat (first | exact List.Mem.head _ | apply List.Mem.tail)) (by rfl) flat3) rfl ?_ | refine QL.q (Y.loadOwn rfl (by repeat (first | exact List.Mem.head _ | apply List.Mem.tail)) (by rfl) flat3) rfl ?_ | refine QL.loadOwnSl rfl rfl (by repeat (first | exact List.Mem.head _ | apply List.Mem.tail)) (by repeat (first | exact List.Mem.head _ | apply List.Mem.tail)) (by rfl) flat3 rfl fun a132 c132 hu132 hc132 hl132 => ?_
              refine QL.q (Y.move rfl) rfl ?_
              refine QL.q (Y.move rfl) rfl ?_
              refine QL.q (Y.index (plcZ b l[k].to) rfl rfl rfl hj slice74 (fun _ hw => hw.rd_some (by repeat (first | exact List.Mem.head _ | apply List.Mem.tail)) (by omega))) rfl ?_
              refine QL.q (Y.field rfl field80_1) rfl ?_
              refine QL.q (Y.loadRd rfl (by repeat (first | exact List.Mem.head _ | apply List.Mem.tail)) (mfirst hj) flat3) rfl ?_
              refine QL.qs (Y.geq rfl rfl) rfl (fun g138 => ?_) (fun g138 => ?_)
              · refine QL.q (Y.move rfl) rfl ?_
                refine QL.qg ⟨_, _, rfl, rfl, rfl⟩ (Y.indexArr 1 rfl rfl rfl (by decide) arr102) rfl ?_
                first | refine QL.qg ⟨_, _, rfl, rfl, rfl⟩ (Y.loadOwnV rfl (by repeat (first | exact List.Mem.head _ | apply List.Mem.tail)) (by repeat (first | exact List.Mem.head _ | apply List.Mem.tail)) (by rfl) flat3) rfl ?_ | refine QL.qg ⟨_, _, rfl, rfl, rfl⟩ (Y.loadOwn rfl (by repeat (first | exact List.Mem.head _ | apply List.Mem.tail)) (by rfl) flat3) rfl ?_ | refine QL.loadOwnSl ⟨_, _, rfl, rfl, rfl⟩ rfl (by repeat (first | exact List.Mem.head _ | apply List.Mem.tail)) (by repeat (first | exact List.Mem.head _ | apply List.Mem.tail)) (by rfl) flat3 rfl fun a141 c141 hu141 hc141 hl141 => ?_
                refine QL.qg ⟨_, _, rfl, rfl, rfl⟩ (Y.move rfl) rfl ?_
                refine QL.qg ⟨_, _, rfl, rfl, rfl⟩ (Y.lss rfl rfl) rfl ?_
                refine QL.q (Y.pickT rfl rfl) rfl ?_
                refine QL.q (Y.eqlBB Try.underlying4 rfl rfl) rfl ?_
                refine QL.q (Y.assign rfl) rfl ?_
                refine QL.nil ?_
                exact ⟨gl rfl (bmerge (by first | omega | (simp; done) | (simp; omega))), (by repeat (first | exact Keep.nil _ | refine Keep.cons _ rfl ?_)), fun _ hw => hw.sub (by repeat (first | exact List.Sublist.refl _ | apply List.Sublist.cons_cons | apply List.Sublist.cons))⟩
              · refine QL.q (Y.move rfl) rfl ?_
                refine QL.no ⟨_, _, rfl, rfl, rfl⟩ rfl ?_
                refine QL.no ⟨_, _, rfl, rfl, rfl⟩ rfl ?_
                refine QL.no ⟨_, _, rfl, rfl, rfl⟩ rfl ?_
                refine QL.no ⟨_, _, rfl, rfl, rfl⟩ rfl ?_
                refine QL.q (Y.pickF rfl rfl) rfl ?_
                refine QL.q (Y.eqlBB Try.underlying4 rfl rfl) rfl ?_
                refine QL.q (Y.assign rfl) rfl ?_
                refine QL.nil ?_
                exact ⟨gl rfl (bmerge (by first | omega | (simp; done) | (simp; omega))), (by repeat (first | exact Keep.nil _ | refine Keep.cons _ rfl ?_)), fun _ hw => hw.sub (by repeat (first | exact List.Sublist.refl _ | apply List.Sublist.cons_cons | apply List.Sublist.cons))⟩
            · refine QL.q (Y.move rfl) rfl ?_
              refine QL.no ⟨_, _, rfl, rfl, rfl⟩ rfl ?_
              refine QL.no ⟨_, _, rfl, rfl, rfl⟩ rfl ?_
              refine QL.no ⟨_, _, rfl, rfl, rfl⟩ rfl ?_
              refine QL.no ⟨_, _, rfl, rfl, rfl⟩ rfl ?_
              refine QL.q (Y.pickF rfl rfl) rfl ?_
              refine QL.q (Y.indexArr 1 rfl rfl rfl (by decide) arr102) rfl ?_
              first | refine QL.q (Y.loadOwnV rfl (by repeat (first | exact List.Mem.head _ | apply List.Mem.tail)) (by repeat (first | exact List.Mem.head _ | apply List.Mem.tail)) (by rfl) flat3) rfl ?_ | refine QL.q (Y.loadOwn rfl (by repeat (first | exact List.Mem.head _ | apply List.Mem.tail)) (by rfl) flat3) rfl ?_ | refine QL.loadOwnSl rfl rfl (by repeat (first | exact List.Mem.head _ | apply List.Mem.tail)) (by repeat (first | exact List.Mem.head _ | apply List.Mem.tail)) (by rfl) flat3 rfl fun a132 c132 hu132 hc132 hl132 => ?_
              refine QL.q (Y.move rfl) rfl ?_
              refine QL.q (Y.move rfl) rfl ?_
              refine QL.q (Y.index (plcZ b l[k].to) rfl rfl rfl hj slice74 (fun _ hw => hw.rd_some (by repeat (first | exact List.Mem.head _ | apply List.Mem.tail)) (by omega))) rfl ?_
              refine QL.q (Y.field rfl field80_1) rfl ?_
              refine QL.q (Y.loadRd rfl (by repeat (first | exact List.Mem.head _ | apply List.Mem.tail)) (mfirst hj) flat3) rfl ?_
              refine QL.qs (Y.geq rfl rfl) rfl (fun g138 => ?_) (fun g138 => ?_)
              · refine QL.q (Y.move rfl) rfl ?_
                refine QL.qg ⟨_, _, rfl, rfl, rfl⟩ (Y.indexArr 1 rfl rfl rfl (by decide) arr102) rfl ?_
                first | refine QL.qg ⟨_, _, rfl, rfl, rfl⟩ (Y.loadOwnV rfl (by repeat (first | exact List.Mem.head _ | apply List.Mem.tail)) (by repeat (first | exact List.Mem.head _ | apply List.Mem.tail)) (by rfl) flat3) rfl ?_ | refine QL.qg ⟨_, _, rfl, rfl, rfl⟩ (Y.loadOwn rfl (by repeat (first | exact List.Mem.head _ | apply List.Mem.tail)) (by rfl) flat3) rfl ?_ | refine QL.loadOwnSl ⟨_, _, rfl, rfl, rfl⟩ rfl (by repeat (first | exact List.Mem.head _ | apply List.Mem.tail)) (by repeat (first | exact List.Mem.head _ | apply List.Mem.tail)) (by rfl) flat3 rfl fun a141 c141 hu141 hc141 hl141 => ?_
                refine QL.qg ⟨_, _, rfl, rfl, rfl⟩ (Y.move rfl) rfl ?_
                refine QL.qg ⟨_, _, rfl, rfl, rfl⟩ (Y.lss rfl rfl) rfl ?_
                refine QL.q (Y.pickT rfl rfl) rfl ?_
                refine QL.q (Y.eqlBB Try.underlying4 rfl rfl) rfl ?_
                refine QL.q (Y.assign rfl) rfl ?_
                refine QL.nil ?_
                exact ⟨gl rfl (bmerge (by first | omega | (simp; done) | (simp; omega))), (by repeat (first | exact Keep.nil _ | refine Keep.cons _ rfl ?_)), fun _ hw => hw.sub (by repeat (first | exact List.Sublist.refl _ | apply List.Sublist.cons_cons | apply List.Sublist.cons))⟩
              · refine QL.q (Y.move rfl) rfl ?_
                refine QL.no ⟨_, _, rfl, rfl, rfl⟩ rfl ?_
                refine QL.no ⟨_, _, rfl, rfl, rfl⟩ rfl ?_
                refine QL.no ⟨_, _, rfl, rfl, rfl⟩ rfl ?_
                refine QL.no ⟨_, _, rfl, rfl, rfl⟩ rfl ?_
                refine QL.q (Y.pickF rfl rfl) rfl ?_
                refine QL.q (Y.eqlBB Try.underlying4 rfl rfl) rfl ?_
                refine QL.q (Y.assign rfl) rfl ?_
                refine QL.nil ?_
                exact ⟨gl rfl (bmerge (by first | omega | (simp; done) | (simp; omega))), (by repeat (first | exact Keep.nil _ | refine Keep.cons _ rfl ?_)), fun _ hw => hw.sub (by repeat (first | exact List.Sublist.refl _ | apply List.Sublist.cons_cons | apply List.Sublist.cons))⟩
          refine hK24 _ _ _ ?_
          refine CW.seq fun K25 hK25 => ?_
          refine CW.region ?_
          refine RL.qs (Y.move rfl) rfl (fun g146 => ?_) (fun g146 => ?_)
          · refine RL.q (Y.not rfl) rfl ?_
            refine RL.q (Y.move rfl) rfl ?_
            refine RL.qgs ⟨_, _, rfl, rfl, rfl⟩ (Y.move rfl) rfl (fun g149 => ?_) (fun g149 => ?_)
            · refine RL.qg ⟨_, _, rfl, rfl, rfl⟩ (Y.not rfl) rfl ?_
              refine RL.q (Y.pickF rfl rfl) rfl ?_
              refine RL.q (Y.move rfl) rfl ?_
              refine RL.qg ⟨_, _, rfl, rfl, rfl⟩ (Y.move rfl) rfl ?_
              refine RL.qg ⟨_, _, rfl, rfl, rfl⟩ (Y.notD rfl) rfl ?_
              refine RL.q (Y.pickF rfl rfl) rfl ?_
              refine RL.nil ?_
              refine hK25 _ _ _ ?_
              refine CW.keep (Keep.cons 0 rfl (Keep.cons 1 rfl (Keep.cons 7 rfl (Keep.cons 8 rfl (Keep.cons 9 rfl (Keep.cons 10 rfl (Keep.cons 13 rfl (Keep.cons 15 rfl (Keep.cons 35 rfl (Keep.cons 36 rfl (Keep.cons 37 rfl (Keep.cons 61 rfl (Keep.cons 62 rfl (Keep.cons 63 rfl (Keep.cons 155 rfl (Keep.nil _)))))))))))))))) ?_
              refine CW.ite rfl (fun h4 => ?_) (fun h4 => ?_)
              · refine CW.seq fun K26 hK26 => ?_
                refine CW.region ?_
                refine RL.q (Y.assign rfl) rfl ?_
                refine RL.nil ?_
                refine hK26 _ _ _ ?_
                refine CW.keep (Keep.cons 6 rfl (Keep.nil _)) ?_
                refine CW.ret ?_
                refine ⟨_, rfl, Turn.drop ⟨?_, rfl, rfl⟩ (by repeat (first | exact List.Sublist.refl _ | apply List.Sublist.cons_cons | apply List.Sublist.cons))⟩
                rw [mcost, hcg, List.drop_eq_getElem_cons hka, costGo, if_neg (fun h => by have := h.2.2 done[q] (List.getElem_mem hqa); simp only [compat] at this; omega)]
                rfl
              · refine CW.skip ?_
                refine hK20 _ _ _ ?_
                refine CW.region ?_
                refine RL.q (Y.add rfl rfl (by omega)) rfl ?_
                refine RL.q (Y.move rfl) rfl ?_
                refine RL.nil ?_
                refine ⟨done.length - (q + 1), [(63, _)], ?_, (Keep.cons 63 rfl (Keep.cons 0 rfl (Keep.cons 1 rfl (Keep.cons 7 rfl (Keep.cons 8 rfl (Keep.cons 9 rfl (Keep.cons 10 rfl (Keep.cons 13 rfl (Keep.cons 15 rfl (Keep.cons 35 rfl (Keep.cons 36 rfl (Keep.cons 37 rfl (Keep.cons 61 rfl (Keep.cons 62 rfl (Keep.nil _))))))))))))))), ?_⟩
                · omega
                · exact Turn.drop ⟨[], rfl, hsub2, q + 1, rfl, by omega, rfl, rfl, rfl, all_step (p := fun z => compat a b (plcZ a l[k].frm, plcZ b l[k].to) z) hT hqa (by simp only [compat]; refine ⟨?_, ?_, ?_⟩ <;> omega)⟩ (by repeat (first | exact List.Sublist.refl _ | apply List.Sublist.cons_cons | apply List.Sublist.cons))
            · refine RL.qg ⟨_, _, rfl, rfl, rfl⟩ (Y.not rfl) rfl ?_
              refine RL.q (Y.pickF rfl rfl) rfl ?_
              refine RL.q (Y.move rfl) rfl ?_
              refine RL.no ⟨_, _, rfl, rfl, rfl⟩ rfl ?_
              refine RL.no ⟨_, _, rfl, rfl, rfl⟩ rfl ?_
              refine RL.q (Y.pickT rfl rfl) rfl ?_
              refine RL.nil ?_
              refine hK25 _ _ _ ?_
              refine CW.keep (Keep.cons 0 rfl (Keep.cons 1 rfl (Keep.cons 7 rfl (Keep.cons 8 rfl (Keep.cons 9 rfl (Keep.cons 10 rfl (Keep.cons 13 rfl (Keep.cons 15 rfl (Keep.cons 35 rfl (Keep.cons 36 rfl (Keep.cons 37 rfl (Keep.cons 61 rfl (Keep.cons 62 rfl (Keep.cons 63 rfl (Keep.cons 155 rfl (Keep.nil _)))))))))))))))) ?_
              refine CW.yes rfl ?_
              refine CW.seq fun K27 hK27 => ?_
              refine CW.region ?_
              refine RL.q (Y.assign rfl) rfl ?_
              refine RL.nil ?_
              refine hK27 _ _ _ ?_
              refine CW.keep (Keep.cons 6 rfl (Keep.nil _)) ?_
              refine CW.ret ?_
              refine ⟨_, rfl, Turn.drop ⟨?_, rfl, rfl⟩ (by repeat (first | exact List.Sublist.refl _ | apply List.Sublist.cons_cons | apply List.Sublist.cons))⟩
              rw [mcost, hcg, List.drop_eq_getElem_cons hka, costGo, if_neg (fun h => by have := h.2.2 done[q] (List.getElem_mem hqa); simp only [compat] at this; omega)]
              rfl
          · refine RL.q (Y.not rfl) rfl ?_
            refine RL.q (Y.move rfl) rfl ?_
            refine RL.no ⟨_, _, rfl, rfl, rfl⟩ rfl ?_
            refine RL.no ⟨_, _, rfl, rfl, rfl⟩ rfl ?_
            refine RL.q (Y.pickT rfl rfl) rfl ?_
            refine RL.q (Y.move rfl) rfl ?_
            refine RL.no ⟨_, _, rfl, rfl, rfl⟩ rfl ?_
            refine RL.no ⟨_, _, rfl, rfl, rfl⟩ rfl ?_
            refine RL.q (Y.pickT rfl rfl) rfl ?_
            refine RL.nil ?_
            refine hK25 _ _ _ ?_
            refine CW.keep (Keep.cons 0 rfl (Keep.cons 1 rfl (Keep.cons 7 rfl (Keep.cons 8 rfl (Keep.cons 9 rfl (Keep.cons 10 rfl (Keep.cons 13 rfl (Keep.cons 15 rfl (Keep.cons 35 rfl (Keep.cons 36 rfl (Keep.cons 37 rfl (Keep.cons 61 rfl (Keep.cons 62 rfl (Keep.cons 63 rfl (Keep.cons 155 rfl (Keep.nil _)))))))))))))))) ?_
            refine CW.yes rfl ?_
            refine CW.seq fun K28 hK28 => ?_
            refine CW.region ?_
            refine RL.q (Y.assign rfl) rfl ?_
            refine RL.nil ?_
            refine hK28 _ _ _ ?_
            refine CW.keep (Keep.cons 6 rfl (Keep.nil _)) ?_
            refine CW.ret ?_
            refine ⟨_, rfl, Turn.drop ⟨?_, rfl, rfl⟩ (by repeat (first | exact List.Sublist.refl _ | apply List.Sublist.cons_cons | apply List.Sublist.cons))⟩
            rw [mcost, hcg, List.drop_eq_getElem_cons hka, costGo, if_neg (fun h => by have := h.2.2 done[q] (List.getElem_mem hqa); simp only [compat] at this; omega)]
            rfl
        · refine CW.exit ?_
          refine hK16 _ _ _ ?_
          refine CW.seq fun K29 hK29 => ?_
          have hall : ∀ z ∈ done, compat a b (plcZ a l[k].frm, plcZ b l[k].to) z := fun z hz => by obtain ⟨i, hi, rfl⟩ := List.mem_iff_getElem.1 hz; exact hT i hi (by omega)
          have hdn : ∀ z ∈ done ++ [(plcZ a l[k].frm, plcZ b l[k].to)], z.1 < a.length ∧ z.2 < b.length := fun z hz => by rcases List.mem_append.1 hz with h | h; exact hdb2 z h; rw [List.mem_singleton.1 h]; exact ⟨hi, hj⟩
          refine CW.region ?_
          refine RL.q (Y.move rfl) rfl ?_
          refine RL.q (Y.move rfl) rfl ?_
          refine RL.q (Y.move rfl) rfl ?_
          refine RL.q (Y.buildArr [vint (plcZ a l[k].frm), vint (plcZ b l[k].to)] rfl zero102 arr102 (by rfl)) rfl ?_
          refine RL.buildSlice [vint (plcZ a l[k].frm), vint (plcZ b l[k].to)] elem100 rfl (by decide) (fill1 rfl rfl) rfl fun b161 => ?_
          refine RL.append elem100 rfl rfl (by repeat (first | exact Pick.here _ | apply Pick.there)) (SrcOk.own (by repeat (first | exact List.Mem.head _ | apply List.Mem.tail)) (by rfl) (by simp [Value.oneCell'])) (by first | omega | (unfold lim; omega)) (by first | omega | (unfold lim; omega)) rfl fun a162 c162 hc162 => ?_
          refine RL.q (Y.assign rfl) rfl ?_
          refine RL.nil ?_
          refine hK29 _ _ _ ?_
          refine CW.keep (Keep.cons 0 rfl (Keep.cons 1 rfl (Keep.cons 7 rfl (Keep.cons 8 rfl (Keep.cons 9 rfl (Keep.cons 10 rfl (Keep.cons 13 rfl (Keep.cons 15 rfl (Keep.cons 35 rfl (Keep.cons 36 rfl (Keep.cons 37 rfl (Keep.nil _)))))))))))) ?_
          have hcv : 0 ≤ (if (a[plcZ a l[k].frm]).e.like (b[plcZ b l[k].to]).e then (0 : Int) else 1) ∧ (if (a[plcZ a l[k].frm]).e.like (b[plcZ b l[k].to]).e then (0 : Int) else 1) ≤ 1 := by split <;> omega
          refine CW.regionQ mix (by kernel_rfl) ?_
          refine QL.q (Y.move rfl) rfl ?_
          refine QL.q (Y.move rfl) rfl ?_
          refine QL.q (Y.move rfl) rfl ?_
          refine QL.q (Y.index (plcZ a l[k].frm) rfl rfl rfl hi slice74 (fun _ hw => hw.rd_some (by repeat (first | exact List.Mem.head _ | apply List.Mem.tail)) (by omega))) rfl ?_
          refine QL.loadAgg rfl rfl (by repeat (first | exact List.Mem.head _ | apply List.Mem.tail)) (flat_take MNode.enc_len _ (plcZ a l[k].frm) _ (List.getElem?_eq_getElem hi)) (by first | rfl | exact Ex.enc_len _ | exact Ty.enc_len _ | exact MNode.enc_len _ | exact RNode.enc_len _) agg80 rfl fun us167 hul167 hur167 => ?_
          refine QL.q (Y.move rfl) rfl ?_
          refine QL.q (Y.move rfl) rfl ?_
          refine QL.q (Y.index (plcZ b l[k].to) rfl rfl rfl hj slice74 (fun _ hw => hw.rd_some (by repeat (first | exact List.Mem.head _ | apply List.Mem.tail)) (by omega))) rfl ?_
          refine QL.loadAgg rfl rfl (by repeat (first | exact List.Mem.head _ | apply List.Mem.tail)) (flat_take MNode.enc_len _ (plcZ b l[k].to) _ (List.getElem?_eq_getElem hj)) (by first | rfl | exact Ex.enc_len _ | exact Ty.enc_len _ | exact MNode.enc_len _ | exact RNode.enc_len _) agg80 rfl fun us171 hul171 hur171 => ?_
          refine QL.callv rfl func52 rfl rfl (fun _ _ => change_ok _ _ _ (a[plcZ a l[k].frm]) (b[plcZ b l[k].to]) _ _ hur167 hur171) ?_
          refine QL.q (Y.add rfl rfl (by omega)) rfl ?_
          refine QL.q (Y.assign rfl) rfl ?_
          refine QL.nil ?_
          refine hK9 _ _ _ ?_
          refine CW.keep (Keep.cons 0 rfl (Keep.cons 1 rfl (Keep.cons 7 rfl (Keep.cons 8 rfl (Keep.cons 9 rfl (Keep.cons 10 rfl (Keep.cons 35 rfl (Keep.cons 36 rfl (Keep.cons 37 rfl (Keep.nil _)))))))))) ?_
          rw [show (if (a[plcZ a l[k].frm]).e.like (b[plcZ b l[k].to]).e then (0 : Int) else 1) = chg a b (plcZ a l[k].frm, plcZ b l[k].to) from by rw [chg, exAt_M hi, exAt_M hj]]
          have hch := chg_01 a b (plcZ a l[k].frm, plcZ b l[k].to)
          refine CW.region ?_
          refine RL.q (Y.add rfl rfl (by omega)) rfl ?_
          refine RL.q (Y.move rfl) rfl ?_
          refine RL.nil ?_
          refine ⟨l.length - (k + 1), [(9, _), (10, _), (37, _)], ?_, (Keep.cons 9 rfl (Keep.cons 10 rfl (Keep.cons 37 rfl (Keep.cons 0 rfl (Keep.cons 1 rfl (Keep.cons 7 rfl (Keep.cons 8 rfl (Keep.cons 35 rfl (Keep.cons 36 rfl (Keep.nil _)))))))))), ?_⟩
          · omega
          · exact Turn.drop ⟨[_], rfl, hsub, k + 1, done ++ [(plcZ a l[k].frm, plcZ b l[k].to)], _, _, _, rfl, by omega, by first | (rw [List.length_append]; done) | (rw [List.length_append]; rfl), by first | (rw [List.length_append, List.flatMap_append]; done) | (rw [List.length_append, List.flatMap_append]; rfl), rfl, by simp [hdk], hdn, by omega, by rw [hcg, List.drop_eq_getElem_cons hka, costGo, if_pos ⟨g55, Decidable.not_not.1 h2, hall⟩]⟩ (by repeat (first | exact List.Sublist.refl _ | apply List.Sublist.cons_cons | apply List.Sublist.cons))
    · refine RL.q (Y.not rfl) rfl ?_
      refine RL.q (Y.move rfl) rfl ?_
      refine RL.no ⟨_, _, rfl, rfl, rfl⟩ rfl ?_
      refine RL.no ⟨_, _, rfl, rfl, rfl⟩ rfl ?_
      refine RL.q (Y.pickT rfl rfl) rfl ?_
      refine RL.nil ?_
      refine hK14 _ _ _ ?_
      refine CW.keep (Keep.cons 0 rfl (Keep.cons 1 rfl (Keep.cons 7 rfl (Keep.cons 8 rfl (Keep.cons 9 rfl (Keep.cons 10 rfl (Keep.cons 13 rfl (Keep.cons 15 rfl (Keep.cons 35 rfl (Keep.cons 36 rfl (Keep.cons 37 rfl (Keep.cons 60 rfl (Keep.nil _))))))))))))) ?_
      refine CW.yes rfl ?_
      refine CW.seq fun K30 hK30 => ?_
      refine CW.region ?_
      refine RL.q (Y.assign rfl) rfl ?_
      refine RL.nil ?_
      refine hK30 _ _ _ ?_
      refine CW.keep (Keep.cons 6 rfl (Keep.nil _)) ?_
      refine CW.ret ?_
      refine ⟨_, rfl, Turn.drop ⟨?_, rfl, rfl⟩ (by repeat (first | exact List.Sublist.refl _ | apply List.Sublist.cons_cons | apply List.Sublist.cons))⟩
      rw [mcost, hcg, List.drop_eq_getElem_cons hka, costGo, if_neg (fun h => g55 h.1)]
      rfl
  · refine CW.exit ?_
    refine hK5 _ _ _ ?_
    refine CW.seq fun K31 hK31 => ?_
    refine CW.region ?_
    refine RL.q (Y.move rfl) rfl ?_
    refine RL.q (Y.assign rfl) rfl ?_
    refine RL.nil ?_
    refine hK31 _ _ _ ?_
    refine CW.keep (Keep.cons 6 rfl (Keep.nil _)) ?_
    refine CW.ret ?_
    refine ⟨_, rfl, Turn.drop ⟨?_, rfl, rfl⟩ (by repeat (first | exact List.Sublist.refl _ | apply List.Sublist.cons_cons | apply List.Sublist.cons))⟩
    rw [mcost, hcg, List.drop_of_length_le (by omega), costGo]
    rfl
end Go.Proofs.Ytjkcjbicleohkaa
