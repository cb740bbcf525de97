/- THE WALKS, 2: types, nodes, sizes. Printed by m16b.py. -/
import Derived.Test.YtjkcjbicleohkaaWa
namespace Go.Proofs.Ytjkcjbicleohkaa
open Xe

theorem rsize_ok (N : Nat) : ∀ (w0 : World) (M : Mem) (Γ : List As) (e : Ex) (us : List Value), e.size = N → RdL M e.enc us → e.size ≤ 4611686018427387904 →
    CallOk Try.prog w0 M Γ 20 #[.agg us.toArray] (Is M Γ (vint e.size)) := by
  induction N using Nat.strongRecOn
  rename_i N ih
  intro w0 M Γ e us he hus hb
  have hus0 := hus
  rw [Ex.enc_eq] at hus
  have hse := Ex.size_eq e
  refine enter (f := 20) Try.func20 rfl Try.ntmps20 rfl rfl fun w1 hw1 => ?_
  refine CW.addRds hus ?_
  refine CW.seq fun K1 hK1 => ?_
  refine CW.region ?_
  refine RL.box _ rfl rfl rfl fun b1 => ?_
  refine RL.q (Y.assign rfl) rfl ?_
  refine RL.nil ?_
  refine hK1 _ _ _ ?_
  refine CW.keep (Keep.cons 1 rfl (Keep.nil _)) ?_
  refine CW.seq fun K2 hK2 => ?_
  refine CW.region ?_
  refine RL.q (Y.assign rfl) rfl ?_
  refine RL.nil ?_
  refine hK2 _ _ _ ?_
  refine CW.keep (Keep.cons 1 rfl (Keep.cons 3 rfl (Keep.nil _))) ?_
  refine CW.seq fun K3 hK3 => ?_
  refine CW.seq fun K4 hK4 => ?_
  refine CW.region ?_
  refine RL.q (Y.assign rfl) rfl ?_
  refine RL.nil ?_
  refine hK4 _ _ _ ?_
  refine CW.keep (Keep.cons 1 rfl (Keep.cons 3 rfl (Keep.cons 4 rfl (Keep.nil _)))) ?_
  refine CW.block ?_
  -- LOOP 1: live [1, 3, 4] changed [3, 4]
  refine CW.keep (Keep.cons 3 rfl (Keep.cons 4 rfl (Keep.cons 1 rfl (Keep.nil _)))) ?_
  refine CW.loopF (fun m Lc M1 Γc => ∃ k : Nat, m = e.kids.length - k ∧ k ≤ e.kids.length ∧ Lc = [(3, vint ((1 + Ex.sizes (e.kids.take k) : Nat) : Int)), (4, vint k)] ∧ Γc = [] ∧ M1 = M) e.kids.length [(3, _), (4, _)] [] rfl rfl ⟨0, rfl, Nat.zero_le _, rfl, rfl, rfl⟩ ?_
  rintro m Lc M1 Γc hs ⟨k, rfl, hk, rfl, rfl, rfl⟩
  have hst := Ex.sizes_take e.kids k
  refine CW.seq fun K5 hK5 => ?_
  refine CW.seq fun K6 hK6 => ?_
  refine CW.region ?_
  refine RL.q (Y.move rfl) rfl ?_
  refine RL.q (Y.field rfl field31_5) rfl ?_
  refine RL.loadOwnSl rfl rfl (by repeat (first | exact List.Mem.head _ | apply List.Mem.tail)) (by repeat (first | exact List.Mem.head _ | apply List.Mem.tail)) (by rfl) flat28 rfl fun a7 c7 hu7 hc7 hl7 => ?_
  refine RL.q (Y.len rfl Try.underlying28) rfl ?_
  refine RL.q (Y.lss rfl rfl) rfl ?_
  refine RL.nil ?_
  refine hK6 _ _ _ ?_
  refine CW.keep (Keep.cons 1 rfl (Keep.cons 3 rfl (Keep.cons 4 rfl (Keep.cons 9 rfl (Keep.nil _))))) ?_
  refine CW.ite rfl (fun h1 => ?_) (fun h1 => ?_)
  · have hka : k < e.kids.length := by omega
    have hss := Ex.sizes_succ e.kids k hka
    have hst2 := Ex.sizes_take e.kids (k + 1)
    have hsm := Ex.size_kid (List.getElem_mem hka)
    refine CW.skip ?_
    refine hK5 _ _ _ ?_
    refine CW.seq fun K7 hK7 => ?_
    refine CW.block ?_
    refine CW.region ?_
    refine RL.q (Y.move rfl) rfl ?_
    refine RL.q (Y.field rfl field31_5) rfl ?_
    refine RL.loadOwnSl rfl rfl (by repeat (first | exact List.Mem.head _ | apply List.Mem.tail)) (by repeat (first | exact List.Mem.head _ | apply List.Mem.tail)) (by rfl) flat28 rfl fun a14 c14 hu14 hc14 hl14 => ?_
    refine RL.q (Y.move rfl) rfl ?_
    refine RL.q (Y.index k rfl rfl rfl hka slice28 (fun _ hw => hw.rd_some (by repeat (first | exact List.Mem.head _ | apply List.Mem.tail)) (by omega))) rfl ?_
    refine RL.loadAgg rfl rfl (by repeat (first | exact List.Mem.head _ | apply List.Mem.tail)) (flat_take Ex.enc_len _ k _ (List.getElem?_eq_getElem hka)) (by first | rfl | exact Ex.enc_len _ | exact Ty.enc_len _ | exact MNode.enc_len _ | exact RNode.enc_len _) agg31 rfl fun us17 hul17 hur17 => ?_
    refine RL.callv rfl func20 rfl rfl (ih _ (by omega) _ _ _ _ _ rfl hur17 (by omega)) ?_
    refine RL.q (Y.add rfl rfl (by omega)) rfl ?_
    refine RL.q (Y.assign rfl) rfl ?_
    refine RL.nil ?_
    refine hK7 _ _ _ ?_
    refine CW.keep (Keep.cons 1 rfl (Keep.cons 3 rfl (Keep.cons 4 rfl (Keep.nil _)))) ?_
    refine CW.region ?_
    refine RL.q (Y.move rfl) rfl ?_
    refine RL.q (Y.add rfl rfl (by omega)) rfl ?_
    refine RL.q (Y.assign rfl) rfl ?_
    refine RL.nil ?_
    refine ⟨e.kids.length - (k + 1), [(3, _), (4, _)], ?_, (Keep.cons 3 rfl (Keep.cons 4 rfl (Keep.cons 1 rfl (Keep.nil _)))), ?_⟩
    · omega
    · exact Turn.drop ⟨[], rfl, hs, k + 1, rfl, by omega, by simp [hss]; omega, rfl, rfl⟩ (by repeat (first | exact List.Sublist.refl _ | apply List.Sublist.cons_cons | apply List.Sublist.cons))
  · refine CW.exit ?_
    refine hK3 _ _ _ ?_
    refine CW.seq fun K8 hK8 => ?_
    refine CW.region ?_
    refine RL.q (Y.move rfl) rfl ?_
    refine RL.q (Y.assign rfl) rfl ?_
    refine RL.nil ?_
    refine hK8 _ _ _ ?_
    refine CW.keep (Keep.cons 2 rfl (Keep.nil _)) ?_
    refine CW.ret ?_
    exact ⟨_, rfl, Turn.drop ⟨by rw [show k = e.kids.length by omega, List.take_length, hse], rfl, rfl⟩ (by repeat (first | exact List.Sublist.refl _ | apply List.Sublist.cons_cons | apply List.Sublist.cons))⟩

theorem rsame_ok (N : Nat) : ∀ (w0 : World) (M : Mem) (Γ : List As) (a b : Ty) (us vs : List Value), a.size = N → RdL M a.enc us → RdL M b.enc vs →
    CallOk Try.prog w0 M Γ 53 #[.agg us.toArray, .agg vs.toArray] (Is M Γ (.bool (decide (a = b)))) := by
  induction N using Nat.strongRecOn
  rename_i N ih
  intro w0 M Γ a b us vs ha hus hvs
  rw [Ty.enc_eq] at hus hvs
  refine enter (f := 53) Try.func53 rfl Try.ntmps53 rfl rfl fun w1 hw1 => ?_
  refine CW.addRds hus ?_
  refine CW.addRds hvs ?_
  refine CW.seq fun K1 hK1 => ?_
  refine CW.region ?_
  refine RL.box _ rfl rfl rfl fun b2 => ?_
  refine RL.box _ rfl rfl rfl fun b3 => ?_
  refine RL.q (Y.assign rfl) rfl ?_
  refine RL.nil ?_
  refine hK1 _ _ _ ?_
  refine CW.keep (Keep.cons 2 rfl (Keep.cons 3 rfl (Keep.nil _))) ?_
  refine CW.seq fun K2 hK2 => ?_
  refine CW.seq fun K3 hK3 => ?_
  refine CW.region ?_
  refine RL.q (Y.field rfl field27_0) rfl ?_
  first | refine RL.q (Y.loadOwnV rfl (by repeat (first | exact List.Mem.head _ | apply List.Mem.tail)) (by repeat (first | exact List.Mem.head _ | apply List.Mem.tail)) (by rfl) flat3) rfl ?_ | refine RL.q (Y.loadOwn rfl (by repeat (first | exact List.Mem.head _ | apply List.Mem.tail)) (by rfl) flat3) rfl ?_ | refine RL.loadOwnSl rfl rfl (by repeat (first | exact List.Mem.head _ | apply List.Mem.tail)) (by repeat (first | exact List.Mem.head _ | apply List.Mem.tail)) (by rfl) flat3 rfl fun a7 c7 hu7 hc7 hl7 => ?_
  refine RL.q (Y.field rfl field27_0) rfl ?_
  first | refine RL.q (Y.loadOwnV rfl (by repeat (first | exact List.Mem.head _ | apply List.Mem.tail)) (by repeat (first | exact List.Mem.head _ | apply List.Mem.tail)) (by rfl) flat3) rfl ?_ | refine RL.q (Y.loadOwn rfl (by repeat (first | exact List.Mem.head _ | apply List.Mem.tail)) (by rfl) flat3) rfl ?_ | refine RL.loadOwnSl rfl rfl (by repeat (first | exact List.Mem.head _ | apply List.Mem.tail)) (by repeat (first | exact List.Mem.head _ | apply List.Mem.tail)) (by rfl) flat3 rfl fun a9 c9 hu9 hc9 hl9 => ?_
  refine RL.qs (Y.neq rfl rfl) rfl (fun g10 => ?_) (fun g10 => ?_)
  · refine RL.q (Y.move rfl) rfl ?_
    refine RL.no ⟨_, _, rfl, rfl, rfl⟩ rfl ?_
    refine RL.no ⟨_, _, rfl, rfl, rfl⟩ rfl ?_
    refine RL.no ⟨_, _, rfl, rfl, rfl⟩ rfl ?_
    refine RL.no ⟨_, _, rfl, rfl, rfl⟩ rfl ?_
    refine RL.no ⟨_, _, rfl, rfl, rfl⟩ rfl ?_
    refine RL.q (Y.pickT rfl rfl) rfl ?_
    refine RL.q (Y.move rfl) rfl ?_
    refine RL.no ⟨_, _, rfl, rfl, rfl⟩ rfl ?_
    refine RL.no ⟨_, _, rfl, rfl, rfl⟩ rfl ?_
    refine RL.no ⟨_, _, rfl, rfl, rfl⟩ rfl ?_
    refine RL.no ⟨_, _, rfl, rfl, rfl⟩ rfl ?_
    refine RL.no ⟨_, _, rfl, rfl, rfl⟩ rfl ?_
    refine RL.no ⟨_, _, rfl, rfl, rfl⟩ rfl ?_
    refine RL.no ⟨_, _, rfl, rfl, rfl⟩ rfl ?_
    refine RL.q (Y.pickT rfl rfl) rfl ?_
    refine RL.nil ?_
    refine hK3 _ _ _ ?_
    refine CW.keep (Keep.cons 2 rfl (Keep.cons 3 rfl (Keep.cons 26 rfl (Keep.nil _)))) ?_
    refine CW.yes rfl ?_
    refine CW.seq fun K4 hK4 => ?_
    refine CW.region ?_
    refine RL.q (Y.assign rfl) rfl ?_
    refine RL.nil ?_
    refine hK4 _ _ _ ?_
    refine CW.keep (Keep.cons 4 rfl (Keep.nil _)) ?_
    refine CW.ret ?_
    exact ⟨_, rfl, Turn.drop ⟨by rw [decide_eq_false (fun e => g10 (by rw [e]))], rfl, rfl⟩ (by repeat (first | exact List.Sublist.refl _ | apply List.Sublist.cons_cons | apply List.Sublist.cons))⟩
  · refine RL.q (Y.move rfl) rfl ?_
    refine RL.qg ⟨_, _, rfl, rfl, rfl⟩ (Y.field rfl field27_1) rfl ?_
    first | refine RL.qg ⟨_, _, rfl, rfl, rfl⟩ (Y.loadAggV [_, _, _] rfl (by repeat (first | exact List.Mem.head _ | apply List.Mem.tail)) (by repeat (first | exact List.Mem.head _ | apply List.Mem.tail)) (by rfl) agg24) rfl ?_ | refine RL.qg ⟨_, _, rfl, rfl, rfl⟩ (Y.loadAll rfl (by repeat (first | exact List.Mem.head _ | apply List.Mem.tail)) (by rfl) agg24) rfl ?_
    refine RL.qg ⟨_, _, rfl, rfl, rfl⟩ (Y.field rfl field27_1) rfl ?_
    first | refine RL.qg ⟨_, _, rfl, rfl, rfl⟩ (Y.loadAggV [_, _, _] rfl (by repeat (first | exact List.Mem.head _ | apply List.Mem.tail)) (by repeat (first | exact List.Mem.head _ | apply List.Mem.tail)) (by rfl) agg24) rfl ?_ | refine RL.qg ⟨_, _, rfl, rfl, rfl⟩ (Y.loadAll rfl (by repeat (first | exact List.Mem.head _ | apply List.Mem.tail)) (by rfl) agg24) rfl ?_
    refine RL.qgs ⟨_, _, rfl, rfl, rfl⟩ (id24_neq rfl rfl) rfl (fun g16 => ?_) (fun g16 => ?_)
    · refine RL.q (Y.pickF rfl rfl) rfl ?_
      refine RL.q (Y.move rfl) rfl ?_
      refine RL.no ⟨_, _, rfl, rfl, rfl⟩ rfl ?_
      refine RL.no ⟨_, _, rfl, rfl, rfl⟩ rfl ?_
      refine RL.no ⟨_, _, rfl, rfl, rfl⟩ rfl ?_
      refine RL.no ⟨_, _, rfl, rfl, rfl⟩ rfl ?_
      refine RL.no ⟨_, _, rfl, rfl, rfl⟩ rfl ?_
      refine RL.no ⟨_, _, rfl, rfl, rfl⟩ rfl ?_
      refine RL.no ⟨_, _, rfl, rfl, rfl⟩ rfl ?_
      refine RL.q (Y.pickT rfl rfl) rfl ?_
      refine RL.nil ?_
      refine hK3 _ _ _ ?_
      refine CW.keep (Keep.cons 2 rfl (Keep.cons 3 rfl (Keep.cons 26 rfl (Keep.nil _)))) ?_
      refine CW.yes rfl ?_
      refine CW.seq fun K5 hK5 => ?_
      refine CW.region ?_
      refine RL.q (Y.assign rfl) rfl ?_
      refine RL.nil ?_
      refine hK5 _ _ _ ?_
      refine CW.keep (Keep.cons 4 rfl (Keep.nil _)) ?_
      refine CW.ret ?_
      exact ⟨_, rfl, Turn.drop ⟨by rw [decide_eq_false (fun e => g16 (by rw [e]))], rfl, rfl⟩ (by repeat (first | exact List.Sublist.refl _ | apply List.Sublist.cons_cons | apply List.Sublist.cons))⟩
    · refine RL.q (Y.pickF rfl rfl) rfl ?_
      refine RL.q (Y.move rfl) rfl ?_
      refine RL.qg ⟨_, _, rfl, rfl, rfl⟩ (Y.field rfl field27_2) rfl ?_
      first | refine RL.qg ⟨_, _, rfl, rfl, rfl⟩ (Y.loadOwnV rfl (by repeat (first | exact List.Mem.head _ | apply List.Mem.tail)) (by repeat (first | exact List.Mem.head _ | apply List.Mem.tail)) (by rfl) flat25) rfl ?_ | refine RL.qg ⟨_, _, rfl, rfl, rfl⟩ (Y.loadOwn rfl (by repeat (first | exact List.Mem.head _ | apply List.Mem.tail)) (by rfl) flat25) rfl ?_ | refine RL.loadOwnSl ⟨_, _, rfl, rfl, rfl⟩ rfl (by repeat (first | exact List.Mem.head _ | apply List.Mem.tail)) (by repeat (first | exact List.Mem.head _ | apply List.Mem.tail)) (by rfl) flat25 rfl fun a20 c20 hu20 hc20 hl20 => ?_
      refine RL.qg ⟨_, _, rfl, rfl, rfl⟩ (Y.len rfl Try.underlying25) rfl ?_
      refine RL.qg ⟨_, _, rfl, rfl, rfl⟩ (Y.field rfl field27_2) rfl ?_
      first | refine RL.qg ⟨_, _, rfl, rfl, rfl⟩ (Y.loadOwnV rfl (by repeat (first | exact List.Mem.head _ | apply List.Mem.tail)) (by repeat (first | exact List.Mem.head _ | apply List.Mem.tail)) (by rfl) flat25) rfl ?_ | refine RL.qg ⟨_, _, rfl, rfl, rfl⟩ (Y.loadOwn rfl (by repeat (first | exact List.Mem.head _ | apply List.Mem.tail)) (by rfl) flat25) rfl ?_ | refine RL.loadOwnSl ⟨_, _, rfl, rfl, rfl⟩ rfl (by repeat (first | exact List.Mem.head _ | apply List.Mem.tail)) (by repeat (first | exact List.Mem.head _ | apply List.Mem.tail)) (by rfl) flat25 rfl fun a23 c23 hu23 hc23 hl23 => ?_
      refine RL.qg ⟨_, _, rfl, rfl, rfl⟩ (Y.len rfl Try.underlying25) rfl ?_
      refine RL.qg ⟨_, _, rfl, rfl, rfl⟩ (Y.neq rfl rfl) rfl ?_
      refine RL.q (Y.pickF rfl rfl) rfl ?_
      refine RL.nil ?_
      refine hK3 _ _ _ ?_
      refine CW.keep (Keep.cons 2 rfl (Keep.cons 3 rfl (Keep.cons 26 rfl (Keep.nil _)))) ?_
      refine CW.ite rfl (fun h3 => ?_) (fun h3 => ?_)
      · refine CW.seq fun K6 hK6 => ?_
        refine CW.region ?_
        refine RL.q (Y.assign rfl) rfl ?_
        refine RL.nil ?_
        refine hK6 _ _ _ ?_
        refine CW.keep (Keep.cons 4 rfl (Keep.nil _)) ?_
        refine CW.ret ?_
        exact ⟨_, rfl, Turn.drop ⟨by rw [decide_eq_false (fun e => h3 (by rw [e]))], rfl, rfl⟩ (by repeat (first | exact List.Sublist.refl _ | apply List.Sublist.cons_cons | apply List.Sublist.cons))⟩
      · refine CW.skip ?_
        refine hK2 _ _ _ ?_
        refine CW.seq fun K7 hK7 => ?_
        refine CW.seq fun K8 hK8 => ?_
        refine CW.region ?_
        refine RL.q (Y.assign rfl) rfl ?_
        refine RL.nil ?_
        refine hK8 _ _ _ ?_
        refine CW.keep (Keep.cons 2 rfl (Keep.cons 3 rfl (Keep.cons 5 rfl (Keep.nil _)))) ?_
        refine CW.block ?_
        -- LOOP 1: live [2, 3, 5] changed [5]
        refine CW.keep (Keep.cons 5 rfl (Keep.cons 2 rfl (Keep.cons 3 rfl (Keep.nil _)))) ?_
        refine CW.loopF (fun m Lc M1 Γc => ∃ k : Nat, m = a.kids.length - k ∧ k ≤ a.kids.length ∧ Lc = [(5, vint k)] ∧ Γc = [] ∧ M1 = M ∧ a.kids.take k = b.kids.take k) a.kids.length [(5, _)] [] rfl rfl ⟨0, rfl, Nat.zero_le _, rfl, rfl, rfl, rfl⟩ ?_
        rintro m Lc M1 Γc hs ⟨k, rfl, hk, rfl, rfl, rfl, hT⟩
        refine CW.seq fun K9 hK9 => ?_
        refine CW.seq fun K10 hK10 => ?_
        refine CW.region ?_
        refine RL.q (Y.move rfl) rfl ?_
        refine RL.q (Y.field rfl field27_2) rfl ?_
        first | refine RL.q (Y.loadOwnV rfl (by repeat (first | exact List.Mem.head _ | apply List.Mem.tail)) (by repeat (first | exact List.Mem.head _ | apply List.Mem.tail)) (by rfl) flat25) rfl ?_ | refine RL.q (Y.loadOwn rfl (by repeat (first | exact List.Mem.head _ | apply List.Mem.tail)) (by rfl) flat25) rfl ?_ | refine RL.loadOwnSl rfl rfl (by repeat (first | exact List.Mem.head _ | apply List.Mem.tail)) (by repeat (first | exact List.Mem.head _ | apply List.Mem.tail)) (by rfl) flat25 rfl fun a29 c29 hu29 hc29 hl29 => ?_
        refine RL.q (Y.len rfl Try.underlying25) rfl ?_
        refine RL.q (Y.lss rfl rfl) rfl ?_
        refine RL.nil ?_
        refine hK10 _ _ _ ?_
        refine CW.keep (Keep.cons 2 rfl (Keep.cons 3 rfl (Keep.cons 5 rfl (Keep.cons 31 rfl (Keep.nil _))))) ?_
        refine CW.ite rfl (fun h4 => ?_) (fun h4 => ?_)
        · have hka : k < a.kids.length := by omega
          have hkb : k < b.kids.length := by omega
          refine CW.skip ?_
          refine hK9 _ _ _ ?_
          refine CW.seq fun K11 hK11 => ?_
          refine CW.block ?_
          refine CW.seq fun K12 hK12 => ?_
          refine CW.regionQ mix (by kernel_rfl) ?_
          refine QL.q (Y.field rfl field27_2) rfl ?_
          first | refine QL.q (Y.loadOwnV rfl (by repeat (first | exact List.Mem.head _ | apply List.Mem.tail)) (by repeat (first | exact List.Mem.head _ | apply List.Mem.tail)) (by rfl) flat25) rfl ?_ | refine QL.q (Y.loadOwn rfl (by repeat (first | exact List.Mem.head _ | apply List.Mem.tail)) (by rfl) flat25) rfl ?_ | refine QL.loadOwnSl rfl rfl (by repeat (first | exact List.Mem.head _ | apply List.Mem.tail)) (by repeat (first | exact List.Mem.head _ | apply List.Mem.tail)) (by rfl) flat25 rfl fun a35 c35 hu35 hc35 hl35 => ?_
          refine QL.q (Y.move rfl) rfl ?_
          refine QL.q (Y.index k rfl rfl rfl hka slice25 (fun _ hw => hw.rd_some (by repeat (first | exact List.Mem.head _ | apply List.Mem.tail)) (by omega))) rfl ?_
          refine QL.loadAgg rfl rfl (by repeat (first | exact List.Mem.head _ | apply List.Mem.tail)) (flat_take Ty.enc_len _ k _ (List.getElem?_eq_getElem hka)) (by first | rfl | exact Ex.enc_len _ | exact Ty.enc_len _ | exact MNode.enc_len _ | exact RNode.enc_len _) agg27 rfl fun us38 hul38 hur38 => ?_
          refine QL.q (Y.field rfl field27_2) rfl ?_
          first | refine QL.q (Y.loadOwnV rfl (by repeat (first | exact List.Mem.head _ | apply List.Mem.tail)) (by repeat (first | exact List.Mem.head _ | apply List.Mem.tail)) (by rfl) flat25) rfl ?_ | refine QL.q (Y.loadOwn rfl (by repeat (first | exact List.Mem.head _ | apply List.Mem.tail)) (by rfl) flat25) rfl ?_ | refine QL.loadOwnSl rfl rfl (by repeat (first | exact List.Mem.head _ | apply List.Mem.tail)) (by repeat (first | exact List.Mem.head _ | apply List.Mem.tail)) (by rfl) flat25 rfl fun a40 c40 hu40 hc40 hl40 => ?_
          refine QL.q (Y.move rfl) rfl ?_
          refine QL.q (Y.index k rfl rfl rfl hkb slice25 (fun _ hw => hw.rd_some (by repeat (first | exact List.Mem.head _ | apply List.Mem.tail)) (by omega))) rfl ?_
          refine QL.loadAgg rfl rfl (by repeat (first | exact List.Mem.head _ | apply List.Mem.tail)) (flat_take Ty.enc_len _ k _ (List.getElem?_eq_getElem hkb)) (by first | rfl | exact Ex.enc_len _ | exact Ty.enc_len _ | exact MNode.enc_len _ | exact RNode.enc_len _) agg27 rfl fun us43 hul43 hur43 => ?_
          refine QL.callv rfl func53 rfl rfl (fun _ _ => ih _ (by rw [← ha]; exact Ty.size_kid (List.getElem_mem hka)) _ _ _ _ _ _ _ rfl hur38 hur43) ?_
          refine QL.q (Y.notD rfl) rfl ?_
          refine QL.nil ?_
          refine hK12 _ _ _ ?_
          refine CW.keep (Keep.cons 2 rfl (Keep.cons 3 rfl (Keep.cons 5 rfl (Keep.cons 45 rfl (Keep.nil _))))) ?_
          refine CW.ite rfl (fun h5 => ?_) (fun h5 => ?_)
          · refine CW.seq fun K13 hK13 => ?_
            refine CW.region ?_
            refine RL.q (Y.assign rfl) rfl ?_
            refine RL.nil ?_
            refine hK13 _ _ _ ?_
            refine CW.keep (Keep.cons 4 rfl (Keep.nil _)) ?_
            refine CW.ret ?_
            exact ⟨_, rfl, Turn.drop ⟨by rw [decide_eq_false (fun e => h5 (by simp [e]))], rfl, rfl⟩ (by repeat (first | exact List.Sublist.refl _ | apply List.Sublist.cons_cons | apply List.Sublist.cons))⟩
          · refine CW.skip ?_
            refine hK11 _ _ _ ?_
            refine CW.region ?_
            refine RL.q (Y.move rfl) rfl ?_
            refine RL.q (Y.add rfl rfl (by omega)) rfl ?_
            refine RL.q (Y.assign rfl) rfl ?_
            refine RL.nil ?_
            refine ⟨a.kids.length - (k + 1), [(5, _)], ?_, (Keep.cons 5 rfl (Keep.cons 2 rfl (Keep.cons 3 rfl (Keep.nil _)))), ?_⟩
            · omega
            · exact Turn.drop ⟨[], rfl, hs, k + 1, rfl, by omega, rfl, rfl, rfl, by rw [List.take_succ_eq_append_getElem hka, List.take_succ_eq_append_getElem hkb, hT, Decidable.not_not.1 h5]⟩ (by repeat (first | exact List.Sublist.refl _ | apply List.Sublist.cons_cons | apply List.Sublist.cons))
        · refine CW.exit ?_
          refine hK7 _ _ _ ?_
          refine CW.seq fun K14 hK14 => ?_
          refine CW.region ?_
          refine RL.q (Y.assign rfl) rfl ?_
          refine RL.nil ?_
          refine hK14 _ _ _ ?_
          refine CW.keep (Keep.cons 4 rfl (Keep.nil _)) ?_
          refine CW.ret ?_
          exact ⟨_, rfl, Turn.drop ⟨by rw [decide_eq_true (Ty.ext (Decidable.not_not.1 g10) (Decidable.not_not.1 g16) (take_all_eq hk hT (by omega) (by omega)))], rfl, rfl⟩ (by repeat (first | exact List.Sublist.refl _ | apply List.Sublist.cons_cons | apply List.Sublist.cons))⟩
end Go.Proofs.Ytjkcjbicleohkaa
