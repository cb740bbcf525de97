/- THE WALKS, 12: nodes of the program, their places. Printed by m16l.py. -/
import Derived.Test.YtjkcjbicleohkaaWk
import Derived.Test.YtjkcjbicleohkaaNodes
namespace Go.Proofs.Ytjkcjbicleohkaa
open Xe

theorem map95 : mapB Try.prog 95 24 4 = true := by kernel_rfl
theorem map98 : mapB Try.prog 98 24 3 = true := by kernel_rfl
theorem key24 : KeyOk Try.prog 24 idv := by
  refine ⟨⟨_, Try.underlying24⟩, fun k b w => ?_, fun k k' w => ?_⟩
  · obtain ⟨x, y, z⟩ := k
    have hint : ∀ (d : Nat) (n : Int) w, (Instr.checkKey b (d+1) 3 (.int .i64 n)).run Try.prog w = .ok () w := by
      intro d n w; simp [Instr.checkKey, run_underlying Try.underlying3]
    show (Instr.checkKey b (9998 + 1 + 1) 24 (.agg #[.int .i64 x, .int .i64 y, .int .i64 z])).run Try.prog w = .ok () w
    unfold Instr.checkKey
    simp only [Sem.run_bind, run_underlying Try.underlying24, Result.andThen_ok]
    simp [go_sem, hint]
  · obtain ⟨a, b, c⟩ := k
    obtain ⟨a', b', c'⟩ := k'
    show (Op.equalIn 10000 24 (.agg #[.int .i64 a, .int .i64 b, .int .i64 c]) (.agg #[.int .i64 a', .int .i64 b', .int .i64 c'])).run Try.prog w = _
    simp [go_sem]
    by_cases h1 : a = a' <;> by_cases h2 : b = b' <;> by_cases h3 : c = c' <;> simp [h1, h2, h3]

theorem visit_ok (N : Nat) : ∀ (w0 : World) (M : Mem) (Γ : List As) (e : Ex) (lev : Nat) (vs : List Value) (ids : List IdT) (l : List MNode) (bm bM bO bV : Nat) (a0 : Option Addr) (c0 : Nat) (us : List Value), e.size = N → lev ≤ 1000 → l.length ≤ ids.length → ids.length ≤ 128 →
    RdL M e.enc vs → RdL M (l.flatMap MNode.enc) us → CallOk Try.prog w0 M (.own bM 95 [.map (some bm)] :: .own bO 74 [.slice a0 l.length c0] :: .own bV 96 [.func (.func 51) #[] #[.pointer (some (adr (some ⟨bM, 0, none⟩) 0)), .pointer (some (adr (some ⟨bO, 0, none⟩) 0)), .pointer (some (adr (some ⟨bV, 0, none⟩) 0))]] :: .mp bm (kvs idv (met ids)) :: .acc (.slice a0 l.length c0) 80 16 l.length us :: Γ) 51 #[.agg vs.toArray, vint lev, .pointer (some (adr (some ⟨bM, 0, none⟩) 0)), .pointer (some (adr (some ⟨bO, 0, none⟩) 0)), .pointer (some (adr (some ⟨bV, 0, none⟩) 0))]
      (fun v M' Γ' => ∃ ids' l' a' c' us' ok, v = .bool ok ∧ M' = M ∧ Γ' = (.own bM 95 [.map (some bm)] :: .own bO 74 [.slice a' l'.length c'] :: .own bV 96 [.func (.func 51) #[] #[.pointer (some (adr (some ⟨bM, 0, none⟩) 0)), .pointer (some (adr (some ⟨bO, 0, none⟩) 0)), .pointer (some (adr (some ⟨bV, 0, none⟩) 0))]] :: .mp bm (kvs idv (met ids')) :: .acc (.slice a' l'.length c') 80 16 l'.length us' :: Γ) ∧ RdL M (l'.flatMap MNode.enc) us' ∧ l'.length + ids.length ≤ ids'.length + l.length ∧ ids'.length ≤ 128 ∧ mvisit ids l e lev = if ok then some (ids', l') else none) := by
  induction N using Nat.strongRecOn
  rename_i N ih
  intro w0 M Γ e lev vs ids l bm bM bO bV a0 c0 us he hlev hli hi1 hvs hus
  have hvs0 := hvs
  rw [Ex.enc_eq] at hvs
  have hvl : vs.length = 15 := hvs.1
  have hme := mvisit_eq ids l e lev
  refine enter (f := 51) Try.func51 rfl Try.ntmps51 rfl rfl fun w1 hw1 => ?_
  refine CW.addRds hvs ?_
  refine CW.seq fun K1 hK1 => ?_
  refine CW.region ?_
  refine RL.box _ rfl rfl rfl fun b5 => ?_
  refine RL.q (Y.assign rfl) rfl ?_
  refine RL.nil ?_
  refine hK1 _ _ _ ?_
  refine CW.keep (Keep.cons 1 rfl (Keep.cons 2 rfl (Keep.cons 3 rfl (Keep.cons 4 rfl (Keep.cons 5 rfl (Keep.nil _)))))) ?_
  refine CW.seq fun K2 hK2 => ?_
  refine CW.seq fun K3 hK3 => ?_
  refine CW.region ?_
  refine RL.q (Y.move rfl) rfl ?_
  refine RL.qs (Y.gtr rfl rfl) rfl (fun g12 => ?_) (fun g12 => ?_)
  · refine RL.q (Y.move rfl) rfl ?_
    refine RL.no ⟨_, _, rfl, rfl, rfl⟩ rfl ?_
    refine RL.no ⟨_, _, rfl, rfl, rfl⟩ rfl ?_
    refine RL.no ⟨_, _, rfl, rfl, rfl⟩ rfl ?_
    refine RL.no ⟨_, _, rfl, rfl, rfl⟩ rfl ?_
    refine RL.q (Y.pickT rfl rfl) rfl ?_
    refine RL.q (Y.move rfl) rfl ?_
    refine RL.no ⟨_, _, rfl, rfl, rfl⟩ rfl ?_
    refine RL.no ⟨_, _, rfl, rfl, rfl⟩ rfl ?_
    refine RL.no ⟨_, _, rfl, rfl, rfl⟩ rfl ?_
    refine RL.q (Y.pickT rfl rfl) rfl ?_
    refine RL.nil ?_
    refine hK3 _ _ _ ?_
    refine CW.keep (Keep.cons 1 rfl (Keep.cons 2 rfl (Keep.cons 3 rfl (Keep.cons 4 rfl (Keep.cons 5 rfl (Keep.cons 23 rfl (Keep.nil _))))))) ?_
    refine CW.yes rfl ?_
    refine CW.seq fun K4 hK4 => ?_
    refine CW.region ?_
    refine RL.q (Y.assign rfl) rfl ?_
    refine RL.nil ?_
    refine hK4 _ _ _ ?_
    refine CW.keep (Keep.cons 7 rfl (Keep.nil _)) ?_
    refine CW.ret ?_
    refine ⟨_, rfl, Turn.drop ⟨ids, l, a0, c0, us, false, rfl, rfl, rfl, hus, by omega, hi1, by rw [hme, if_pos (.inl (by omega))]; rfl⟩ (by repeat (first | exact List.Sublist.refl _ | apply List.Sublist.cons_cons | apply List.Sublist.cons))⟩
  · refine RL.q (Y.move rfl) rfl ?_
    first | refine RL.qg ⟨_, _, rfl, rfl, rfl⟩ (Y.loadOwnV rfl (by repeat (first | exact List.Mem.head _ | apply List.Mem.tail)) (by repeat (first | exact List.Mem.head _ | apply List.Mem.tail)) (by rfl) flat95) rfl ?_ | refine RL.qg ⟨_, _, rfl, rfl, rfl⟩ (Y.loadOwn rfl (by repeat (first | exact List.Mem.head _ | apply List.Mem.tail)) (by rfl) flat95) rfl ?_ | refine RL.loadOwnSl ⟨_, _, rfl, rfl, rfl⟩ rfl (by repeat (first | exact List.Mem.head _ | apply List.Mem.tail)) (by repeat (first | exact List.Mem.head _ | apply List.Mem.tail)) (by rfl) flat95 rfl fun a14 c14 hu14 hc14 hl14 => ?_
    refine RL.qg ⟨_, _, rfl, rfl, rfl⟩ (Y.field rfl field31_0) rfl ?_
    refine RL.qg ⟨_, _, rfl, rfl, rfl⟩ (Y.loadAggV e.id.vals rfl (by repeat (first | exact List.Mem.head _ | apply List.Mem.tail)) (by repeat (first | exact List.Mem.head _ | apply List.Mem.tail)) (by rfl) agg24) rfl ?_
    refine RL.qgs ⟨_, _, rfl, rfl, rfl⟩ (Y.lookMet (k := e.id) (ids := ids) rfl rfl key24 map95 zero4 (by repeat (first | exact List.Mem.head _ | apply List.Mem.tail))) rfl (fun g17 => ?_) (fun g17 => ?_)
    · refine RL.q (Y.pickF rfl rfl) rfl ?_
      refine RL.q (Y.move rfl) rfl ?_
      refine RL.no ⟨_, _, rfl, rfl, rfl⟩ rfl ?_
      refine RL.no ⟨_, _, rfl, rfl, rfl⟩ rfl ?_
      refine RL.no ⟨_, _, rfl, rfl, rfl⟩ rfl ?_
      refine RL.q (Y.pickT rfl rfl) rfl ?_
      refine RL.nil ?_
      refine hK3 _ _ _ ?_
      refine CW.keep (Keep.cons 1 rfl (Keep.cons 2 rfl (Keep.cons 3 rfl (Keep.cons 4 rfl (Keep.cons 5 rfl (Keep.cons 23 rfl (Keep.nil _))))))) ?_
      refine CW.yes rfl ?_
      refine CW.seq fun K5 hK5 => ?_
      refine CW.region ?_
      refine RL.q (Y.assign rfl) rfl ?_
      refine RL.nil ?_
      refine hK5 _ _ _ ?_
      refine CW.keep (Keep.cons 7 rfl (Keep.nil _)) ?_
      refine CW.ret ?_
      refine ⟨_, rfl, Turn.drop ⟨ids, l, a0, c0, us, false, rfl, rfl, rfl, hus, by omega, hi1, by rw [hme, if_pos (.inr (.inl g17))]; rfl⟩ (by repeat (first | exact List.Sublist.refl _ | apply List.Sublist.cons_cons | apply List.Sublist.cons))⟩
    · refine RL.q (Y.pickF rfl rfl) rfl ?_
      refine RL.q (Y.move rfl) rfl ?_
      first | refine RL.qg ⟨_, _, rfl, rfl, rfl⟩ (Y.loadOwnV rfl (by repeat (first | exact List.Mem.head _ | apply List.Mem.tail)) (by repeat (first | exact List.Mem.head _ | apply List.Mem.tail)) (by rfl) flat95) rfl ?_ | refine RL.qg ⟨_, _, rfl, rfl, rfl⟩ (Y.loadOwn rfl (by repeat (first | exact List.Mem.head _ | apply List.Mem.tail)) (by rfl) flat95) rfl ?_ | refine RL.loadOwnSl ⟨_, _, rfl, rfl, rfl⟩ rfl (by repeat (first | exact List.Mem.head _ | apply List.Mem.tail)) (by repeat (first | exact List.Mem.head _ | apply List.Mem.tail)) (by rfl) flat95 rfl fun a20 c20 hu20 hc20 hl20 => ?_
      refine RL.qg ⟨_, _, rfl, rfl, rfl⟩ (Y.lenMap (kv := idv) rfl map95 (by repeat (first | exact List.Mem.head _ | apply List.Mem.tail))) rfl ?_
      refine RL.qg ⟨_, _, rfl, rfl, rfl⟩ (Y.geq rfl rfl) rfl ?_
      refine RL.q (Y.pickF rfl rfl) rfl ?_
      refine RL.nil ?_
      refine hK3 _ _ _ ?_
      refine CW.keep (Keep.cons 1 rfl (Keep.cons 2 rfl (Keep.cons 3 rfl (Keep.cons 4 rfl (Keep.cons 5 rfl (Keep.cons 23 rfl (Keep.nil _))))))) ?_
      refine CW.ite rfl (fun h3 => ?_) (fun h3 => ?_)
      · refine CW.seq fun K6 hK6 => ?_
        refine CW.region ?_
        refine RL.q (Y.assign rfl) rfl ?_
        refine RL.nil ?_
        refine hK6 _ _ _ ?_
        refine CW.keep (Keep.cons 7 rfl (Keep.nil _)) ?_
        refine CW.ret ?_
        refine ⟨_, rfl, Turn.drop ⟨ids, l, a0, c0, us, false, rfl, rfl, rfl, hus, by omega, hi1, by rw [hme, if_pos (.inr (.inr (by rw [met_len] at h3; omega)))]; rfl⟩ (by repeat (first | exact List.Sublist.refl _ | apply List.Sublist.cons_cons | apply List.Sublist.cons))⟩
      · refine CW.skip ?_
        refine hK2 _ _ _ ?_
        refine CW.seq fun K7 hK7 => ?_
        have hnew : findK e.id (met ids) = none := by rw [findK_met, if_neg g17]
        have hlen : ids.length < 128 := by rw [met_len] at h3; omega
        refine CW.region ?_
        first | refine RL.q (Y.loadOwnV rfl (by repeat (first | exact List.Mem.head _ | apply List.Mem.tail)) (by repeat (first | exact List.Mem.head _ | apply List.Mem.tail)) (by rfl) flat95) rfl ?_ | refine RL.q (Y.loadOwn rfl (by repeat (first | exact List.Mem.head _ | apply List.Mem.tail)) (by rfl) flat95) rfl ?_ | refine RL.loadOwnSl rfl rfl (by repeat (first | exact List.Mem.head _ | apply List.Mem.tail)) (by repeat (first | exact List.Mem.head _ | apply List.Mem.tail)) (by rfl) flat95 rfl fun a24 c24 hu24 hc24 hl24 => ?_
        refine RL.q (Y.field rfl field31_0) rfl ?_
        refine RL.q (Y.loadAggV e.id.vals rfl (by repeat (first | exact List.Mem.head _ | apply List.Mem.tail)) (by repeat (first | exact List.Mem.head _ | apply List.Mem.tail)) (by rfl) agg24) rfl ?_
        refine RL.mapNew (kv := idv) (k := e.id) rfl rfl rfl key24 map95 (by repeat (first | exact Repl.here _ | apply Repl.there)) hnew ?_
        refine RL.nil ?_
        refine hK7 _ _ _ ?_
        refine CW.keep (Keep.cons 1 rfl (Keep.cons 3 rfl (Keep.cons 4 rfl (Keep.cons 5 rfl (Keep.nil _))))) ?_
        rw [met_snoc]
        have hme2 : mvisit ids l e lev = (mvisits (ids ++ [e.id]) l e.kids (lev + 1)).map (fun p => (p.1, p.2 ++ [⟨e, l.length⟩])) := by rw [hme, if_neg (by rintro (h | h | h); exact g12 (by omega); exact g17 h; omega)]
        refine CW.seq fun K8 hK8 => ?_
        refine CW.region ?_
        first | refine RL.q (Y.loadOwnV rfl (by repeat (first | exact List.Mem.head _ | apply List.Mem.tail)) (by repeat (first | exact List.Mem.head _ | apply List.Mem.tail)) (by rfl) flat74) rfl ?_ | refine RL.q (Y.loadOwn rfl (by repeat (first | exact List.Mem.head _ | apply List.Mem.tail)) (by rfl) flat74) rfl ?_ | refine RL.loadOwnSl rfl rfl (by repeat (first | exact List.Mem.head _ | apply List.Mem.tail)) (by repeat (first | exact List.Mem.head _ | apply List.Mem.tail)) (by rfl) flat74 rfl fun a27 c27 hu27 hc27 hl27 => ?_
        refine RL.q (Y.len rfl Try.underlying74) rfl ?_
        refine RL.q (Y.assign rfl) rfl ?_
        refine RL.nil ?_
        refine hK8 _ _ _ ?_
        refine CW.keep (Keep.cons 1 rfl (Keep.cons 3 rfl (Keep.cons 4 rfl (Keep.cons 5 rfl (Keep.cons 8 rfl (Keep.nil _)))))) ?_
        refine CW.seq fun K9 hK9 => ?_
        refine CW.seq fun K10 hK10 => ?_
        refine CW.region ?_
        refine RL.q (Y.field rfl field31_5) rfl ?_
        refine RL.loadOwnSl rfl rfl (by repeat (first | exact List.Mem.head _ | apply List.Mem.tail)) (by repeat (first | exact List.Mem.head _ | apply List.Mem.tail)) (by rfl) flat28 rfl fun a30 c30 hu30 hc30 hl30 => ?_
        refine RL.q (Y.len rfl Try.underlying28) rfl ?_
        refine RL.q (Y.move rfl) rfl ?_
        refine RL.nil ?_
        refine hK10 _ _ _ ?_
        refine CW.keep (Keep.cons 1 rfl (Keep.cons 3 rfl (Keep.cons 4 rfl (Keep.cons 5 rfl (Keep.cons 8 rfl (Keep.cons 30 rfl (Keep.cons 31 rfl (Keep.cons 32 rfl (Keep.nil _))))))))) ?_
        refine CW.block ?_
        -- LOOP 1: live [1, 3, 4, 5, 8, 30, 31, 32] changed [32]
        refine CW.keep (Keep.cons 32 rfl (Keep.cons 1 rfl (Keep.cons 3 rfl (Keep.cons 4 rfl (Keep.cons 5 rfl (Keep.cons 8 rfl (Keep.cons 30 rfl (Keep.cons 31 rfl (Keep.nil _))))))))) ?_
        refine CW.front (x := .acc _ _ _ _ _) (by repeat (first | exact Pick.here _ | apply Pick.there)) ?_
        refine CW.front (x := .mp _ _) (by repeat (first | exact Pick.here _ | apply Pick.there)) ?_
        refine CW.front (x := .own bV _ _) (by repeat (first | exact Pick.here _ | apply Pick.there)) ?_
        refine CW.front (x := .own bO _ _) (by repeat (first | exact Pick.here _ | apply Pick.there)) ?_
        refine CW.front (x := .own bM _ _) (by repeat (first | exact Pick.here _ | apply Pick.there)) ?_
        refine CW.loopF (fun mm Lc M1 Γc => ∃ (k : Nat) (ids1 : List IdT) (l1 : List MNode) (a1 : Option Addr) (c1 : Nat) (us1 : List Value), mm = e.kids.length - k ∧ k ≤ e.kids.length ∧ Lc = [(32, vint k)] ∧ Γc = [.own bM 95 [.map (some bm)], .own bO 74 [.slice a1 l1.length c1], .own bV 96 [.func (.func 51) #[] #[.pointer (some (adr (some ⟨bM, 0, none⟩) 0)), .pointer (some (adr (some ⟨bO, 0, none⟩) 0)), .pointer (some (adr (some ⟨bV, 0, none⟩) 0))]], .mp bm (kvs idv (met ids1)), .acc (.slice a1 l1.length c1) 80 16 l1.length us1] ∧ M1 = M ∧ RdL M (l1.flatMap MNode.enc) us1 ∧ l1.length + ids.length + 1 ≤ ids1.length + l.length ∧ ids1.length ≤ 128 ∧ mvisits (ids ++ [e.id]) l e.kids (lev + 1) = mvisits ids1 l1 (e.kids.drop k) (lev + 1)) e.kids.length [(32, _)] [.own _ _ _, .own _ _ _, .own _ _ _, .mp _ _, .acc _ _ _ _ _] rfl rfl ⟨0, ids ++ [e.id], l, a0, c0, us, rfl, Nat.zero_le _, rfl, rfl, rfl, hus, by simp; omega, by simp; omega, rfl⟩ ?_
        rintro mm Lc M1 Γc hsub ⟨k, ids1, l1, a1, c1, us1, rfl, hk, rfl, rfl, rfl, hus1, hll, hi2, hmm⟩
        refine CW.seq fun K11 hK11 => ?_
        refine CW.region ?_
        refine RL.q (Y.lss rfl rfl) rfl ?_
        refine RL.nil ?_
        refine hK11 _ _ _ ?_
        refine CW.keep (Keep.cons 1 rfl (Keep.cons 3 rfl (Keep.cons 4 rfl (Keep.cons 5 rfl (Keep.cons 8 rfl (Keep.cons 30 rfl (Keep.cons 31 rfl (Keep.cons 32 rfl (Keep.cons 33 rfl (Keep.nil _)))))))))) ?_
        refine CW.seq fun K12 hK12 => ?_
        refine CW.ite rfl (fun h4 => ?_) (fun h4 => ?_)
        · have hka : k < e.kids.length := by omega
          refine CW.skip ?_
          refine hK12 _ _ _ ?_
          refine CW.seq fun K13 hK13 => ?_
          refine CW.block ?_
          refine CW.seq fun K14 hK14 => ?_
          refine CW.region ?_
          refine RL.q (Y.index k rfl rfl rfl hka slice28 (fun _ hw => hw.rd_some (by repeat (first | exact List.Mem.head _ | apply List.Mem.tail)) (by omega))) rfl ?_
          refine RL.loadAgg rfl rfl (by repeat (first | exact List.Mem.head _ | apply List.Mem.tail)) (flat_take Ex.enc_len _ k _ (List.getElem?_eq_getElem hka)) (by first | rfl | exact Ex.enc_len _ | exact Ty.enc_len _ | exact MNode.enc_len _ | exact RNode.enc_len _) agg31 rfl fun us35 hul35 hur35 => ?_
          refine RL.alloc _ zero31 rfl rfl fun b10 => ?_
          refine RL.storeAgg us35 rfl rfl (by repeat (first | exact Repl.here _ | apply Repl.there)) (by simp [hul35]) (by simp [hul35]) (fun _ _ => hur35.one) (by rw [hul35]; exact size31) ?_
          refine RL.nil ?_
          refine hK14 _ _ _ ?_
          refine CW.keep (Keep.cons 1 rfl (Keep.cons 3 rfl (Keep.cons 4 rfl (Keep.cons 5 rfl (Keep.cons 8 rfl (Keep.cons 10 rfl (Keep.cons 30 rfl (Keep.cons 31 rfl (Keep.cons 32 rfl (Keep.nil _)))))))))) ?_
          refine CW.seq fun K15 hK15 => ?_
          refine CW.region ?_
          first | refine RL.q (Y.loadOwnV rfl (by repeat (first | exact List.Mem.head _ | apply List.Mem.tail)) (by repeat (first | exact List.Mem.head _ | apply List.Mem.tail)) (by rfl) flat96) rfl ?_ | refine RL.q (Y.loadOwn rfl (by repeat (first | exact List.Mem.head _ | apply List.Mem.tail)) (by rfl) flat96) rfl ?_ | refine RL.loadOwnSl rfl rfl (by repeat (first | exact List.Mem.head _ | apply List.Mem.tail)) (by repeat (first | exact List.Mem.head _ | apply List.Mem.tail)) (by rfl) flat96 rfl fun a36 c36 hu36 hc36 hl36 => ?_
          refine RL.q (Y.loadAll rfl (by repeat (first | exact List.Mem.head _ | apply List.Mem.tail)) hul35 agg31) rfl ?_
          refine RL.q (Y.move rfl) rfl ?_
          refine RL.q (Y.add rfl rfl (by omega)) rfl ?_
          refine RL.callfA #[.agg us35.toArray, vint ((lev + 1 : Nat) : Int), .pointer (some (adr (some ⟨bM, 0, none⟩) 0)), .pointer (some (adr (some ⟨bO, 0, none⟩) 0)), .pointer (some (adr (some ⟨bV, 0, none⟩) 0))] rfl func51 rfl rfl rfl (by simp) (CallOk.pick (x := .acc (.slice a1 l1.length c1) 80 16 l1.length us1) (by repeat (first | exact Pick.here _ | apply Pick.there)) (CallOk.pick (x := .mp bm (kvs idv (met ids1))) (by repeat (first | exact Pick.here _ | apply Pick.there)) (CallOk.pick (x := .own bV 96 _) (by repeat (first | exact Pick.here _ | apply Pick.there)) (CallOk.pick (x := .own bO 74 _) (by repeat (first | exact Pick.here _ | apply Pick.there)) (CallOk.pick (x := .own bM 95 _) (by repeat (first | exact Pick.here _ | apply Pick.there)) (ih (e.kids[k].size) (he ▸ Ex.size_kid (List.getElem_mem hka)) _ _ _ e.kids[k] (lev + 1) us35 ids1 l1 bm bM bO bV a1 c1 us1 rfl (by omega) (by omega) hi2 hur35 hus1)))))) ?_
          rintro _ _ _ ⟨ids2, l2, a2, c2, us2, ok, rfl, rfl, rfl, hus2, hll2, hi3, hmv⟩
          refine RL.q (Y.not rfl) rfl ?_
          refine RL.nil ?_
          refine hK15 _ _ _ ?_
          refine CW.keep (Keep.cons 1 rfl (Keep.cons 3 rfl (Keep.cons 4 rfl (Keep.cons 5 rfl (Keep.cons 8 rfl (Keep.cons 30 rfl (Keep.cons 31 rfl (Keep.cons 32 rfl (Keep.cons 41 rfl (Keep.nil _)))))))))) ?_
          refine CW.cond rfl (fun h5 => ?_) (fun h5 => ?_)
          · have hok : ok = false := by simpa using h5
            subst hok
            have hmf : mvisit ids1 l1 e.kids[k] (lev + 1) = none := hmv
            refine CW.seq fun K16 hK16 => ?_
            refine CW.region ?_
            refine RL.q (Y.assign rfl) rfl ?_
            refine RL.nil ?_
            refine hK16 _ _ _ ?_
            refine CW.keep (Keep.cons 7 rfl (Keep.nil _)) ?_
            refine CW.ret ?_
            refine ⟨_, rfl, Turn.drop ⟨ids2, l2, a2, c2, us2, false, rfl, rfl, rfl, hus2, by omega, hi3, by rw [hme2, hmm, List.drop_eq_getElem_cons hka, mvisits, hmf]; rfl⟩ (by repeat (first | exact List.Sublist.refl _ | apply List.Sublist.cons_cons | apply List.Sublist.cons))⟩
          · have hok : ok = true := by simpa using h5
            subst hok
            have hmo : mvisit ids1 l1 e.kids[k] (lev + 1) = some (ids2, l2) := hmv
            refine CW.skip ?_
            refine hK13 _ _ _ ?_
            refine CW.region ?_
            refine RL.q (Y.add rfl rfl (by omega)) rfl ?_
            refine RL.q (Y.move rfl) rfl ?_
            refine RL.nil ?_
            refine ⟨e.kids.length - (k + 1), [(32, _)], ?_, (Keep.cons 32 rfl (Keep.cons 1 rfl (Keep.cons 3 rfl (Keep.cons 4 rfl (Keep.cons 5 rfl (Keep.cons 8 rfl (Keep.cons 30 rfl (Keep.cons 31 rfl (Keep.nil _))))))))), ?_⟩
            · omega
            · exact Turn.drop ⟨[_, _, _, _, _], rfl, hsub, k + 1, ids2, l2, a2, c2, us2, rfl, by omega, rfl, rfl, rfl, hus2, by omega, hi3, by rw [hmm, List.drop_eq_getElem_cons hka, mvisits, hmo]⟩ (by repeat (first | exact List.Sublist.refl _ | apply List.Sublist.cons_cons | apply List.Sublist.cons))
        · refine CW.exit ?_
          refine hK9 _ _ _ ?_
          refine CW.seq fun K17 hK17 => ?_
          refine CW.region ?_
          first | refine RL.q (Y.loadOwnV rfl (by repeat (first | exact List.Mem.head _ | apply List.Mem.tail)) (by repeat (first | exact List.Mem.head _ | apply List.Mem.tail)) (by rfl) flat74) rfl ?_ | refine RL.q (Y.loadOwn rfl (by repeat (first | exact List.Mem.head _ | apply List.Mem.tail)) (by rfl) flat74) rfl ?_ | refine RL.loadOwnSl rfl rfl (by repeat (first | exact List.Mem.head _ | apply List.Mem.tail)) (by repeat (first | exact List.Mem.head _ | apply List.Mem.tail)) (by rfl) flat74 rfl fun a43 c43 hu43 hc43 hl43 => ?_
          refine RL.q (Y.loadAll rfl (by repeat (first | exact List.Mem.head _ | apply List.Mem.tail)) hvl agg31) rfl ?_
          refine RL.q (Y.move rfl) rfl ?_
          refine RL.q (Y.build (vs ++ [vint l.length]) rfl zero80 places80 (fillNode16 hvl _ rfl)) rfl ?_
          refine RL.buildSlice (vs ++ [vint l.length]) elem74 rfl (by decide) (fill1 rfl (by simp [hvl])) rfl fun b47 => ?_
          refine RL.append elem74 rfl rfl (by repeat (first | exact Pick.here _ | apply Pick.there)) (SrcOk.own (by repeat (first | exact List.Mem.head _ | apply List.Mem.tail)) (by simp [hvl]) (RdL.one (MNode.rd (x := ⟨e, l.length⟩) hvs0))) (by first | omega | (unfold lim; omega)) (by first | omega | (unfold lim; omega)) rfl fun a48 c48 hc48 => ?_
          refine RL.store _ rfl rfl (by repeat (first | exact Repl.here _ | apply Repl.there)) (by rfl) (by simp) (by rfl) size74 ?_
          refine RL.nil ?_
          refine hK17 _ _ _ ?_
          refine CW.keep (Keep.nil _) ?_
          refine CW.seq fun K18 hK18 => ?_
          refine CW.region ?_
          refine RL.q (Y.assign rfl) rfl ?_
          refine RL.nil ?_
          refine hK18 _ _ _ ?_
          refine CW.keep (Keep.cons 7 rfl (Keep.nil _)) ?_
          refine CW.ret ?_
          refine ⟨_, rfl, ?_⟩
          have hl2 : l1.length + 1 = (l1 ++ [(⟨e, l.length⟩ : MNode)]).length := by simp
          rw [hl2]
          refine Turn.front (x := .acc _ _ _ _ _) (by repeat (first | exact Pick.here _ | apply Pick.there)) ?_
          refine Turn.front (x := .mp _ _) (by repeat (first | exact Pick.here _ | apply Pick.there)) ?_
          refine Turn.front (x := .own bV _ _) (by repeat (first | exact Pick.here _ | apply Pick.there)) ?_
          refine Turn.front (x := .own bO _ _) (by repeat (first | exact Pick.here _ | apply Pick.there)) ?_
          refine Turn.front (x := .own bM _ _) (by repeat (first | exact Pick.here _ | apply Pick.there)) ?_
          exact Turn.drop ⟨ids1, l1 ++ [⟨e, l.length⟩], _, _, _, true, rfl, rfl, rfl, by rw [List.flatMap_append]; simpa using hus1.append (MNode.rd (x := ⟨e, l.length⟩) hvs0), by simp; omega, hi2, by rw [hme2, hmm, List.drop_of_length_le (by omega), mvisits]; rfl⟩ (by repeat (first | exact List.Sublist.refl _ | apply List.Sublist.cons_cons | apply List.Sublist.cons))

theorem mnodes_ok (w0 : World) (M : Mem) (Γ : List As) (e : Ex) (vs : List Value) (hvs : RdL M e.enc vs) :
    CallOk Try.prog w0 M Γ 34 #[.agg vs.toArray] (Gives M Γ fun M' v => ∃ u ok, v = .tuple #[u, .bool ok] ∧ if ok then ∃ p, mvisit [] [] e 1 = some p ∧ Rd M' (MNode.encs p.2) u else mvisit [] [] e 1 = none) := by
  have hvl : vs.length = 15 := hvs.1.trans (Ex.enc_len e)
  refine enter2 (f := 34) Try.func34 rfl Try.ntmps34 rfl rfl fun w1 hw1 => ?_
  refine CW.addRds hvs ?_
  refine CW.accNil 80 16 ?_
  refine CW.seq fun K1 hK1 => ?_
  refine CW.region ?_
  refine RL.box _ rfl rfl rfl fun b1 => ?_
  refine RL.q (Y.assign rfl) rfl ?_
  refine RL.q (Y.assign rfl) rfl ?_
  refine RL.nil ?_
  refine hK1 _ _ _ ?_
  refine CW.keep (Keep.cons 1 rfl (Keep.nil _)) ?_
  refine CW.seq fun K2 hK2 => ?_
  refine CW.region ?_
  refine RL.alloc _ zero74 rfl rfl fun b4 => ?_
  refine RL.nil ?_
  refine hK2 _ _ _ ?_
  refine CW.keep (Keep.cons 1 rfl (Keep.cons 4 rfl (Keep.nil _))) ?_
  refine CW.seq fun K3 hK3 => ?_
  refine CW.region ?_
  refine RL.makeMap rfl fun b8 => ?_
  refine RL.alloc _ zero95 rfl rfl fun b5 => ?_
  refine RL.store _ rfl rfl (by repeat (first | exact Repl.here _ | apply Repl.there)) (by rfl) (by simp) (by rfl) size95 ?_
  refine RL.nil ?_
  refine hK3 _ _ _ ?_
  refine CW.keep (Keep.cons 1 rfl (Keep.cons 4 rfl (Keep.cons 5 rfl (Keep.nil _)))) ?_
  refine CW.seq fun K4 hK4 => ?_
  refine CW.region ?_
  refine RL.alloc _ zero96 rfl rfl fun b6 => ?_
  refine RL.nil ?_
  refine hK4 _ _ _ ?_
  refine CW.keep (Keep.cons 1 rfl (Keep.cons 4 rfl (Keep.cons 5 rfl (Keep.cons 6 rfl (Keep.nil _))))) ?_
  refine CW.seq fun K5 hK5 => ?_
  refine CW.region ?_
  refine RL.q (Y.makeFunc rfl rfl) rfl ?_
  refine RL.store _ rfl rfl (by repeat (first | exact Repl.here _ | apply Repl.there)) (by rfl) (by simp) (by rfl) size96 ?_
  refine RL.nil ?_
  refine hK5 _ _ _ ?_
  refine CW.keep (Keep.cons 1 rfl (Keep.cons 4 rfl (Keep.cons 6 rfl (Keep.nil _)))) ?_
  refine CW.seq fun K6 hK6 => ?_
  refine CW.region ?_
  first | refine RL.q (Y.loadOwnV rfl (by repeat (first | exact List.Mem.head _ | apply List.Mem.tail)) (by repeat (first | exact List.Mem.head _ | apply List.Mem.tail)) (by rfl) flat96) rfl ?_ | refine RL.q (Y.loadOwn rfl (by repeat (first | exact List.Mem.head _ | apply List.Mem.tail)) (by rfl) flat96) rfl ?_ | refine RL.loadOwnSl rfl rfl (by repeat (first | exact List.Mem.head _ | apply List.Mem.tail)) (by repeat (first | exact List.Mem.head _ | apply List.Mem.tail)) (by rfl) flat96 rfl fun a10 c10 hu10 hc10 hl10 => ?_
  refine RL.q (Y.loadAll rfl (by repeat (first | exact List.Mem.head _ | apply List.Mem.tail)) hvl agg31) rfl ?_
  refine RL.callfA #[.agg vs.toArray, vint ((1 : Nat) : Int), .pointer (some (adr (some ⟨b5, 0, none⟩) 0)), .pointer (some (adr (some ⟨b4, 0, none⟩) 0)), .pointer (some (adr (some ⟨b6, 0, none⟩) 0))] rfl func51 rfl rfl rfl (by simp) (CallOk.pick (x := .acc (.slice none ([] : List MNode).length 0) 80 16 ([] : List MNode).length []) (by repeat (first | exact Pick.here _ | apply Pick.there)) (CallOk.pick (x := .mp b8 (kvs idv (met []))) (by repeat (first | exact Pick.here _ | apply Pick.there)) (CallOk.pick (x := .own b6 96 _) (by repeat (first | exact Pick.here _ | apply Pick.there)) (CallOk.pick (x := .own b4 74 _) (by repeat (first | exact Pick.here _ | apply Pick.there)) (CallOk.pick (x := .own b5 95 _) (by repeat (first | exact Pick.here _ | apply Pick.there)) (visit_ok e.size _ _ _ e 1 vs [] [] b8 b5 b4 b6 none 0 [] rfl (by omega) (by simp) (by simp) hvs (RdL.nil _))))))) ?_
  rintro _ _ _ ⟨ids2, l2, a2, c2, us2, ok, rfl, rfl, rfl, hus2, hll2, hi3, hmv⟩
  refine RL.q (Y.assign rfl) rfl ?_
  refine RL.nil ?_
  refine hK6 _ _ _ ?_
  refine CW.keep (Keep.cons 4 rfl (Keep.cons 7 rfl (Keep.nil _))) ?_
  refine CW.seq fun K7 hK7 => ?_
  refine CW.region ?_
  first | refine RL.q (Y.loadOwnV rfl (by repeat (first | exact List.Mem.head _ | apply List.Mem.tail)) (by repeat (first | exact List.Mem.head _ | apply List.Mem.tail)) (by rfl) flat74) rfl ?_ | refine RL.q (Y.loadOwn rfl (by repeat (first | exact List.Mem.head _ | apply List.Mem.tail)) (by rfl) flat74) rfl ?_ | refine RL.loadOwnSl rfl rfl (by repeat (first | exact List.Mem.head _ | apply List.Mem.tail)) (by repeat (first | exact List.Mem.head _ | apply List.Mem.tail)) (by rfl) flat74 rfl fun a13 c13 hu13 hc13 hl13 => ?_
  refine RL.q (Y.move rfl) rfl ?_
  refine RL.q (Y.assign rfl) rfl ?_
  refine RL.q (Y.assign rfl) rfl ?_
  refine RL.nil ?_
  refine hK7 _ _ _ ?_
  refine CW.keep (Keep.cons 2 rfl (Keep.cons 3 rfl (Keep.nil _))) ?_
  refine CW.ret ?_
  refine ⟨_, _, rfl, rfl, ?_⟩
  cases ok with
  | false => exact Turn.drop ⟨Sub.refl _, rfl, _, false, rfl, hmv⟩ (by repeat (first | exact List.Sublist.refl _ | apply List.Sublist.cons_cons | apply List.Sublist.cons))
  | true => exact Turn.sealAcc (ds := l2.flatMap MNode.enc) (by repeat (first | exact Pick.here _ | apply Pick.there)) hus2 (by show l2.length ≤ lim; simp at hll2; unfold lim; omega) (by repeat (first | exact List.Sublist.refl _ | apply List.Sublist.cons_cons | apply List.Sublist.cons)) fun M' h1 h2 => ⟨h1, rfl, _, true, rfl, ⟨(ids2, l2), hmv, h2⟩⟩

theorem places_ok (w0 : World) (M : Mem) (Γ : List As) (l : List MNode) (u : Value) (hu : Rd M (MNode.encs l) u) (hd : ∀ i (hi : i < l.length) j (hj : j < l.length), j < i → l[j].e.id ≠ l[i].e.id) :
    CallOk Try.prog w0 M Γ 54 #[u] (fun v M' Γ' => ∃ b, v = .map (some b) ∧ M' = M ∧ Γ' = .mp b (kvs idv (placesL l 0)) :: Γ) := by
  obtain ⟨a1, c1, rfl, hc1, hlim1, hlen1⟩ := hu.slice
  refine enter (f := 54) Try.func54 rfl Try.ntmps54 rfl rfl fun w1 hw1 => ?_
  refine CW.addRd hu ?_
  refine CW.seq fun K1 hK1 => ?_
  refine CW.region ?_
  refine RL.q (Y.assign rfl) rfl ?_
  refine RL.nil ?_
  refine hK1 _ _ _ ?_
  refine CW.keep (Keep.cons 0 rfl (Keep.nil _)) ?_
  refine CW.seq fun K2 hK2 => ?_
  refine CW.region ?_
  refine RL.makeMap rfl fun b6 => ?_
  refine RL.q (Y.assign rfl) rfl ?_
  refine RL.nil ?_
  refine hK2 _ _ _ ?_
  refine CW.keep (Keep.cons 0 rfl (Keep.cons 3 rfl (Keep.nil _))) ?_
  refine CW.seq fun K3 hK3 => ?_
  refine CW.seq fun K4 hK4 => ?_
  refine CW.region ?_
  refine RL.q (Y.move rfl) rfl ?_
  refine RL.q (Y.len rfl Try.underlying74) rfl ?_
  refine RL.q (Y.move rfl) rfl ?_
  refine RL.nil ?_
  refine hK4 _ _ _ ?_
  refine CW.keep (Keep.cons 3 rfl (Keep.cons 7 rfl (Keep.cons 8 rfl (Keep.cons 9 rfl (Keep.nil _))))) ?_
  refine CW.block ?_
  -- LOOP 1: live [3, 7, 8, 9] changed [9]
  refine CW.keep (Keep.cons 9 rfl (Keep.cons 3 rfl (Keep.cons 7 rfl (Keep.cons 8 rfl (Keep.nil _))))) ?_
  refine CW.front (x := .mp _ _) (by repeat (first | exact Pick.here _ | apply Pick.there)) ?_
  refine CW.loopF (fun mm Lc M1 Γc => ∃ k : Nat, mm = l.length - k ∧ k ≤ l.length ∧ Lc = [(9, vint k)] ∧ Γc = [.mp b6 (kvs idv (placesL (l.take k) 0))] ∧ M1 = M) l.length [(9, _)] [.mp _ _] rfl rfl ⟨0, rfl, Nat.zero_le _, rfl, rfl, rfl⟩ ?_
  rintro mm Lc M1 Γc hsub ⟨k, rfl, hk, rfl, rfl, rfl⟩
  refine CW.seq fun K5 hK5 => ?_
  refine CW.region ?_
  refine RL.q (Y.lss rfl rfl) rfl ?_
  refine RL.nil ?_
  refine hK5 _ _ _ ?_
  refine CW.keep (Keep.cons 3 rfl (Keep.cons 7 rfl (Keep.cons 8 rfl (Keep.cons 9 rfl (Keep.cons 10 rfl (Keep.nil _)))))) ?_
  refine CW.seq fun K6 hK6 => ?_
  refine CW.ite rfl (fun h1 => ?_) (fun h1 => ?_)
  · have hka : k < l.length := by omega
    have hn := List.getElem?_eq_getElem hka
    have hnew : findK l[k].e.id (placesL (l.take k) 0) = none := findK_places _ _ _ (fun x hx => by obtain ⟨i, hi, rfl⟩ := List.mem_iff_getElem.1 hx; have h1 : i < k := (by simp at hi; omega); rw [List.getElem_take]; exact hd k hka i (by omega) h1)
    refine CW.skip ?_
    refine hK6 _ _ _ ?_
    refine CW.seq fun K7 hK7 => ?_
    refine CW.block ?_
    refine CW.seq fun K8 hK8 => ?_
    refine CW.region ?_
    refine RL.q (Y.move rfl) rfl ?_
    refine RL.q (Y.index k rfl rfl rfl hka slice74 (fun _ hw => hw.rd_some (by repeat (first | exact List.Mem.head _ | apply List.Mem.tail)) (by omega))) rfl ?_
    refine RL.loadAgg rfl rfl (by repeat (first | exact List.Mem.head _ | apply List.Mem.tail)) (flat_take MNode.enc_len _ k _ hn) (by first | rfl | exact Ex.enc_len _ | exact Ty.enc_len _ | exact MNode.enc_len _ | exact RNode.enc_len _) agg80 rfl fun us13 hul13 hur13 => ?_
    refine RL.alloc _ zero80 rfl rfl fun b5 => ?_
    refine RL.q (Y.assign rfl) rfl ?_
    refine RL.storeAgg us13 rfl rfl (by repeat (first | exact Repl.here _ | apply Repl.there)) (by simp [hul13]) (by simp [hul13]) (fun _ _ => hur13.one) (by rw [hul13]; exact size80) ?_
    refine RL.nil ?_
    refine hK8 _ _ _ ?_
    refine CW.keep (Keep.cons 3 rfl (Keep.cons 4 rfl (Keep.cons 5 rfl (Keep.cons 7 rfl (Keep.cons 8 rfl (Keep.cons 9 rfl (Keep.nil _))))))) ?_
    refine CW.region ?_
    refine RL.q (Y.move rfl) rfl ?_
    refine RL.q (Y.field rfl field80_0) rfl ?_
    refine RL.q (Y.field rfl field31_0) rfl ?_
    refine RL.q (Y.loadAggV (l[k].e.id.vals) rfl (by repeat (first | exact List.Mem.head _ | apply List.Mem.tail)) (by repeat (first | exact List.Mem.head _ | apply List.Mem.tail)) (by rw [MNode.enc_eq]; rfl) agg24) rfl ?_
    refine RL.q (Y.move rfl) rfl ?_
    refine RL.mapNew (kv := idv) (k := (l[k].e.id)) rfl rfl rfl key24 map98 (by repeat (first | exact Repl.here _ | apply Repl.there)) hnew ?_
    refine RL.nil ?_
    refine hK7 _ _ _ ?_
    refine CW.keep (Keep.cons 3 rfl (Keep.cons 7 rfl (Keep.cons 8 rfl (Keep.cons 9 rfl (Keep.nil _))))) ?_
    rw [show (placesL (l.take k) 0 ++ [(l[k].e.id, vint (k : Int))]) = placesL (l.take (k + 1)) 0 from by rw [List.take_succ_eq_append_getElem hka, placesL_snoc, List.length_take, Nat.min_eq_left (by omega), Nat.zero_add]]
    refine CW.region ?_
    refine RL.q (Y.add rfl rfl (by omega)) rfl ?_
    refine RL.q (Y.move rfl) rfl ?_
    refine RL.nil ?_
    refine ⟨l.length - (k + 1), [(9, _)], ?_, (Keep.cons 9 rfl (Keep.cons 3 rfl (Keep.cons 7 rfl (Keep.cons 8 rfl (Keep.nil _))))), ?_⟩
    · omega
    · exact Turn.drop ⟨[_], rfl, hsub, k + 1, rfl, by omega, rfl, rfl, rfl⟩ (by repeat (first | exact List.Sublist.refl _ | apply List.Sublist.cons_cons | apply List.Sublist.cons))
  · refine CW.exit ?_
    refine hK3 _ _ _ ?_
    refine CW.seq fun K9 hK9 => ?_
    refine CW.region ?_
    refine RL.q (Y.move rfl) rfl ?_
    refine RL.q (Y.assign rfl) rfl ?_
    refine RL.nil ?_
    refine hK9 _ _ _ ?_
    refine CW.keep (Keep.cons 2 rfl (Keep.nil _)) ?_
    refine CW.ret ?_
    have hk2 : k = l.length := by omega
    subst hk2
    rw [List.take_length]
    exact ⟨_, rfl, Turn.drop ⟨b6, rfl, rfl, rfl⟩ (by repeat (first | exact List.Sublist.refl _ | apply List.Sublist.cons_cons | apply List.Sublist.cons))⟩
end Go.Proofs.Ytjkcjbicleohkaa
