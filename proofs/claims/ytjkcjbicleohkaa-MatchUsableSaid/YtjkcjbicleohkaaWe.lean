/- THE WALKS, 5: nodes of the reference. Printed by m16e.py. -/
import Derived.Test.YtjkcjbicleohkaaWd
namespace Go.Proofs.Ytjkcjbicleohkaa
open Xe

theorem put_ok (N : Nat) : ∀ (w0 : World) (M : Mem) (Γ : List As) (l : List RNode) (e : Ex) (lev : Nat) (a0 : Option Addr) (c0 : Nat) (us vs : List Value), e.size = N → lev ≤ 26 → l.length ≤ 1000 → RdL M (l.flatMap RNode.enc) us → RdL M e.enc vs →
    CallOk Try.prog w0 M (.acc (.slice a0 l.length c0) 49 17 l.length us :: Γ) 41 #[.slice a0 l.length c0, .agg vs.toArray, vint lev] (fun v M' Γ' => ∃ a c us', v = .slice a (rput l e lev).length c ∧ M' = M ∧ Γ' = .acc v 49 17 (rput l e lev).length us' :: Γ ∧ RdL M ((rput l e lev).flatMap RNode.enc) us') := by
  induction N using Nat.strongRecOn
  rename_i N ih
  intro w0 M Γ l e lev a0 c0 us vs he hlev hl hus hvs
  have hvs0 := hvs
  rw [Ex.enc_eq] at hvs
  have hvl : vs.length = 15 := hvs.1
  have hb := rputs_le l e.kids lev hlev
  refine enter (f := 41) Try.func41 rfl Try.ntmps41 rfl rfl fun w1 hw1 => ?_
  refine CW.addRds hvs ?_
  refine CW.seq fun K1 hK1 => ?_
  refine CW.region ?_
  refine RL.box _ rfl rfl rfl fun b4 => ?_
  refine RL.q (Y.assign rfl) rfl ?_
  refine RL.nil ?_
  refine hK1 _ _ _ ?_
  refine CW.keep (Keep.cons 0 rfl (Keep.cons 2 rfl (Keep.cons 4 rfl (Keep.nil _)))) ?_
  refine CW.seq fun K2 hK2 => ?_
  refine CW.front (x := .acc _ _ _ _ _) (by repeat (first | exact Pick.here _ | apply Pick.there)) ?_
  refine CW.region ?_
  refine RL.q (Y.move rfl) rfl ?_
  refine RL.q (Y.len rfl Try.underlying44) rfl ?_
  refine RL.q (Y.assign rfl) rfl ?_
  refine RL.nil ?_
  refine hK2 _ _ _ ?_
  refine CW.keep (Keep.cons 0 rfl (Keep.cons 2 rfl (Keep.cons 4 rfl (Keep.cons 7 rfl (Keep.nil _))))) ?_
  refine CW.seq fun K3 hK3 => ?_
  refine CW.seq fun K4 hK4 => ?_
  refine CW.region ?_
  refine RL.q (Y.assign rfl) rfl ?_
  refine RL.nil ?_
  refine hK4 _ _ _ ?_
  refine CW.keep (Keep.cons 0 rfl (Keep.cons 2 rfl (Keep.cons 4 rfl (Keep.cons 7 rfl (Keep.cons 8 rfl (Keep.nil _)))))) ?_
  refine CW.block ?_
  -- LOOP 1: live [0, 2, 4, 7, 8] changed [0, 8]
  refine CW.keep (Keep.cons 0 rfl (Keep.cons 8 rfl (Keep.cons 2 rfl (Keep.cons 4 rfl (Keep.cons 7 rfl (Keep.nil _)))))) ?_
  refine CW.loopF (fun m Lc M1 Γc => ∃ (k : Nat) (l1 : List RNode) (a1 : Option Addr) (c1 : Nat) (us1 : List Value), m = e.kids.length - k ∧ k ≤ e.kids.length ∧ Lc = [(0, .slice a1 l1.length c1), (8, vint k)] ∧ Γc = [.acc (.slice a1 l1.length c1) 49 17 l1.length us1] ∧ M1 = M ∧ RdL M (l1.flatMap RNode.enc) us1 ∧ rputs l e.kids lev = rputs l1 (e.kids.drop k) lev ∧ l1.length ≤ max l.length (156 - lev)) e.kids.length [(0, _), (8, _)] [.acc _ _ _ _ _] rfl rfl ⟨0, l, a0, c0, us, rfl, Nat.zero_le _, rfl, rfl, rfl, hus, rfl, by omega⟩ ?_
  rintro m Lc M1 Γc hsub ⟨k, l1, a1, c1, us1, rfl, hk, rfl, rfl, rfl, hus1, hr, hb1⟩
  refine CW.seq fun K5 hK5 => ?_
  refine CW.seq fun K6 hK6 => ?_
  refine CW.region ?_
  refine RL.q (Y.move rfl) rfl ?_
  refine RL.q (Y.field rfl field31_5) rfl ?_
  first | refine RL.q (Y.loadOwnV rfl (by repeat (first | exact List.Mem.head _ | apply List.Mem.tail)) (by repeat (first | exact List.Mem.head _ | apply List.Mem.tail)) (by rfl) flat28) rfl ?_ | refine RL.q (Y.loadOwn rfl (by repeat (first | exact List.Mem.head _ | apply List.Mem.tail)) (by rfl) flat28) rfl ?_ | refine RL.loadOwnSl rfl rfl (by repeat (first | exact List.Mem.head _ | apply List.Mem.tail)) (by repeat (first | exact List.Mem.head _ | apply List.Mem.tail)) (by rfl) flat28 rfl fun a13 c13 hu13 hc13 hl13 => ?_
  refine RL.q (Y.len rfl Try.underlying28) rfl ?_
  refine RL.qs (Y.lss rfl rfl) rfl (fun g15 => ?_) (fun g15 => ?_)
  · refine RL.q (Y.move rfl) rfl ?_
    refine RL.qg ⟨_, _, rfl, rfl, rfl⟩ (Y.move rfl) rfl ?_
    refine RL.qg ⟨_, _, rfl, rfl, rfl⟩ (Y.len rfl Try.underlying44) rfl ?_
    refine RL.qgs ⟨_, _, rfl, rfl, rfl⟩ (Y.lss rfl rfl) rfl (fun g19 => ?_) (fun g19 => ?_)
    · refine RL.q (Y.pickT rfl rfl) rfl ?_
      refine RL.q (Y.move rfl) rfl ?_
      refine RL.qg ⟨_, _, rfl, rfl, rfl⟩ (Y.move rfl) rfl ?_
      refine RL.qg ⟨_, _, rfl, rfl, rfl⟩ (Y.lss rfl rfl) rfl ?_
      refine RL.q (Y.pickT rfl rfl) rfl ?_
      refine RL.nil ?_
      refine hK6 _ _ _ ?_
      refine CW.keep (Keep.cons 0 rfl (Keep.cons 2 rfl (Keep.cons 4 rfl (Keep.cons 7 rfl (Keep.cons 8 rfl (Keep.cons 24 rfl (Keep.nil _))))))) ?_
      refine CW.ite rfl (fun h1 => ?_) (fun h1 => ?_)
      · refine CW.skip ?_
        refine hK5 _ _ _ ?_
        refine CW.seq fun K7 hK7 => ?_
        refine CW.block ?_
        have hka : k < e.kids.length := by omega
        have hn := List.getElem?_eq_getElem hka
        have hle := rput_le l1 e.kids[k] (lev + 1) (by omega)
        have hr2 : rputs l e.kids lev = rputs (rput l1 e.kids[k] (lev + 1)) (e.kids.drop (k + 1)) lev := by rw [hr, List.drop_eq_getElem_cons hka, rputs, if_pos ⟨by omega, by omega⟩]
        have hb2 : (rput l1 e.kids[k] (lev + 1)).length ≤ max l.length (156 - lev) := by omega
        refine CW.region ?_
        refine RL.q (Y.move rfl) rfl ?_
        refine RL.q (Y.field rfl field31_5) rfl ?_
        first | refine RL.q (Y.loadOwnV rfl (by repeat (first | exact List.Mem.head _ | apply List.Mem.tail)) (by repeat (first | exact List.Mem.head _ | apply List.Mem.tail)) (by rfl) flat28) rfl ?_ | refine RL.q (Y.loadOwn rfl (by repeat (first | exact List.Mem.head _ | apply List.Mem.tail)) (by rfl) flat28) rfl ?_ | refine RL.loadOwnSl rfl rfl (by repeat (first | exact List.Mem.head _ | apply List.Mem.tail)) (by repeat (first | exact List.Mem.head _ | apply List.Mem.tail)) (by rfl) flat28 rfl fun a29 c29 hu29 hc29 hl29 => ?_
        refine RL.q (Y.move rfl) rfl ?_
        refine RL.q (Y.index k rfl rfl rfl hka slice28 (fun _ hw => hw.rd_some (by repeat (first | exact List.Mem.head _ | apply List.Mem.tail)) (by omega))) rfl ?_
        refine RL.loadAgg rfl rfl (by repeat (first | exact List.Mem.head _ | apply List.Mem.tail)) (flat_take Ex.enc_len _ k _ hn) (by first | rfl | exact Ex.enc_len _ | exact Ty.enc_len _ | exact MNode.enc_len _ | exact RNode.enc_len _) agg31 rfl fun us32 hul32 hur32 => ?_
        refine RL.q (Y.move rfl) rfl ?_
        refine RL.q (Y.add rfl rfl (by omega)) rfl ?_
        refine RL.call rfl func41 rfl rfl (CallOk.pick (x := .acc _ _ _ _ _) (by repeat (first | exact Pick.here _ | apply Pick.there)) (ih e.kids[k].size (he ▸ Ex.size_kid (List.getElem_mem hka)) w0 _ _ l1 e.kids[k] (lev + 1) a1 c1 us1 us32 rfl (by omega) (by omega) hus1 hur32)) ?_
        rintro _ _ _ ⟨a35, c35, us2, rfl, rfl, rfl, hus2⟩
        refine RL.q (Y.assign rfl) rfl ?_
        refine RL.nil ?_
        refine hK7 _ _ _ ?_
        refine CW.keep (Keep.cons 0 rfl (Keep.cons 2 rfl (Keep.cons 4 rfl (Keep.cons 7 rfl (Keep.cons 8 rfl (Keep.nil _)))))) ?_
        refine CW.region ?_
        refine RL.q (Y.move rfl) rfl ?_
        refine RL.q (Y.add rfl rfl (by omega)) rfl ?_
        refine RL.q (Y.assign rfl) rfl ?_
        refine RL.nil ?_
        refine ⟨e.kids.length - (k + 1), [(0, _), (8, _)], ?_, (Keep.cons 0 rfl (Keep.cons 8 rfl (Keep.cons 2 rfl (Keep.cons 4 rfl (Keep.cons 7 rfl (Keep.nil _)))))), ?_⟩
        · omega
        · exact Turn.drop ⟨[_], rfl, hsub, k + 1, _, _, _, _, rfl, by omega, rfl, rfl, rfl, hus2, hr2, hb2⟩ (by repeat (first | exact List.Sublist.refl _ | apply List.Sublist.cons_cons | apply List.Sublist.cons))
      · refine CW.exit ?_
        refine hK3 _ _ _ ?_
        refine CW.seq fun K8 hK8 => ?_
        refine CW.region ?_
        refine RL.q (Y.move rfl) rfl ?_
        refine RL.q (Y.loadAll rfl (by repeat (first | exact List.Mem.head _ | apply List.Mem.tail)) (by exact hvl) agg31) rfl ?_
        refine RL.q (Y.move rfl) rfl ?_
        refine RL.q (Y.move rfl) rfl ?_
        refine RL.q (Y.build (vs ++ [vint l.length, vint lev]) rfl zero49 places49 (fillNode17 hvl _ _ rfl)) rfl ?_
        refine RL.buildSlice (vs ++ [vint l.length, vint lev]) elem44 rfl (by decide) (fill1 rfl (by simp [hvl])) rfl fun b41 => ?_
        refine RL.append elem44 rfl rfl (by repeat (first | exact Pick.here _ | apply Pick.there)) (SrcOk.own (by repeat (first | exact List.Mem.head _ | apply List.Mem.tail)) (by simp [hvl]) (RdL.one (RNode.rd (x := ⟨e, l.length, lev⟩) hvs0))) (by first | omega | (unfold lim; omega)) (by first | omega | (unfold lim; omega)) rfl fun a42 c42 hc42 => ?_
        refine RL.q (Y.assign rfl) rfl ?_
        refine RL.nil ?_
        refine hK8 _ _ _ ?_
        refine CW.keep (Keep.cons 6 rfl (Keep.nil _)) ?_
        refine CW.ret ?_
        refine ⟨_, rfl, ?_⟩
        have e1 : rput l e lev = l1 ++ [⟨e, l.length, lev⟩] := by rw [rput_eq, hr, rputs_stop (by omega)]
        rw [e1, List.length_append, List.length_singleton, List.flatMap_append]
        exact Turn.drop ⟨_, _, _, rfl, rfl, rfl, by simpa using hus1.append (RNode.rd (x := ⟨e, l.length, lev⟩) hvs0)⟩ (by repeat (first | exact List.Sublist.refl _ | apply List.Sublist.cons_cons | apply List.Sublist.cons))
    · refine RL.q (Y.pickT rfl rfl) rfl ?_
      refine RL.q (Y.move rfl) rfl ?_
      refine RL.no ⟨_, _, rfl, rfl, rfl⟩ rfl ?_
      refine RL.no ⟨_, _, rfl, rfl, rfl⟩ rfl ?_
      refine RL.q (Y.pickF rfl rfl) rfl ?_
      refine RL.nil ?_
      refine hK6 _ _ _ ?_
      refine CW.keep (Keep.cons 0 rfl (Keep.cons 2 rfl (Keep.cons 4 rfl (Keep.cons 7 rfl (Keep.cons 8 rfl (Keep.cons 24 rfl (Keep.nil _))))))) ?_
      refine CW.no rfl ?_
      refine CW.exit ?_
      refine hK3 _ _ _ ?_
      refine CW.seq fun K9 hK9 => ?_
      refine CW.region ?_
      refine RL.q (Y.move rfl) rfl ?_
      refine RL.q (Y.loadAll rfl (by repeat (first | exact List.Mem.head _ | apply List.Mem.tail)) (by exact hvl) agg31) rfl ?_
      refine RL.q (Y.move rfl) rfl ?_
      refine RL.q (Y.move rfl) rfl ?_
      refine RL.q (Y.build (vs ++ [vint l.length, vint lev]) rfl zero49 places49 (fillNode17 hvl _ _ rfl)) rfl ?_
      refine RL.buildSlice (vs ++ [vint l.length, vint lev]) elem44 rfl (by decide) (fill1 rfl (by simp [hvl])) rfl fun b41 => ?_
      refine RL.append elem44 rfl rfl (by repeat (first | exact Pick.here _ | apply Pick.there)) (SrcOk.own (by repeat (first | exact List.Mem.head _ | apply List.Mem.tail)) (by simp [hvl]) (RdL.one (RNode.rd (x := ⟨e, l.length, lev⟩) hvs0))) (by first | omega | (unfold lim; omega)) (by first | omega | (unfold lim; omega)) rfl fun a42 c42 hc42 => ?_
      refine RL.q (Y.assign rfl) rfl ?_
      refine RL.nil ?_
      refine hK9 _ _ _ ?_
      refine CW.keep (Keep.cons 6 rfl (Keep.nil _)) ?_
      refine CW.ret ?_
      refine ⟨_, rfl, ?_⟩
      have e1 : rput l e lev = l1 ++ [⟨e, l.length, lev⟩] := by rw [rput_eq, hr, rputs_stop (by omega)]
      rw [e1, List.length_append, List.length_singleton, List.flatMap_append]
      exact Turn.drop ⟨_, _, _, rfl, rfl, rfl, by simpa using hus1.append (RNode.rd (x := ⟨e, l.length, lev⟩) hvs0)⟩ (by repeat (first | exact List.Sublist.refl _ | apply List.Sublist.cons_cons | apply List.Sublist.cons))
  · refine RL.q (Y.move rfl) rfl ?_
    refine RL.no ⟨_, _, rfl, rfl, rfl⟩ rfl ?_
    refine RL.no ⟨_, _, rfl, rfl, rfl⟩ rfl ?_
    refine RL.no ⟨_, _, rfl, rfl, rfl⟩ rfl ?_
    refine RL.q (Y.pickF rfl rfl) rfl ?_
    refine RL.q (Y.move rfl) rfl ?_
    refine RL.no ⟨_, _, rfl, rfl, rfl⟩ rfl ?_
    refine RL.no ⟨_, _, rfl, rfl, rfl⟩ rfl ?_
    refine RL.q (Y.pickF rfl rfl) rfl ?_
    refine RL.nil ?_
    refine hK6 _ _ _ ?_
    refine CW.keep (Keep.cons 0 rfl (Keep.cons 2 rfl (Keep.cons 4 rfl (Keep.cons 7 rfl (Keep.cons 8 rfl (Keep.cons 24 rfl (Keep.nil _))))))) ?_
    refine CW.no rfl ?_
    refine CW.exit ?_
    refine hK3 _ _ _ ?_
    refine CW.seq fun K10 hK10 => ?_
    refine CW.region ?_
    refine RL.q (Y.move rfl) rfl ?_
    refine RL.q (Y.loadAll rfl (by repeat (first | exact List.Mem.head _ | apply List.Mem.tail)) (by exact hvl) agg31) rfl ?_
    refine RL.q (Y.move rfl) rfl ?_
    refine RL.q (Y.move rfl) rfl ?_
    refine RL.q (Y.build (vs ++ [vint l.length, vint lev]) rfl zero49 places49 (fillNode17 hvl _ _ rfl)) rfl ?_
    refine RL.buildSlice (vs ++ [vint l.length, vint lev]) elem44 rfl (by decide) (fill1 rfl (by simp [hvl])) rfl fun b41 => ?_
    refine RL.append elem44 rfl rfl (by repeat (first | exact Pick.here _ | apply Pick.there)) (SrcOk.own (by repeat (first | exact List.Mem.head _ | apply List.Mem.tail)) (by simp [hvl]) (RdL.one (RNode.rd (x := ⟨e, l.length, lev⟩) hvs0))) (by first | omega | (unfold lim; omega)) (by first | omega | (unfold lim; omega)) rfl fun a42 c42 hc42 => ?_
    refine RL.q (Y.assign rfl) rfl ?_
    refine RL.nil ?_
    refine hK10 _ _ _ ?_
    refine CW.keep (Keep.cons 6 rfl (Keep.nil _)) ?_
    refine CW.ret ?_
    refine ⟨_, rfl, ?_⟩
    have e1 : rput l e lev = l1 ++ [⟨e, l.length, lev⟩] := by rw [rput_eq, hr, rputs_stop (by omega)]
    rw [e1, List.length_append, List.length_singleton, List.flatMap_append]
    exact Turn.drop ⟨_, _, _, rfl, rfl, rfl, by simpa using hus1.append (RNode.rd (x := ⟨e, l.length, lev⟩) hvs0)⟩ (by repeat (first | exact List.Sublist.refl _ | apply List.Sublist.cons_cons | apply List.Sublist.cons))

theorem nodes_ok (w0 : World) (M : Mem) (Γ : List As) (e : Ex) (vs : List Value) (hvs : RdL M e.enc vs) :
    CallOk Try.prog w0 M Γ 17 #[.agg vs.toArray] (Gives M Γ fun M' v => ∃ u, v = .tuple #[u, .bool (rnodes e).2] ∧ Rd M' (RNode.encs (rnodes e).1) u) := by
  have hvs0 := hvs
  have hvl : vs.length = 15 := hvs.1.trans (Ex.enc_len e)
  have hb := rput_le [] e 1 (by omega)
  simp only [List.length_nil] at hb
  refine enter2 (f := 17) Try.func17 rfl Try.ntmps17 rfl rfl fun w1 hw1 => ?_
  refine CW.accNil 49 17 ?_
  refine CW.seq fun K1 hK1 => ?_
  refine CW.region ?_
  refine RL.box _ rfl rfl rfl fun b1 => ?_
  refine RL.q (Y.assign rfl) rfl ?_
  refine RL.q (Y.assign rfl) rfl ?_
  refine RL.nil ?_
  refine hK1 _ _ _ ?_
  refine CW.keep (Keep.cons 1 rfl (Keep.nil _)) ?_
  refine CW.seq fun K2 hK2 => ?_
  refine CW.region ?_
  refine RL.q (Y.loadAll rfl (by repeat (first | exact List.Mem.head _ | apply List.Mem.tail)) (by exact hvl) agg31) rfl ?_
  refine RL.call rfl func41 rfl rfl (CallOk.pick (x := .acc (.slice none 0 0) 49 17 0 []) (by repeat (first | exact Pick.here _ | apply Pick.there)) (put_ok e.size w0 _ _ [] e 1 none 0 [] vs rfl (by omega) (by simp) (RdL.nil _) hvs0)) ?_
  rintro _ _ _ ⟨a8, c8, us8, rfl, rfl, rfl, hus8⟩
  refine RL.q (Y.assign rfl) rfl ?_
  refine RL.nil ?_
  refine hK2 _ _ _ ?_
  refine CW.keep (Keep.cons 4 rfl (Keep.nil _)) ?_
  generalize hl : rput [] e 1 = l at *
  refine CW.sealAcc (by repeat (first | exact Pick.here _ | apply Pick.there)) hus8 (by unfold lim; omega) ?_
  intro M2 a9 c9 hs2 h9 hc9 hr9
  cases h9
  refine CW.seq fun K3 hK3 => ?_
  refine CW.seq fun K4 hK4 => ?_
  refine CW.region ?_
  refine RL.q (Y.assign rfl) rfl ?_
  refine RL.nil ?_
  refine hK4 _ _ _ ?_
  refine CW.keep (Keep.cons 4 rfl (Keep.cons 5 rfl (Keep.nil _))) ?_
  refine CW.block ?_
  -- LOOP 1: live [4, 5] changed [5]
  refine CW.keep (Keep.cons 5 rfl (Keep.cons 4 rfl (Keep.nil _))) ?_
  refine CW.loopF (fun m Lc M1 Γc => ∃ k : Nat, m = l.length - k ∧ k ≤ l.length ∧ Lc = [(5, vint k)] ∧ Γc = [] ∧ M1 = M2 ∧ (∀ i (hi : i < l.length), i < k → l[i].level ≤ 24) ∧ ∀ i (hi : i < l.length), i < k → ∀ j (hj : j < l.length), j < i → l[j].e.id ≠ l[i].e.id) l.length [(5, _)] [] rfl rfl ⟨0, rfl, Nat.zero_le _, rfl, rfl, rfl, fun _ _ h => absurd h (Nat.not_lt_zero _), fun _ _ h => absurd h (Nat.not_lt_zero _)⟩ ?_
  rintro m Lc M1 Γc hsub ⟨k, rfl, hk, rfl, rfl, rfl, hT1, hT2⟩
  refine CW.seq fun K5 hK5 => ?_
  refine CW.seq fun K6 hK6 => ?_
  refine CW.region ?_
  refine RL.q (Y.move rfl) rfl ?_
  refine RL.q (Y.move rfl) rfl ?_
  refine RL.q (Y.len rfl Try.underlying44) rfl ?_
  refine RL.q (Y.lss rfl rfl) rfl ?_
  refine RL.nil ?_
  refine hK6 _ _ _ ?_
  refine CW.keep (Keep.cons 4 rfl (Keep.cons 5 rfl (Keep.cons 12 rfl (Keep.nil _)))) ?_
  refine CW.ite rfl (fun h1 => ?_) (fun h1 => ?_)
  · have hka : k < l.length := by omega
    have hn := List.getElem?_eq_getElem hka
    refine CW.skip ?_
    refine hK5 _ _ _ ?_
    refine CW.seq fun K7 hK7 => ?_
    refine CW.block ?_
    refine CW.seq fun K8 hK8 => ?_
    refine CW.seq fun K9 hK9 => ?_
    refine CW.region ?_
    refine RL.q (Y.move rfl) rfl ?_
    refine RL.q (Y.move rfl) rfl ?_
    refine RL.q (Y.index k rfl rfl rfl hka slice44 (fun _ hw => hw.rd_some (by repeat (first | exact List.Mem.head _ | apply List.Mem.tail)) (by omega))) rfl ?_
    refine RL.q (Y.field rfl field49_2) rfl ?_
    refine RL.q (Y.loadRd rfl (by repeat (first | exact List.Mem.head _ | apply List.Mem.tail)) (flat_get RNode.enc_len _ k _ hn 16 _ (by rw [RNode.enc_eq]; rfl)) flat3) rfl ?_
    refine RL.q (Y.gtr rfl rfl) rfl ?_
    refine RL.nil ?_
    refine hK9 _ _ _ ?_
    refine CW.keep (Keep.cons 4 rfl (Keep.cons 5 rfl (Keep.cons 20 rfl (Keep.nil _)))) ?_
    refine CW.ite rfl (fun h2 => ?_) (fun h2 => ?_)
    · refine CW.seq fun K10 hK10 => ?_
      refine CW.region ?_
      refine RL.q (Y.assign rfl) rfl ?_
      refine RL.q (Y.assign rfl) rfl ?_
      refine RL.nil ?_
      refine hK10 _ _ _ ?_
      refine CW.keep (Keep.cons 2 rfl (Keep.cons 3 rfl (Keep.nil _))) ?_
      refine CW.ret ?_
      refine ⟨_, _, rfl, rfl, ?_⟩
      rw [rnodes_lev hl hka (by omega)]
      exact Turn.drop ⟨hs2, rfl, _, rfl, Rd.nilS⟩ (by repeat (first | exact List.Sublist.refl _ | apply List.Sublist.cons_cons | apply List.Sublist.cons))
    · refine CW.skip ?_
      refine hK8 _ _ _ ?_
      refine CW.seq fun K11 hK11 => ?_
      refine CW.region ?_
      refine RL.q (Y.assign rfl) rfl ?_
      refine RL.nil ?_
      refine hK11 _ _ _ ?_
      refine CW.keep (Keep.cons 4 rfl (Keep.cons 5 rfl (Keep.cons 6 rfl (Keep.nil _)))) ?_
      refine CW.block ?_
      -- LOOP 2: live [4, 5, 6] changed [6]
      refine CW.keep (Keep.cons 6 rfl (Keep.cons 4 rfl (Keep.cons 5 rfl (Keep.nil _)))) ?_
      refine CW.loopF (fun m Lc M3 Γc => ∃ j : Nat, m = k - j ∧ j ≤ k ∧ Lc = [(6, vint j)] ∧ Γc = [] ∧ M3 = M1 ∧ ∀ i (hi : i < l.length), i < j → l[i].e.id ≠ l[k].e.id) k [(6, _)] [] rfl rfl ⟨0, rfl, Nat.zero_le _, rfl, rfl, rfl, fun _ _ h => absurd h (Nat.not_lt_zero _)⟩ ?_
      rintro m Lc M3 Γc hsub2 ⟨j, rfl, hj, rfl, rfl, rfl, hT3⟩
      refine CW.seq fun K12 hK12 => ?_
      refine CW.seq fun K13 hK13 => ?_
      refine CW.region ?_
      refine RL.q (Y.move rfl) rfl ?_
      refine RL.q (Y.move rfl) rfl ?_
      refine RL.q (Y.lss rfl rfl) rfl ?_
      refine RL.nil ?_
      refine hK13 _ _ _ ?_
      refine CW.keep (Keep.cons 4 rfl (Keep.cons 5 rfl (Keep.cons 6 rfl (Keep.cons 23 rfl (Keep.nil _))))) ?_
      refine CW.ite rfl (fun h3 => ?_) (fun h3 => ?_)
      · have hja : j < l.length := by omega
        have hnj := List.getElem?_eq_getElem hja
        refine CW.skip ?_
        refine hK12 _ _ _ ?_
        refine CW.seq fun K14 hK14 => ?_
        refine CW.block ?_
        refine CW.seq fun K15 hK15 => ?_
        refine CW.regionQ mix (by kernel_rfl) ?_
        refine QL.q (Y.move rfl) rfl ?_
        refine QL.q (Y.move rfl) rfl ?_
        refine QL.q (Y.index j rfl rfl rfl hja slice44 (fun _ hw => hw.rd_some (by repeat (first | exact List.Mem.head _ | apply List.Mem.tail)) (by omega))) rfl ?_
        refine QL.q (Y.field rfl field49_0) rfl ?_
        refine QL.q (Y.field rfl field31_0) rfl ?_
        refine QL.q (Y.loadAggRd (l[j].e.id.vals) rfl (by repeat (first | exact List.Mem.head _ | apply List.Mem.tail)) (by rw [show (l[j].e.id.vals).length = 3 from rfl, flat_sub RNode.enc_len _ j _ hnj 0 3 (by decide), RNode.enc_eq]; rfl) agg24) rfl ?_
        refine QL.q (Y.move rfl) rfl ?_
        refine QL.q (Y.move rfl) rfl ?_
        refine QL.q (Y.index k rfl rfl rfl hka slice44 (fun _ hw => hw.rd_some (by repeat (first | exact List.Mem.head _ | apply List.Mem.tail)) (by omega))) rfl ?_
        refine QL.q (Y.field rfl field49_0) rfl ?_
        refine QL.q (Y.field rfl field31_0) rfl ?_
        refine QL.q (Y.loadAggRd (l[k].e.id.vals) rfl (by repeat (first | exact List.Mem.head _ | apply List.Mem.tail)) (by rw [show (l[k].e.id.vals).length = 3 from rfl, flat_sub RNode.enc_len _ k _ hn 0 3 (by decide), RNode.enc_eq]; rfl) agg24) rfl ?_
        refine QL.q (id24_eql rfl rfl) rfl ?_
        refine QL.nil ?_
        refine hK15 _ _ _ ?_
        refine CW.keep (Keep.cons 4 rfl (Keep.cons 5 rfl (Keep.cons 6 rfl (Keep.cons 38 rfl (Keep.nil _))))) ?_
        refine CW.ite rfl (fun h4 => ?_) (fun h4 => ?_)
        · refine CW.seq fun K16 hK16 => ?_
          refine CW.region ?_
          refine RL.q (Y.assign rfl) rfl ?_
          refine RL.q (Y.assign rfl) rfl ?_
          refine RL.nil ?_
          refine hK16 _ _ _ ?_
          refine CW.keep (Keep.cons 2 rfl (Keep.cons 3 rfl (Keep.nil _))) ?_
          refine CW.ret ?_
          refine ⟨_, _, rfl, rfl, ?_⟩
          rw [rnodes_dup hl hka hja (by omega) h4]
          exact Turn.drop ⟨hs2, rfl, _, rfl, Rd.nilS⟩ (by repeat (first | exact List.Sublist.refl _ | apply List.Sublist.cons_cons | apply List.Sublist.cons))
        · refine CW.skip ?_
          refine hK14 _ _ _ ?_
          refine CW.region ?_
          refine RL.q (Y.move rfl) rfl ?_
          refine RL.q (Y.add rfl rfl (by omega)) rfl ?_
          refine RL.q (Y.assign rfl) rfl ?_
          refine RL.nil ?_
          refine ⟨k - (j + 1), [(6, _)], ?_, (Keep.cons 6 rfl (Keep.cons 4 rfl (Keep.cons 5 rfl (Keep.nil _)))), ?_⟩
          · omega
          · exact Turn.drop ⟨[], rfl, hsub2, j + 1, rfl, by omega, rfl, rfl, rfl, all_step (p := fun x => x.e.id ≠ l[k].e.id) hT3 hja (fun he => h4 (by rw [he]))⟩ (by repeat (first | exact List.Sublist.refl _ | apply List.Sublist.cons_cons | apply List.Sublist.cons))
      · refine CW.exit ?_
        refine hK7 _ _ _ ?_
        refine CW.region ?_
        refine RL.q (Y.move rfl) rfl ?_
        refine RL.q (Y.add rfl rfl (by omega)) rfl ?_
        refine RL.q (Y.assign rfl) rfl ?_
        refine RL.nil ?_
        refine ⟨l.length - (k + 1), [(5, _)], ?_, (Keep.cons 5 rfl (Keep.cons 4 rfl (Keep.nil _))), ?_⟩
        · omega
        · exact Turn.drop ⟨[], rfl, hsub, k + 1, rfl, by omega, rfl, rfl, rfl, all_step (p := fun x => x.level ≤ 24) hT1 hka (by omega), fun i hi hlt j2 hj2 hji => (by by_cases h : i < k; exact hT2 i hi h j2 hj2 hji; have e : i = k := (by omega); subst e; exact hT3 j2 hj2 (by omega))⟩ (by repeat (first | exact List.Sublist.refl _ | apply List.Sublist.cons_cons | apply List.Sublist.cons))
  · refine CW.exit ?_
    refine hK3 _ _ _ ?_
    refine CW.seq fun K17 hK17 => ?_
    refine CW.region ?_
    refine RL.q (Y.move rfl) rfl ?_
    refine RL.q (Y.move rfl) rfl ?_
    refine RL.q (Y.len rfl Try.underlying44) rfl ?_
    refine RL.q (Y.leq rfl rfl) rfl ?_
    refine RL.q (Y.assign rfl) rfl ?_
    refine RL.q (Y.assign rfl) rfl ?_
    refine RL.nil ?_
    refine hK17 _ _ _ ?_
    refine CW.keep (Keep.cons 2 rfl (Keep.cons 3 rfl (Keep.nil _))) ?_
    refine CW.ret ?_
    refine ⟨_, _, rfl, rfl, ?_⟩
    rw [rnodes_ok hl (fun i hi => hT1 i hi (by omega)) (fun i hi j hj hji => hT2 i hi (by omega) j hj hji)]
    exact Turn.drop ⟨hs2, rfl, _, by rw [decide_eq_decide.2 (show (l.length : Int) ≤ 128 ↔ l.length ≤ 128 from by omega)], hr9⟩ (by repeat (first | exact List.Sublist.refl _ | apply List.Sublist.cons_cons | apply List.Sublist.cons))
end Go.Proofs.Ytjkcjbicleohkaa
