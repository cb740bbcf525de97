/- THE WALKS, 3: types by package slices, likeness, numbers of nodes. Printed by m16c.py. -/
import Derived.Test.YtjkcjbicleohkaaWb
namespace Go.Proofs.Ytjkcjbicleohkaa
open Xe

theorem eqfunc_ok (N : Nat) (ih : ∀ (w0 : World) (M : Mem) (Γ : List As) (a b : Ty) (us vs : List Value), a.size < N → RdL M a.enc us → RdL M b.enc vs → CallOk Try.prog w0 M Γ 31 #[.agg us.toArray, .agg vs.toArray] (Is M Γ (.bool (decide (a = b)))))
    (w0 : World) (M : Mem) (Γ : List As) (xs ys : List Ty) (u v : Value) (hs : ∀ a ∈ xs, a.size < N) (hu : Rd M (.sl xs.length 5 (xs.flatMap Ty.enc)) u) (hv : Rd M (.sl ys.length 5 (ys.flatMap Ty.enc)) v) :
    CallOk Try.prog w0 M Γ 50 #[u, v, .func (.func 31) #[] #[]] (Is M Γ (.bool (decide (xs = ys)))) := by
  obtain ⟨a1, c1, rfl, hc1, hlim1, hlen1⟩ := hu.slice
  obtain ⟨a2, c2, rfl, hc2, hlim2, hlen2⟩ := hv.slice
  refine enter (f := 50) Try.func50 rfl Try.ntmps50 rfl rfl fun w1 hw1 => ?_
  refine CW.addRd hu ?_
  refine CW.addRd hv ?_
  refine CW.seq fun K1 hK1 => ?_
  refine CW.region ?_
  refine RL.q (Y.assign rfl) rfl ?_
  refine RL.nil ?_
  refine hK1 _ _ _ ?_
  refine CW.keep (Keep.cons 0 rfl (Keep.cons 1 rfl (Keep.cons 2 rfl (Keep.nil _)))) ?_
  refine CW.seq fun K2 hK2 => ?_
  refine CW.seq fun K3 hK3 => ?_
  refine CW.region ?_
  refine RL.q (Y.move rfl) rfl ?_
  refine RL.q (Y.len rfl Try.underlying25) rfl ?_
  refine RL.q (Y.move rfl) rfl ?_
  refine RL.q (Y.len rfl Try.underlying25) rfl ?_
  refine RL.q (Y.neq rfl rfl) rfl ?_
  refine RL.nil ?_
  refine hK3 _ _ _ ?_
  refine CW.keep (Keep.cons 0 rfl (Keep.cons 1 rfl (Keep.cons 2 rfl (Keep.cons 14 rfl (Keep.nil _))))) ?_
  refine CW.ite rfl (fun h1 => ?_) (fun h1 => ?_)
  · refine CW.seq fun K4 hK4 => ?_
    refine CW.region ?_
    refine RL.q (Y.assign rfl) rfl ?_
    refine RL.nil ?_
    refine hK4 _ _ _ ?_
    refine CW.keep (Keep.cons 6 rfl (Keep.nil _)) ?_
    refine CW.ret ?_
    exact ⟨_, rfl, Turn.drop ⟨by rw [decide_eq_false (fun e => h1 (by rw [e]))], rfl, rfl⟩ (by repeat (first | exact List.Sublist.refl _ | apply List.Sublist.cons_cons | apply List.Sublist.cons))⟩
  · refine CW.skip ?_
    refine hK2 _ _ _ ?_
    refine CW.seq fun K5 hK5 => ?_
    refine CW.seq fun K6 hK6 => ?_
    refine CW.region ?_
    refine RL.q (Y.move rfl) rfl ?_
    refine RL.q (Y.len rfl Try.underlying25) rfl ?_
    refine RL.q (Y.move rfl) rfl ?_
    refine RL.nil ?_
    refine hK6 _ _ _ ?_
    refine CW.keep (Keep.cons 1 rfl (Keep.cons 2 rfl (Keep.cons 15 rfl (Keep.cons 16 rfl (Keep.cons 17 rfl (Keep.nil _)))))) ?_
    refine CW.block ?_
    -- LOOP 1: live [1, 2, 15, 16, 17] changed [17]
    refine CW.keep (Keep.cons 17 rfl (Keep.cons 1 rfl (Keep.cons 2 rfl (Keep.cons 15 rfl (Keep.cons 16 rfl (Keep.nil _)))))) ?_
    refine CW.loopF (fun m Lc M1 Γc => ∃ k : Nat, m = xs.length - k ∧ k ≤ xs.length ∧ Lc = [(17, vint k)] ∧ Γc = [] ∧ M1 = M ∧ xs.take k = ys.take k) xs.length [(17, _)] [] rfl rfl ⟨0, rfl, Nat.zero_le _, rfl, rfl, rfl, rfl⟩ ?_
    rintro m Lc M1 Γc hsub ⟨k, rfl, hk, rfl, rfl, rfl, hT⟩
    refine CW.seq fun K7 hK7 => ?_
    refine CW.region ?_
    refine RL.q (Y.lss rfl rfl) rfl ?_
    refine RL.nil ?_
    refine hK7 _ _ _ ?_
    refine CW.keep (Keep.cons 1 rfl (Keep.cons 2 rfl (Keep.cons 15 rfl (Keep.cons 16 rfl (Keep.cons 17 rfl (Keep.cons 18 rfl (Keep.nil _))))))) ?_
    refine CW.seq fun K8 hK8 => ?_
    refine CW.ite rfl (fun h2 => ?_) (fun h2 => ?_)
    · have hka : k < xs.length := by omega
      have hkb : k < ys.length := by omega
      refine CW.skip ?_
      refine hK8 _ _ _ ?_
      refine CW.seq fun K9 hK9 => ?_
      refine CW.block ?_
      refine CW.seq fun K10 hK10 => ?_
      refine CW.region ?_
      refine RL.q (Y.move rfl) rfl ?_
      refine RL.q (Y.index k rfl rfl rfl hka slice25 (fun _ hw => hw.rd_some (by repeat (first | exact List.Mem.head _ | apply List.Mem.tail)) (by omega))) rfl ?_
      refine RL.loadAgg rfl rfl (by repeat (first | exact List.Mem.head _ | apply List.Mem.tail)) (flat_take Ty.enc_len _ k _ (List.getElem?_eq_getElem hka)) (by first | rfl | exact Ex.enc_len _ | exact Ty.enc_len _ | exact MNode.enc_len _ | exact RNode.enc_len _) agg27 rfl fun us21 hul21 hur21 => ?_
      refine RL.alloc _ zero27 rfl rfl fun b8 => ?_
      refine RL.q (Y.assign rfl) rfl ?_
      refine RL.storeAgg us21 rfl rfl (by repeat (first | exact Repl.here _ | apply Repl.there)) (by simp [hul21]) (by simp [hul21]) (fun _ _ => hur21.one) (by rw [hul21]; exact size27) ?_
      refine RL.nil ?_
      refine hK10 _ _ _ ?_
      refine CW.keep (Keep.cons 1 rfl (Keep.cons 2 rfl (Keep.cons 7 rfl (Keep.cons 8 rfl (Keep.cons 15 rfl (Keep.cons 16 rfl (Keep.cons 17 rfl (Keep.nil _)))))))) ?_
      refine CW.seq fun K11 hK11 => ?_
      refine CW.region ?_
      refine RL.q (Y.move rfl) rfl ?_
      refine RL.q (Y.move rfl) rfl ?_
      refine RL.q (Y.index k rfl rfl rfl hkb slice25 (fun _ hw => hw.rd_some (by repeat (first | exact List.Mem.head _ | apply List.Mem.tail)) (by omega))) rfl ?_
      refine RL.loadAgg rfl rfl (by repeat (first | exact List.Mem.head _ | apply List.Mem.tail)) (flat_take Ty.enc_len _ k _ (List.getElem?_eq_getElem hkb)) (by first | rfl | exact Ex.enc_len _ | exact Ty.enc_len _ | exact MNode.enc_len _ | exact RNode.enc_len _) agg27 rfl fun us25 hul25 hur25 => ?_
      refine RL.alloc _ zero27 rfl rfl fun b9 => ?_
      refine RL.storeAgg us25 rfl rfl (by repeat (first | exact Repl.here _ | apply Repl.there)) (by simp [hul25]) (by simp [hul25]) (fun _ _ => hur25.one) (by rw [hul25]; exact size27) ?_
      refine RL.nil ?_
      refine hK11 _ _ _ ?_
      refine CW.keep (Keep.cons 1 rfl (Keep.cons 2 rfl (Keep.cons 8 rfl (Keep.cons 9 rfl (Keep.cons 15 rfl (Keep.cons 16 rfl (Keep.cons 17 rfl (Keep.nil _)))))))) ?_
      refine CW.seq fun K12 hK12 => ?_
      refine CW.region ?_
      refine RL.q (Y.move rfl) rfl ?_
      refine RL.q (Y.loadAll rfl (by repeat (first | exact List.Mem.head _ | apply List.Mem.tail)) hul21 agg27) rfl ?_
      refine RL.q (Y.loadAll rfl (by repeat (first | exact List.Mem.head _ | apply List.Mem.tail)) hul25 agg27) rfl ?_
      refine RL.callfv rfl func31 rfl rfl rfl (by simpa using ih _ _ _ _ _ _ _ (hs _ (List.getElem_mem hka)) hur21 hur25) ?_
      refine RL.q (Y.notD rfl) rfl ?_
      refine RL.nil ?_
      refine hK12 _ _ _ ?_
      refine CW.keep (Keep.cons 1 rfl (Keep.cons 2 rfl (Keep.cons 15 rfl (Keep.cons 16 rfl (Keep.cons 17 rfl (Keep.cons 30 rfl (Keep.nil _))))))) ?_
      refine CW.ite rfl (fun h3 => ?_) (fun h3 => ?_)
      · refine CW.seq fun K13 hK13 => ?_
        refine CW.region ?_
        refine RL.q (Y.assign rfl) rfl ?_
        refine RL.nil ?_
        refine hK13 _ _ _ ?_
        refine CW.keep (Keep.cons 6 rfl (Keep.nil _)) ?_
        refine CW.ret ?_
        exact ⟨_, rfl, Turn.drop ⟨by rw [decide_eq_false (fun e => h3 (by simp [e]))], rfl, rfl⟩ (by repeat (first | exact List.Sublist.refl _ | apply List.Sublist.cons_cons | apply List.Sublist.cons))⟩
      · refine CW.skip ?_
        refine hK9 _ _ _ ?_
        refine CW.region ?_
        refine RL.q (Y.add rfl rfl (by omega)) rfl ?_
        refine RL.q (Y.move rfl) rfl ?_
        refine RL.nil ?_
        refine ⟨xs.length - (k + 1), [(17, _)], ?_, (Keep.cons 17 rfl (Keep.cons 1 rfl (Keep.cons 2 rfl (Keep.cons 15 rfl (Keep.cons 16 rfl (Keep.nil _)))))), ?_⟩
        · omega
        · exact Turn.drop ⟨[], rfl, hsub, k + 1, rfl, by omega, rfl, rfl, rfl, by rw [List.take_succ_eq_append_getElem hka, List.take_succ_eq_append_getElem hkb, hT, Decidable.not_not.1 h3]⟩ (by repeat (first | exact List.Sublist.refl _ | apply List.Sublist.cons_cons | apply List.Sublist.cons))
    · refine CW.exit ?_
      refine hK5 _ _ _ ?_
      refine CW.seq fun K14 hK14 => ?_
      refine CW.region ?_
      refine RL.q (Y.assign rfl) rfl ?_
      refine RL.nil ?_
      refine hK14 _ _ _ ?_
      refine CW.keep (Keep.cons 6 rfl (Keep.nil _)) ?_
      refine CW.ret ?_
      exact ⟨_, rfl, Turn.drop ⟨by rw [decide_eq_true (take_all_eq hk hT (by omega) (by omega))], rfl, rfl⟩ (by repeat (first | exact List.Sublist.refl _ | apply List.Sublist.cons_cons | apply List.Sublist.cons))⟩

theorem same_ok (N : Nat) : ∀ (w0 : World) (M : Mem) (Γ : List As) (a b : Ty) (us vs : List Value), a.size = N → RdL M a.enc us → RdL M b.enc vs →
    CallOk Try.prog w0 M Γ 31 #[.agg us.toArray, .agg vs.toArray] (Is M Γ (.bool (decide (a = b)))) := by
  induction N using Nat.strongRecOn
  rename_i N ih
  intro w0 M Γ a b us vs ha hus hvs
  rw [Ty.enc_eq] at hus hvs
  refine enter (f := 31) Try.func31 rfl Try.ntmps31 rfl rfl fun w1 hw1 => ?_
  refine CW.addRds hus ?_
  refine CW.addRds hvs ?_
  refine CW.seq fun K1 hK1 => ?_
  refine CW.region ?_
  refine RL.box _ rfl rfl rfl fun b2 => ?_
  refine RL.box _ rfl rfl rfl fun b3 => ?_
  refine RL.q (Y.assign rfl) rfl ?_
  refine RL.nil ?_
  refine hK1 _ _ _ ?_
  refine CW.keep (Keep.cons 2 rfl (Keep.cons 3 rfl (Keep.nil _))) ?_
  refine CW.seq fun K2 hK2 => ?_
  refine CW.region ?_
  refine RL.q (Y.field rfl field27_0) rfl ?_
  first | refine RL.q (Y.loadOwnV rfl (by repeat (first | exact List.Mem.head _ | apply List.Mem.tail)) (by repeat (first | exact List.Mem.head _ | apply List.Mem.tail)) (by rfl) flat3) rfl ?_ | refine RL.q (Y.loadOwn rfl (by repeat (first | exact List.Mem.head _ | apply List.Mem.tail)) (by rfl) flat3) rfl ?_ | refine RL.loadOwnSl rfl rfl (by repeat (first | exact List.Mem.head _ | apply List.Mem.tail)) (by repeat (first | exact List.Mem.head _ | apply List.Mem.tail)) (by rfl) flat3 rfl fun a6 c6 hu6 hc6 hl6 => ?_
  refine RL.q (Y.field rfl field27_0) rfl ?_
  first | refine RL.q (Y.loadOwnV rfl (by repeat (first | exact List.Mem.head _ | apply List.Mem.tail)) (by repeat (first | exact List.Mem.head _ | apply List.Mem.tail)) (by rfl) flat3) rfl ?_ | refine RL.q (Y.loadOwn rfl (by repeat (first | exact List.Mem.head _ | apply List.Mem.tail)) (by rfl) flat3) rfl ?_ | refine RL.loadOwnSl rfl rfl (by repeat (first | exact List.Mem.head _ | apply List.Mem.tail)) (by repeat (first | exact List.Mem.head _ | apply List.Mem.tail)) (by rfl) flat3 rfl fun a8 c8 hu8 hc8 hl8 => ?_
  refine RL.qs (Y.eql rfl rfl) rfl (fun g9 => ?_) (fun g9 => ?_)
  · refine RL.q (Y.move rfl) rfl ?_
    refine RL.qg ⟨_, _, rfl, rfl, rfl⟩ (Y.field rfl field27_1) rfl ?_
    first | refine RL.qg ⟨_, _, rfl, rfl, rfl⟩ (Y.loadAggV [_, _, _] rfl (by repeat (first | exact List.Mem.head _ | apply List.Mem.tail)) (by repeat (first | exact List.Mem.head _ | apply List.Mem.tail)) (by rfl) agg24) rfl ?_ | refine RL.qg ⟨_, _, rfl, rfl, rfl⟩ (Y.loadAll rfl (by repeat (first | exact List.Mem.head _ | apply List.Mem.tail)) (by rfl) agg24) rfl ?_
    refine RL.qg ⟨_, _, rfl, rfl, rfl⟩ (Y.field rfl field27_1) rfl ?_
    first | refine RL.qg ⟨_, _, rfl, rfl, rfl⟩ (Y.loadAggV [_, _, _] rfl (by repeat (first | exact List.Mem.head _ | apply List.Mem.tail)) (by repeat (first | exact List.Mem.head _ | apply List.Mem.tail)) (by rfl) agg24) rfl ?_ | refine RL.qg ⟨_, _, rfl, rfl, rfl⟩ (Y.loadAll rfl (by repeat (first | exact List.Mem.head _ | apply List.Mem.tail)) (by rfl) agg24) rfl ?_
    refine RL.qgs ⟨_, _, rfl, rfl, rfl⟩ (id24_eql rfl rfl) rfl (fun g15 => ?_) (fun g15 => ?_)
    · refine RL.q (Y.pickT rfl rfl) rfl ?_
      refine RL.q (Y.move rfl) rfl ?_
      refine RL.qg ⟨_, _, rfl, rfl, rfl⟩ (Y.field rfl field27_2) rfl ?_
      refine RL.loadOwnSl ⟨_, _, rfl, rfl, rfl⟩ rfl (by repeat (first | exact List.Mem.head _ | apply List.Mem.tail)) (by repeat (first | exact List.Mem.head _ | apply List.Mem.tail)) (by rfl) flat25 rfl fun a19 c19 hu19 hc19 hl19 => ?_
      refine RL.qg ⟨_, _, rfl, rfl, rfl⟩ (Y.field rfl field27_2) rfl ?_
      refine RL.loadOwnSl ⟨_, _, rfl, rfl, rfl⟩ rfl (by repeat (first | exact List.Mem.head _ | apply List.Mem.tail)) (by repeat (first | exact List.Mem.head _ | apply List.Mem.tail)) (by rfl) flat25 rfl fun a21 c21 hu21 hc21 hl21 => ?_
      refine RL.know (fun w hw => And.intro (hw.rd (d := .sl a.kids.length 5 (a.kids.flatMap Ty.enc)) (u := .slice a19 a.kids.length c19) (by repeat (first | exact List.Mem.head _ | apply List.Mem.tail))) (hw.rd (d := .sl b.kids.length 5 (b.kids.flatMap Ty.enc)) (u := .slice a21 b.kids.length c21) (by repeat (first | exact List.Mem.head _ | apply List.Mem.tail)))) fun hk => ?_
      refine RL.callv ⟨_, _, rfl, rfl, rfl⟩ func50 rfl rfl (eqfunc_ok N (fun w0 M Γ x y us vs hx => ih _ hx w0 M Γ x y us vs rfl) _ _ _ a.kids b.kids _ _ (fun x hx => ha ▸ Ty.size_kid hx) hk.1 hk.2) ?_
      refine RL.q (Y.pickT rfl rfl) rfl ?_
      refine RL.q (Y.assign rfl) rfl ?_
      refine RL.nil ?_
      refine hK2 _ _ _ ?_
      refine CW.keep (Keep.cons 4 rfl (Keep.nil _)) ?_
      refine CW.ret ?_
      exact ⟨_, rfl, Turn.drop ⟨by rw [decide_eq_decide.2 ⟨fun e => Ty.ext g9 g15 e, fun e => by rw [e]⟩], rfl, rfl⟩ (by repeat (first | exact List.Sublist.refl _ | apply List.Sublist.cons_cons | apply List.Sublist.cons))⟩
    · refine RL.q (Y.pickT rfl rfl) rfl ?_
      refine RL.q (Y.move rfl) rfl ?_
      refine RL.no ⟨_, _, rfl, rfl, rfl⟩ rfl ?_
      refine RL.no ⟨_, _, rfl, rfl, rfl⟩ rfl ?_
      refine RL.no ⟨_, _, rfl, rfl, rfl⟩ rfl ?_
      refine RL.no ⟨_, _, rfl, rfl, rfl⟩ rfl ?_
      refine RL.no ⟨_, _, rfl, rfl, rfl⟩ rfl ?_
      refine RL.q (Y.pickF rfl rfl) rfl ?_
      refine RL.q (Y.assign rfl) rfl ?_
      refine RL.nil ?_
      refine hK2 _ _ _ ?_
      refine CW.keep (Keep.cons 4 rfl (Keep.nil _)) ?_
      refine CW.ret ?_
      exact ⟨_, rfl, Turn.drop ⟨by rw [decide_eq_false (fun e => g15 (by rw [e]))], rfl, rfl⟩ (by repeat (first | exact List.Sublist.refl _ | apply List.Sublist.cons_cons | apply List.Sublist.cons))⟩
  · refine RL.q (Y.move rfl) rfl ?_
    refine RL.no ⟨_, _, rfl, rfl, rfl⟩ rfl ?_
    refine RL.no ⟨_, _, rfl, rfl, rfl⟩ rfl ?_
    refine RL.no ⟨_, _, rfl, rfl, rfl⟩ rfl ?_
    refine RL.no ⟨_, _, rfl, rfl, rfl⟩ rfl ?_
    refine RL.no ⟨_, _, rfl, rfl, rfl⟩ rfl ?_
    refine RL.q (Y.pickF rfl rfl) rfl ?_
    refine RL.q (Y.move rfl) rfl ?_
    refine RL.no ⟨_, _, rfl, rfl, rfl⟩ rfl ?_
    refine RL.no ⟨_, _, rfl, rfl, rfl⟩ rfl ?_
    refine RL.no ⟨_, _, rfl, rfl, rfl⟩ rfl ?_
    refine RL.no ⟨_, _, rfl, rfl, rfl⟩ rfl ?_
    refine RL.no ⟨_, _, rfl, rfl, rfl⟩ rfl ?_
    refine RL.q (Y.pickF rfl rfl) rfl ?_
    refine RL.q (Y.assign rfl) rfl ?_
    refine RL.nil ?_
    refine hK2 _ _ _ ?_
    refine CW.keep (Keep.cons 4 rfl (Keep.nil _)) ?_
    refine CW.ret ?_
    exact ⟨_, rfl, Turn.drop ⟨by rw [decide_eq_false (fun e => g9 (by rw [e]))], rfl, rfl⟩ (by repeat (first | exact List.Sublist.refl _ | apply List.Sublist.cons_cons | apply List.Sublist.cons))⟩
end Go.Proofs.Ytjkcjbicleohkaa
