/- THE WALKS, 1: definitions, types. Printed by m04a.py. -/
import Derived.Test.YtfgkhhfkodlbpaaTab
import Derived.Test.YtfgkhhfkodlbpaaPureA
namespace Go.Proofs.Ytfgkhhfkodlbpaa
open Xe

theorem id28_eql {w0 : World} {L : Lm} {M : Mem} {Γ : List As} {d : Option Nat} {ty : TypeId} {pos : String} {af : Array Edge} {g : Option (Nat × Bool)} {x y : Operand} {a b c a' b' c' : Int} (hx : evL L x = some (.agg [vint a, vint b, vint c].toArray)) (hy : evL L y = some (.agg [vint a', vint b', vint c'].toArray)) :
    Yq Try.prog w0 L M Γ ⟨d, .binOp .eql 28 x y 28, ty, pos, af, g⟩ (.bool (decide ((⟨a, b, c⟩ : IdT) = ⟨a', b', c'⟩))) := fun n ac w ha _ => by
  simp only [execOp, ha.ev hx, ha.ev hy]
  simp [go_sem, run_eql_struct, run_eqGuard_agg]
  by_cases h1 : a = a' <;> by_cases h2 : b = b' <;> by_cases h3 : c = c' <;> simp [h1, h2, h3]

theorem id28_neq {w0 : World} {L : Lm} {M : Mem} {Γ : List As} {d : Option Nat} {ty : TypeId} {pos : String} {af : Array Edge} {g : Option (Nat × Bool)} {x y : Operand} {a b c a' b' c' : Int} (hx : evL L x = some (.agg [vint a, vint b, vint c].toArray)) (hy : evL L y = some (.agg [vint a', vint b', vint c'].toArray)) :
    Yq Try.prog w0 L M Γ ⟨d, .binOp .neq 28 x y 28, ty, pos, af, g⟩ (.bool (decide ((⟨a, b, c⟩ : IdT) ≠ ⟨a', b', c'⟩))) := fun n ac w ha _ => by
  simp only [execOp, ha.ev hx, ha.ev hy]
  simp [go_sem, run_neq_struct, run_eqGuard_agg]
  by_cases h1 : a = a' <;> by_cases h2 : b = b' <;> by_cases h3 : c = c' <;> simp [h1, h2, h3]

theorem def1_ok (w0 : World) (M : Mem) (Γ : List As) (d : DefT) (id : IdT) (us : List Value) (p : Addr) (hd : RdL M d.enc us) (hb : CellsK w0 M Γ p id.vals) :
    CallOk Try.prog w0 M Γ 46 #[.agg us.toArray, .pointer (some p)] (Is M Γ (.bool (decide (d.id = id)))) := by
  rw [DefT.enc_eq] at hd
  refine enter (f := 46) Try.func46 rfl Try.ntmps46 rfl rfl fun w1 hw1 => ?_
  refine CW.addRds hd ?_
  refine CW.seq fun K1 hK1 => ?_
  refine CW.region ?_
  refine RL.box _ rfl rfl rfl fun b2 => ?_
  refine RL.q (Y.assign rfl) rfl ?_
  refine RL.nil ?_
  refine hK1 _ _ _ ?_
  refine CW.kp [1, 2] rfl ?_
  refine CW.seq fun K2 hK2 => ?_
  refine CW.region ?_
  refine RL.q (Y.field rfl field46_0) rfl ?_
  refine RL.q (Y.loadAggV [_, _, _] rfl MM MM (by rfl) agg28) rfl ?_
  refine RL.q (Y.loadK (vs := id.vals) rfl (hb.mono fun _ hw => hw.sub SB) agg28) rfl ?_
  refine RL.q (id28_eql rfl rfl) rfl ?_
  refine RL.q (Y.assign rfl) rfl ?_
  refine RL.nil ?_
  refine hK2 _ _ _ ?_
  refine CW.kp [3] rfl ?_
  refine CW.ret ?_
  exact ⟨_, rfl, Turn.drop ⟨by rfl, rfl, rfl⟩ SB⟩

theorem idxDef_ok (w0 : World) (M : Mem) (Γ : List As) (xs : List DefT) (u : Value) (fn : FuncId) (cap : Array Value) (q : DefT → Bool) (hfn : funcB Try.prog fn = true) (hu : Kn w0 M Γ (Rd M (.sl xs.length 31 (xs.flatMap DefT.enc)) u))
    (hq : ∀ x ∈ xs, ∀ us Γ', (∀ w, St w0 M Γ' w → St w0 M Γ w) → RdL M x.enc us → CallOk Try.prog w0 M Γ' fn (#[] ++ #[.agg us.toArray] ++ cap) (Is M Γ' (.bool (decide (q x = true))))) :
    CallOk Try.prog w0 M Γ 45 #[u, .func (.func fn) #[] cap] (Is M Γ (vint (idxL q xs))) := by
  refine CallOk.kn hu fun hu => ?_
  obtain ⟨a1, c1, rfl, hc1, hlim1, hlen1⟩ := hu.slice
  refine enter (f := 45) Try.func45 rfl Try.ntmps45 rfl rfl fun w1 hw1 => ?_
  refine CW.addRd hu ?_
  refine CW.seq fun K1 hK1 => ?_
  refine CW.region ?_
  refine RL.q (Y.assign rfl) rfl ?_
  refine RL.nil ?_
  refine hK1 _ _ _ ?_
  refine CW.kp [0, 1] rfl ?_
  refine CW.seq fun K2 hK2 => ?_
  refine CW.seq fun K3 hK3 => ?_
  refine CW.region ?_
  refine RL.q (Y.move rfl) rfl ?_
  refine RL.q (Y.len rfl Try.underlying24) rfl ?_
  refine RL.q (Y.move rfl) rfl ?_
  refine RL.nil ?_
  refine hK3 _ _ _ ?_
  refine CW.kp [0, 1, 7, 8] rfl ?_
  refine CW.block ?_
  -- LOOP 1: live [0, 1, 7, 8] changed [8]
  refine CW.kp [8, 0, 1, 7] rfl ?_
  refine CW.loopF (fun m Lc M1 Γc => ∃ k : Nat, m = xs.length - k ∧ k ≤ xs.length ∧ Lc = [(8, vint k)] ∧ Γc = [] ∧ M1 = M ∧ ∀ j (hj : j < xs.length), j < k → q xs[j] ≠ true) (xs.length) [(8, _)] _ rfl rfl ⟨0, rfl, Nat.zero_le _, rfl, rfl, rfl, fun _ _ h => absurd h (Nat.not_lt_zero _)⟩ ?_
  rintro m Lc M Γc hs ⟨k, rfl, hk, rfl, rfl, rfl, hF0⟩
  refine CW.seq fun K4 hK4 => ?_
  refine CW.region ?_
  refine RL.q (Y.lss rfl rfl) rfl ?_
  refine RL.nil ?_
  refine hK4 _ _ _ ?_
  refine CW.kp [0, 1, 7, 8, 9] rfl ?_
  refine CW.seq fun K5 hK5 => ?_
  refine CW.ite rfl (fun h1 => ?_) (fun h1 => ?_)
  ·have hka : k < xs.length := by omega
   refine CW.skip ?_
   refine hK5 _ _ _ ?_
   refine CW.seq fun K6 hK6 => ?_
   refine CW.block ?_
   refine CW.seq fun K7 hK7 => ?_
   refine CW.region ?_
   refine RL.q (Y.move rfl) rfl ?_
   refine RL.q (Y.assign rfl) rfl ?_
   refine RL.nil ?_
   refine hK7 _ _ _ ?_
   refine CW.kp [0, 1, 5, 7, 8] rfl ?_
   refine CW.seq fun K8 hK8 => ?_
   refine CW.region ?_
   refine RL.q (Y.move rfl) rfl ?_
   refine RL.q (Y.move rfl) rfl ?_
   refine RL.q (Y.move rfl) rfl ?_
   refine RL.q (Y.index _ rfl rfl rfl AO slice24 SM) rfl ?_
   refine RL.loadAgg rfl rfl MM (Eq.trans (flat_take DefT.enc_len _ _ _ (List.getElem?_eq_getElem AO)) (DefT.enc_eq _)) (by rfl) agg46 rfl fun us15 hul15 hur15 => ?_
   refine RL.callfv rfl hfn rfl rfl rfl (hq _ (List.getElem_mem hka) _ _ (fun _ hw => hw.sub SB) (by rw [DefT.enc_eq]; exact hur15)) ?_
   refine RL.nil ?_
   refine hK8 _ _ _ ?_
   refine CW.kp [0, 1, 5, 7, 8, 16] rfl ?_
   refine CW.ite rfl (fun h2 => ?_) (fun h2 => ?_)
   ·refine CW.seq fun K9 hK9 => ?_
    refine CW.region ?_
    refine RL.q (Y.move rfl) rfl ?_
    refine RL.q (Y.assign rfl) rfl ?_
    refine RL.nil ?_
    refine hK9 _ _ _ ?_
    refine CW.kp [4] rfl ?_
    refine CW.ret ?_
    exact ⟨_, rfl, Turn.drop ⟨by rw [idxL_hit hka hF0 h2], rfl, rfl⟩ SB⟩
   refine CW.skip ?_
   refine hK6 _ _ _ ?_
   refine CW.region ?_
   refine RL.q (Y.add rfl rfl OM) rfl ?_
   refine RL.q (Y.move rfl) rfl ?_
   refine RL.nil ?_
   refine ⟨xs.length - (k + 1), [(8, _)], ?_, (KP [8, 0, 1, 7]), ?_⟩
   · omega
   · exact Turn.drop ⟨[], rfl, hs, k + 1, rfl, by omega, rfl, rfl, rfl, all_step (p := fun x => q x ≠ true) hF0 hka h2⟩ SB
  refine CW.exit ?_
  refine hK2 _ _ _ ?_
  refine CW.seq fun K10 hK10 => ?_
  refine CW.region ?_
  refine RL.q (Y.assign rfl) rfl ?_
  refine RL.nil ?_
  refine hK10 _ _ _ ?_
  refine CW.kp [4] rfl ?_
  refine CW.ret ?_
  exact ⟨_, rfl, Turn.drop ⟨by rw [idxL_miss fun j hj => hF0 j hj OM], rfl, rfl⟩ SB⟩

theorem def_ok (w0 : World) (M : Mem) (Γ : List As) (p : ProgT) (usp : List Value) (id : IdT)  (hp : Kn w0 M Γ (RdL M p.enc usp))  :
    CallOk Try.prog w0 M Γ 19 #[.agg usp.toArray, .agg id.vals.toArray] (Has M Γ fun v => ∃ us, v = .tuple #[.agg us.toArray, .bool (decide (hasDef p id))] ∧ RdL M (theDef p id).enc us) := by
  refine CallOk.kn hp fun hp => ?_
  rw [ProgT.enc_eq] at hp
  refine enterCell2 (f := 19) Try.func19 rfl Try.ntmps19 rfl rfl fun w1 hw1 => ?_
  refine CW.addRds hp ?_
  refine CW.seq fun K1 hK1 => ?_
  refine CW.region ?_
  refine RL.box _ rfl rfl rfl fun b2 => ?_
  refine RL.box _ rfl rfl rfl fun b3 => ?_
  refine RL.alloc _ zero46 rfl rfl fun b4 => ?_
  refine RL.q (Y.assign rfl) rfl ?_
  refine RL.nil ?_
  refine hK1 _ _ _ ?_
  refine CW.kp [2, 3, 4] rfl ?_
  refine CW.seq fun K2 hK2 => ?_
  refine CW.region ?_
  refine RL.q (Y.field rfl field26_1) rfl ?_
  refine RL.loadOwnSl rfl rfl MM MM (by rfl) flat24 rfl fun a8 c8 hu8 hc8 hl8 => ?_
  refine RL.q (Y.makeFunc rfl rfl) rfl ?_
  refine RL.callv rfl func45 rfl rfl (by exact idxDef_ok _ _ _ p.defs _ 46 _ (fun d => decide (d.id = id)) func46 KK (fun x hx us Γ2 hG hus => by simpa using def1_ok _ _ _ x id us _ hus (CellsK.mono (CellsK.own MM) hG))) ?_
  refine RL.q (Y.assign rfl) rfl ?_
  refine RL.nil ?_
  refine hK2 _ _ _ ?_
  refine CW.kp [2, 4, 6] rfl ?_
  refine CW.seq fun K3 hK3 => ?_
  refine CW.seq fun K4 hK4 => ?_
  refine CW.region ?_
  refine RL.q (Y.move rfl) rfl ?_
  refine RL.q (Y.lss rfl rfl) rfl ?_
  refine RL.nil ?_
  refine hK4 _ _ _ ?_
  refine CW.kp [2, 4, 6, 12] rfl ?_
  refine CW.ite rfl (fun h1 => ?_) (fun h1 => ?_)
  ·refine CW.seq fun K5 hK5 => ?_
   refine CW.region ?_
   refine RL.q (Y.build [_, _, _, _, _, _, _, _, _, _, _, _, _, _, _, _, _, _, _, _, _, _, _, _, _, _, _, _, _, _, _] rfl zero46 places46 (by rfl)) rfl ?_
   refine RL.storeAgg _ rfl rfl RP (by rfl) (by first | (simp; done) | simp [IdT.vals]) (by first | (simp [Value.oneCell']; done) | simp [Value.oneCell', IdT.vals]) size46 ?_
   refine RL.q (Y.assign rfl) rfl ?_
   refine RL.nil ?_
   refine hK5 _ _ _ ?_
   refine CW.kp [4, 5] rfl ?_
   refine CW.ret ?_
   obtain ⟨e1, e2⟩ := theDef_miss (p := p) (id := id) (fun j hj => by simpa using idxL_neg h1 j hj)
   refine ⟨_, rfl, ?_⟩
   exact CellAt.mk rfl MM (by first | rfl | assumption) agg46 (Turn.drop ⟨rfl, rfl, _, by rw [decide_eq_false e1], by rw [e2]; exact (by repeat (first | exact RdL.nil _ | refine RdL.cons (by first | exact Rd.i _ | exact Rd.nilS | exact Rd.str _ | assumption) ?_))⟩ SB)
  refine CW.skip ?_
  refine hK3 _ _ _ ?_
  refine CW.seq fun K6 hK6 => ?_
  obtain ⟨k, hka, hi, hq1, hq2⟩ := idxL_nn h1
  rw [hi]
  obtain ⟨e1, e2⟩ := theDef_hit hka (fun j hj hlt => by simpa using hq2 j hj hlt) (by simpa using hq1)
  refine CW.region ?_
  refine RL.q (Y.field rfl field26_1) rfl ?_
  refine RL.loadOwnSl rfl rfl MM MM (by rfl) flat24 rfl fun a15 c15 hu15 hc15 hl15 => ?_
  refine RL.q (Y.move rfl) rfl ?_
  refine RL.q (Y.index _ rfl rfl rfl AO slice24 SM) rfl ?_
  refine RL.loadAgg rfl rfl MM (Eq.trans (flat_take DefT.enc_len _ _ _ (List.getElem?_eq_getElem AO)) (DefT.enc_eq _)) (by rfl) agg46 rfl fun us18 hul18 hur18 => ?_
  refine RL.storeRds 31 rfl rfl RP MM EL (by first | exact Kn.lenRds MM EL | exact Kn.lenLit rfl) size46 ?_
  refine RL.q (Y.assign rfl) rfl ?_
  refine RL.nil ?_
  refine hK6 _ _ _ ?_
  refine CW.kp [4, 5] rfl ?_
  refine CW.ret ?_
  refine ⟨_, rfl, ?_⟩
  exact CellAt.mk rfl MM (by first | rfl | assumption) agg46 (Turn.drop ⟨rfl, rfl, _, by rw [decide_eq_true e1], by rw [e2]; exact hur18⟩ SB)

theorem rdef_ok (w0 : World) (M : Mem) (Γ : List As) (p : ProgT) (usp : List Value) (id : IdT)  (hp : Kn w0 M Γ (RdL M p.enc usp))  :
    CallOk Try.prog w0 M Γ 20 #[.agg usp.toArray, .agg id.vals.toArray] (Has M Γ fun v => ∃ us, v = .tuple #[.agg us.toArray, .bool (decide (hasDef p id))] ∧ RdL M (theDef p id).enc us) := by
  refine CallOk.kn hp fun hp => ?_
  rw [ProgT.enc_eq] at hp
  refine enterCell2 (f := 20) Try.func20 rfl Try.ntmps20 rfl rfl fun w1 hw1 => ?_
  refine CW.addRds hp ?_
  refine CW.seq fun K1 hK1 => ?_
  refine CW.region ?_
  refine RL.box _ rfl rfl rfl fun b2 => ?_
  refine RL.box _ rfl rfl rfl fun b3 => ?_
  refine RL.alloc _ zero46 rfl rfl fun b4 => ?_
  refine RL.q (Y.assign rfl) rfl ?_
  refine RL.nil ?_
  refine hK1 _ _ _ ?_
  refine CW.kp [2, 3, 4] rfl ?_
  refine CW.seq fun K2 hK2 => ?_
  refine CW.seq fun K3 hK3 => ?_
  refine CW.region ?_
  refine RL.q (Y.assign rfl) rfl ?_
  refine RL.nil ?_
  refine hK3 _ _ _ ?_
  refine CW.kp [2, 3, 4, 6] rfl ?_
  refine CW.block ?_
  -- LOOP 1: live [2, 3, 4, 6] changed [6]
  refine CW.kp [6, 2, 3, 4] rfl ?_
  refine CW.loopF (fun m Lc M1 Γc => ∃ k : Nat, m = p.defs.length - k ∧ k ≤ p.defs.length ∧ Lc = [(6, vint k)] ∧ Γc = [] ∧ M1 = M ∧ ∀ j (hj : j < p.defs.length), j < k → p.defs[j].id ≠ id) (p.defs.length) [(6, _)] _ rfl rfl ⟨0, rfl, Nat.zero_le _, rfl, rfl, rfl, fun _ _ h => absurd h (Nat.not_lt_zero _)⟩ ?_
  rintro m Lc M Γc hs ⟨k, rfl, hk, rfl, rfl, rfl, hF0⟩
  refine CW.seq fun K4 hK4 => ?_
  refine CW.seq fun K5 hK5 => ?_
  refine CW.region ?_
  refine RL.q (Y.move rfl) rfl ?_
  refine RL.q (Y.field rfl field26_1) rfl ?_
  refine RL.loadOwnSl rfl rfl MM MM (by rfl) flat24 rfl fun a9 c9 hu9 hc9 hl9 => ?_
  refine RL.q (Y.len rfl Try.underlying24) rfl ?_
  refine RL.q (Y.lss rfl rfl) rfl ?_
  refine RL.nil ?_
  refine hK5 _ _ _ ?_
  refine CW.kp [2, 3, 4, 6, 11] rfl ?_
  refine CW.ite rfl (fun h1 => ?_) (fun h1 => ?_)
  ·have hka : k < p.defs.length := by omega
   refine CW.skip ?_
   refine hK4 _ _ _ ?_
   refine CW.seq fun K6 hK6 => ?_
   refine CW.block ?_
   refine CW.seq fun K7 hK7 => ?_
   refine CW.regionQ mix KR ?_
   refine QL.q (Y.field rfl field26_1) rfl ?_
   refine QL.loadOwnSl rfl rfl MM MM (by rfl) flat24 rfl fun a15 c15 hu15 hc15 hl15 => ?_
   refine QL.q (Y.move rfl) rfl ?_
   refine QL.q (Y.index _ rfl rfl rfl AO slice24 SM) rfl ?_
   refine QL.q (Y.field rfl field46_0) rfl ?_
   refine QL.q (Y.loadAggRd [_, _, _] rfl MM (Eq.trans (flat_sub DefT.enc_len _ _ _ (List.getElem?_eq_getElem AO) _ _ (Nat.le_of_ble_eq_true rfl)) (by rw [DefT.enc_eq] <;> rfl)) agg28) rfl ?_
   refine QL.q (Y.loadAll rfl MM (by rfl) agg28) rfl ?_
   refine QL.q (id28_eql rfl rfl) rfl ?_
   refine QL.nil ?_
   refine hK7 _ _ _ ?_
   refine CW.kp [2, 3, 4, 6, 21] rfl ?_
   refine CW.ite rfl (fun h2 => ?_) (fun h2 => ?_)
   ·obtain ⟨e1, e2⟩ := theDef_hit hka hF0 h2
    refine CW.seq fun K8 hK8 => ?_
    refine CW.region ?_
    refine RL.q (Y.field rfl field26_1) rfl ?_
    refine RL.loadOwnSl rfl rfl MM MM (by rfl) flat24 rfl fun a23 c23 hu23 hc23 hl23 => ?_
    refine RL.q (Y.move rfl) rfl ?_
    refine RL.q (Y.index _ rfl rfl rfl AO slice24 SM) rfl ?_
    refine RL.loadAgg rfl rfl MM (Eq.trans (flat_take DefT.enc_len _ _ _ (List.getElem?_eq_getElem AO)) (DefT.enc_eq _)) (by rfl) agg46 rfl fun us26 hul26 hur26 => ?_
    refine RL.storeRds 31 rfl rfl RP MM EL (by first | exact Kn.lenRds MM EL | exact Kn.lenLit rfl) size46 ?_
    refine RL.q (Y.assign rfl) rfl ?_
    refine RL.nil ?_
    refine hK8 _ _ _ ?_
    refine CW.kp [4, 5] rfl ?_
    refine CW.ret ?_
    refine ⟨_, rfl, ?_⟩
    exact CellAt.mk rfl MM (by first | rfl | assumption) agg46 (Turn.drop ⟨rfl, rfl, _, by rw [decide_eq_true e1], by rw [e2]; exact hur26⟩ SB)
   refine CW.skip ?_
   refine hK6 _ _ _ ?_
   refine CW.region ?_
   refine RL.q (Y.move rfl) rfl ?_
   refine RL.q (Y.add rfl rfl OM) rfl ?_
   refine RL.q (Y.assign rfl) rfl ?_
   refine RL.nil ?_
   refine ⟨p.defs.length - (k + 1), [(6, _)], ?_, (KP [6, 2, 3, 4]), ?_⟩
   · omega
   · exact Turn.drop ⟨[], rfl, hs, k + 1, rfl, by omega, rfl, rfl, rfl, all_step (p := fun x => x.id ≠ id) hF0 hka h2⟩ SB
  refine CW.exit ?_
  refine hK2 _ _ _ ?_
  refine CW.seq fun K9 hK9 => ?_
  refine CW.region ?_
  refine RL.q (Y.build [_, _, _, _, _, _, _, _, _, _, _, _, _, _, _, _, _, _, _, _, _, _, _, _, _, _, _, _, _, _, _] rfl zero46 places46 (by rfl)) rfl ?_
  refine RL.storeAgg _ rfl rfl RP (by rfl) (by first | (simp; done) | simp [IdT.vals]) (by first | (simp [Value.oneCell']; done) | simp [Value.oneCell', IdT.vals]) size46 ?_
  refine RL.q (Y.assign rfl) rfl ?_
  refine RL.nil ?_
  refine hK9 _ _ _ ?_
  refine CW.kp [4, 5] rfl ?_
  refine CW.ret ?_
  obtain ⟨e1, e2⟩ := theDef_miss (p := p) (id := id) (fun j hj => hF0 j hj OM)
  refine ⟨_, rfl, ?_⟩
  exact CellAt.mk rfl MM (by first | rfl | assumption) agg46 (Turn.drop ⟨rfl, rfl, _, by rw [decide_eq_false e1], by rw [e2]; exact (by repeat (first | exact RdL.nil _ | refine RdL.cons (by first | exact Rd.i _ | exact Rd.nilS | exact Rd.str _ | assumption) ?_))⟩ SB)
end Go.Proofs.Ytfgkhhfkodlbpaa
