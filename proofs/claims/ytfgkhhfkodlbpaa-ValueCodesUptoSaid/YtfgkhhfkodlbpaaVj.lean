/- THE WALKS, 10: zero values, by both. Printed by m04j.py. -/
import Derived.Test.YtfgkhhfkodlbpaaVi
namespace Go.Proofs.Ytfgkhhfkodlbpaa
open Xe

theorem zero_ok (w0 : World) (M : Mem) (Γ : List As) (p : ProgT) (usp : List Value) (t : Ty) (ust : List Value)  (hp : Kn w0 M Γ (RdL M p.enc usp)) (ht : Kn w0 M Γ (RdL M t.enc ust))  :
    CallOk Try.prog w0 M Γ 33 #[.agg usp.toArray, .agg ust.toArray] (Gives M Γ fun M' v => ∃ us, v = .tuple #[.agg us.toArray, vint (zeroV p t).2.1] ∧ RdL M' (zeroV p t).1.enc us) := by
  refine CallOk.kn hp fun hp => ?_
  rw [ProgT.enc_eq] at hp
  refine CallOk.kn ht fun ht => ?_
  rw [Ty.enc_eq] at ht
  refine enterCell2 (f := 33) Try.func33 rfl Try.ntmps33 rfl rfl fun w1 hw1 => ?_
  refine CW.addRds hp ?_
  refine CW.addRds ht ?_
  refine CW.seq fun K1 hK1 => ?_
  refine CW.region ?_
  refine RL.box _ rfl rfl rfl fun b2 => ?_
  refine RL.box _ rfl rfl rfl fun b3 => ?_
  refine RL.alloc _ zero53 rfl rfl fun b4 => ?_
  refine RL.q (Y.assign rfl) rfl ?_
  refine RL.nil ?_
  refine hK1 _ _ _ ?_
  refine CW.kp [2, 3, 4] rfl ?_
  refine CW.seq fun K2 hK2 => ?_
  refine CW.region ?_
  refine RL.alloc _ zero3 rfl rfl fun b6 => ?_
  refine RL.store _ rfl rfl RP (by rfl) (by simp) (by rfl) size3 ?_
  refine RL.nil ?_
  refine hK2 _ _ _ ?_
  refine CW.kp [2, 3, 4, 6] rfl ?_
  refine CW.seq fun K3 hK3 => ?_
  refine CW.region ?_
  refine RL.alloc _ zero92 rfl rfl fun b7 => ?_
  refine RL.nil ?_
  refine hK3 _ _ _ ?_
  refine CW.kp [2, 3, 4, 6, 7] rfl ?_
  refine CW.seq fun K4 hK4 => ?_
  refine CW.region ?_
  refine RL.q (Y.makeFunc rfl rfl) rfl ?_
  refine RL.store _ rfl rfl RP (by rfl) (by simp) (by rfl) size92 ?_
  refine RL.nil ?_
  refine hK4 _ _ _ ?_
  refine CW.kp [3, 4, 7] rfl ?_
  refine CW.seq fun K5 hK5 => ?_
  refine CW.region ?_
  refine RL.q (Y.loadOwn rfl MM (by rfl) flat92) rfl ?_
  refine RL.q (Y.loadAllR rfl MM MM EL agg31) rfl ?_
  refine RL.callf rfl func57 rfl rfl rfl (CallOk.pick (x := .own b2 26 usp) PK (CallOk.pick (x := .own b7 92 [(.func (.func 57) #[] #[.pointer (some (adr (some ⟨b2, 0, none⟩) 0)), .pointer (some (adr (some ⟨b6, 0, none⟩) 0)), .pointer (some (adr (some ⟨b7, 0, none⟩) 0))])]) PK (CallOk.pick (x := .own b6 3 [vint 256]) PK (zero1_ok 24 _ _ _ p usp t ust 1 256 b6 b7 b2 rfl OM OM OM (by first | exact Kn.rds MM | exact Kn.ty MM | exact Kn.val MM | exact Kn.ex MM | exact Kn.rd MM) (by first | exact Kn.rds MM | exact Kn.ty MM | exact Kn.val MM | exact Kn.ex MM | exact Kn.rd MM))))) ?_
  rintro v11 M11 _ ⟨hs11, rfl, us11, rfl, hr11⟩
  refine RL.addRds hr11 ?_
  have hul11 : us11.length = 3 := hr11.1.trans (Val.enc_len _)
  refine RL.q (Y.extract rfl rfl) rfl ?_
  refine RL.q (Y.extract rfl rfl) rfl ?_
  refine RL.storeRds 3 rfl rfl RP MM EL (by first | exact Kn.lenRds MM EL | exact Kn.lenLit rfl) size53 ?_
  refine RL.q (Y.assign rfl) rfl ?_
  refine RL.nil ?_
  refine hK5 _ _ _ ?_
  refine CW.kp [4, 5] rfl ?_
  refine CW.ret ?_
  refine ⟨_, rfl, ?_⟩
  exact CellAt.mk rfl MM (by first | rfl | assumption) agg53 (Turn.drop ⟨hs11, rfl, _, rfl, hr11⟩ SB)

theorem rzeroF_ok (n : Nat) : ∀ (w0 : World) (M : Mem) (Γ : List As) (p : ProgT) (usp : List Value) (t : Ty) (ust : List Value) (d : Nat) (l : Int), d + n = 25 → 1 ≤ d → 0 ≤ l → l ≤ 256 → Kn w0 M Γ (RdL M p.enc usp) → Kn w0 M Γ (RdL M t.enc ust) →
    CallOk Try.prog w0 M Γ 58 #[.agg usp.toArray, .agg ust.toArray, vint d, vint (256 - l)]
      (Gives M Γ fun M' v => ∃ us, v = .tuple #[.agg us.toArray, vint (256 - (zeroF p n t l).2.2), vint (zeroF p n t l).2.1] ∧ RdL M' (zeroF p n t l).1.enc us) := by
  induction n using Nat.strongRecOn
  rename_i n ih
  intro w0 M Γ p usp t ust d l hd hd1 hl0 hl hp ht
  refine CallOk.kn hp fun hp => ?_
  refine CallOk.kn ht fun ht => ?_
  rw [ProgT.enc_eq] at hp
  rw [Ty.enc_eq] at ht
  refine enterCell3 (f := 58) Try.func58 rfl Try.ntmps58 rfl rfl fun w1 hw1 => ?_
  refine CW.addRds hp ?_
  refine CW.addRds ht ?_
  refine CW.seq fun K1 hK1 => ?_
  refine CW.region ?_
  refine RL.box _ rfl rfl rfl fun b4 => ?_
  refine RL.box _ rfl rfl rfl fun b5 => ?_
  refine RL.alloc _ zero53 rfl rfl fun b8 => ?_
  refine RL.q (Y.assign rfl) rfl ?_
  refine RL.q (Y.assign rfl) rfl ?_
  refine RL.nil ?_
  refine hK1 _ _ _ ?_
  refine CW.kp [2, 3, 4, 5, 8] rfl ?_
  refine CW.seq fun K2 hK2 => ?_
  refine CW.seq fun K3 hK3 => ?_
  refine CW.region ?_
  refine RL.q (Y.loadAllR rfl MM MM EL agg26) rfl ?_
  refine RL.q (Y.loadAllR rfl MM MM EL agg31) rfl ?_
  refine RL.callv rfl func16 rfl rfl (by exact rvalidType_ok _ _ _ _ _ _ _ KK KK) ?_
  refine RL.q (Y.notD rfl) rfl ?_
  refine RL.nil ?_
  refine hK3 _ _ _ ?_
  refine CW.kp [2, 3, 4, 5, 8, 22] rfl ?_
  refine CW.ite rfl (fun h1 => ?_) (fun h1 => ?_)
  ·refine CW.seq fun K4 hK4 => ?_
   refine CW.region ?_
   refine RL.q (Y.build [_, _, _] rfl zero53 places53 (by rfl)) rfl ?_
   refine RL.q (Y.move rfl) rfl ?_
   refine RL.storeAgg _ rfl rfl RP (by rfl) (by first | (simp; done) | simp [IdT.vals]) (by first | (simp [Value.oneCell']; done) | simp [Value.oneCell', IdT.vals]) size53 ?_
   refine RL.q (Y.assign rfl) rfl ?_
   refine RL.q (Y.assign rfl) rfl ?_
   refine RL.nil ?_
   refine hK4 _ _ _ ?_
   refine CW.kp [8, 9, 10] rfl ?_
   refine CW.ret ?_
   refine ⟨_, _, rfl, rfl, ?_⟩
   exact CellAt.mk rfl MM (by first | rfl | assumption) agg53 (Turn.drop ⟨Sub.refl _, rfl, _, by rw [zeroF_arg h1], by rw [zeroF_arg h1]; exact (by rw [Val.enc_eq]; exact (by repeat (first | exact RdL.nil _ | refine RdL.cons (by first | exact Rd.i _ | exact Rd.nilS | exact Rd.str _ | assumption) ?_)))⟩ SB)
  have hvt : validT p t := Decidable.not_not.1 h1
  refine CW.skip ?_
  refine hK2 _ _ _ ?_
  refine CW.seq fun K5 hK5 => ?_
  refine CW.region ?_
  refine RL.q (Y.move rfl) rfl ?_
  refine RL.q (Y.add rfl rfl OM) rfl ?_
  refine RL.q (Y.assign rfl) rfl ?_
  refine RL.nil ?_
  refine hK5 _ _ _ ?_
  refine CW.kp [2, 3, 4, 5, 8] rfl ?_
  rw [show (256 : Int) - l + 1 = 256 - (l - 1) from by omega]
  refine CW.seq fun K6 hK6 => ?_
  refine CW.seq fun K7 hK7 => ?_
  refine CW.region ?_
  refine RL.q (Y.move rfl) rfl ?_
  refine RL.qs (Y.gtr rfl rfl) rfl (fun g28 => ?_) (fun g28 => ?_)
  ·refine RL.q (Y.move rfl) rfl ?_
   refine RL.no WG rfl ?_
   refine RL.no WG rfl ?_
   refine RL.q (Y.pickT rfl rfl) rfl ?_
   refine RL.nil ?_
   refine hK7 _ _ _ ?_
   refine CW.kp [2, 3, 4, 5, 8, 32] rfl ?_
   refine CW.yes rfl ?_
   refine CW.seq fun K8 hK8 => ?_
   refine CW.region ?_
   refine RL.q (Y.build [_, _, _] rfl zero53 places53 (by rfl)) rfl ?_
   refine RL.q (Y.move rfl) rfl ?_
   refine RL.storeAgg _ rfl rfl RP (by rfl) (by first | (simp; done) | simp [IdT.vals]) (by first | (simp [Value.oneCell']; done) | simp [Value.oneCell', IdT.vals]) size53 ?_
   refine RL.q (Y.assign rfl) rfl ?_
   refine RL.q (Y.assign rfl) rfl ?_
   refine RL.nil ?_
   refine hK8 _ _ _ ?_
   refine CW.kp [8, 9, 10] rfl ?_
   refine CW.ret ?_
   rw [show (256 : Int) - (l - 1) = 256 - (zeroF p n t l).2.2 from by rw [zeroF_lim hvt OM]]
   refine ⟨_, _, rfl, rfl, ?_⟩
   exact CellAt.mk rfl MM (by first | rfl | assumption) agg53 (Turn.drop ⟨Sub.refl _, rfl, _, by rw [zeroF_lim hvt OM], by rw [zeroF_lim hvt OM]; exact (by rw [Val.enc_eq]; exact (by repeat (first | exact RdL.nil _ | refine RdL.cons (by first | exact Rd.i _ | exact Rd.nilS | exact Rd.str _ | assumption) ?_)))⟩ SB)
  refine RL.q (Y.move rfl) rfl ?_
  refine RL.qg WG (Y.move rfl) rfl ?_
  refine RL.qg WG (Y.gtr rfl rfl) rfl ?_
  refine RL.q (Y.pickF rfl rfl) rfl ?_
  refine RL.nil ?_
  refine hK7 _ _ _ ?_
  refine CW.kp [2, 3, 4, 5, 8, 32] rfl ?_
  refine CW.ite rfl (fun h2 => ?_) (fun h2 => ?_)
  ·refine CW.seq fun K9 hK9 => ?_
   refine CW.region ?_
   refine RL.q (Y.build [_, _, _] rfl zero53 places53 (by rfl)) rfl ?_
   refine RL.q (Y.move rfl) rfl ?_
   refine RL.storeAgg _ rfl rfl RP (by rfl) (by first | (simp; done) | simp [IdT.vals]) (by first | (simp [Value.oneCell']; done) | simp [Value.oneCell', IdT.vals]) size53 ?_
   refine RL.q (Y.assign rfl) rfl ?_
   refine RL.q (Y.assign rfl) rfl ?_
   refine RL.nil ?_
   refine hK9 _ _ _ ?_
   refine CW.kp [8, 9, 10] rfl ?_
   refine CW.ret ?_
   rw [show (256 : Int) - (l - 1) = 256 - (zeroF p n t l).2.2 from by rw [zeroF_lim hvt OM]]
   refine ⟨_, _, rfl, rfl, ?_⟩
   exact CellAt.mk rfl MM (by first | rfl | assumption) agg53 (Turn.drop ⟨Sub.refl _, rfl, _, by rw [zeroF_lim hvt OM], by rw [zeroF_lim hvt OM]; exact (by rw [Val.enc_eq]; exact (by repeat (first | exact RdL.nil _ | refine RdL.cons (by first | exact Rd.i _ | exact Rd.nilS | exact Rd.str _ | assumption) ?_)))⟩ SB)
  obtain ⟨n, rfl⟩ : ∃ m, n = m + 1 := ⟨n - 1, by omega⟩
  have hl1 : ¬ l - 1 < 0 := by omega
  refine CW.skip ?_
  refine hK6 _ _ _ ?_
  refine CW.seq fun K10 hK10 => ?_
  refine CW.seq fun K11 hK11 => ?_
  refine CW.region ?_
  refine RL.q (Y.field rfl field31_0) rfl ?_
  refine RL.q (Y.loadOwnV rfl MM MM (by rfl) flat3) rfl ?_
  refine RL.q (Y.eql rfl rfl) rfl ?_
  refine RL.nil ?_
  refine hK11 _ _ _ ?_
  refine CW.kp [2, 3, 4, 5, 8, 37] rfl ?_
  refine CW.ite rfl (fun h3 => ?_) (fun h3 => ?_)
  ·refine CW.seq fun K12 hK12 => ?_
   refine CW.region ?_
   refine RL.q (Y.build [_, _, _] rfl zero53 places53 (by rfl)) rfl ?_
   refine RL.q (Y.move rfl) rfl ?_
   refine RL.storeAgg _ rfl rfl RP (by rfl) (by first | (simp; done) | simp [IdT.vals]) (by first | (simp [Value.oneCell']; done) | simp [Value.oneCell', IdT.vals]) size53 ?_
   refine RL.q (Y.assign rfl) rfl ?_
   refine RL.q (Y.assign rfl) rfl ?_
   refine RL.nil ?_
   refine hK12 _ _ _ ?_
   refine CW.kp [8, 9, 10] rfl ?_
   refine CW.ret ?_
   have e : zeroF p (n + 1) t l = (.mk 0 0 [], 0, l - 1) := by rw [zeroF, if_neg (by simp [hvt]), if_neg hl1, if_pos h3]
   refine ⟨_, _, rfl, rfl, ?_⟩
   exact CellAt.mk rfl MM (by first | rfl | assumption) agg53 (Turn.drop ⟨Sub.refl _, rfl, _, by rw [e], by rw [e]; exact (by rw [Val.enc_eq]; exact (by repeat (first | exact RdL.nil _ | refine RdL.cons (by first | exact Rd.i _ | exact Rd.nilS | exact Rd.str _ | assumption) ?_)))⟩ SB)
  refine CW.skip ?_
  refine hK10 _ _ _ ?_
  refine CW.seq fun K13 hK13 => ?_
  refine CW.seq fun K14 hK14 => ?_
  refine CW.region ?_
  refine RL.q (Y.field rfl field31_0) rfl ?_
  refine RL.q (Y.loadOwnV rfl MM MM (by rfl) flat3) rfl ?_
  refine RL.q (Y.eql rfl rfl) rfl ?_
  refine RL.nil ?_
  refine hK14 _ _ _ ?_
  refine CW.kp [2, 3, 4, 5, 8, 42] rfl ?_
  refine CW.ite rfl (fun h4 => ?_) (fun h4 => ?_)
  ·refine CW.seq fun K15 hK15 => ?_
   refine CW.region ?_
   refine RL.q (Y.build [_, _, _] rfl zero53 places53 (by rfl)) rfl ?_
   refine RL.q (Y.move rfl) rfl ?_
   refine RL.storeAgg _ rfl rfl RP (by rfl) (by first | (simp; done) | simp [IdT.vals]) (by first | (simp [Value.oneCell']; done) | simp [Value.oneCell', IdT.vals]) size53 ?_
   refine RL.q (Y.assign rfl) rfl ?_
   refine RL.q (Y.assign rfl) rfl ?_
   refine RL.nil ?_
   refine hK15 _ _ _ ?_
   refine CW.kp [8, 9, 10] rfl ?_
   refine CW.ret ?_
   have e : zeroF p (n + 1) t l = (.mk 1 0 [], 0, l - 1) := by rw [zeroF, if_neg (by simp [hvt]), if_neg hl1, if_neg h3, if_pos h4]
   refine ⟨_, _, rfl, rfl, ?_⟩
   exact CellAt.mk rfl MM (by first | rfl | assumption) agg53 (Turn.drop ⟨Sub.refl _, rfl, _, by rw [e], by rw [e]; exact (by rw [Val.enc_eq]; exact (by repeat (first | exact RdL.nil _ | refine RdL.cons (by first | exact Rd.i _ | exact Rd.nilS | exact Rd.str _ | assumption) ?_)))⟩ SB)
  refine CW.skip ?_
  refine hK13 _ _ _ ?_
  refine CW.seq fun K16 hK16 => ?_
  refine CW.seq fun K17 hK17 => ?_
  refine CW.region ?_
  refine RL.q (Y.field rfl field31_0) rfl ?_
  refine RL.q (Y.loadOwnV rfl MM MM (by rfl) flat3) rfl ?_
  refine RL.q (Y.eql rfl rfl) rfl ?_
  refine RL.nil ?_
  refine hK17 _ _ _ ?_
  refine CW.kp [2, 3, 4, 5, 8, 47] rfl ?_
  refine CW.ite rfl (fun h5 => ?_) (fun h5 => ?_)
  ·refine CW.seq fun K18 hK18 => ?_
   refine CW.region ?_
   refine RL.q (Y.build [_, _, _] rfl zero53 places53 (by rfl)) rfl ?_
   refine RL.q (Y.move rfl) rfl ?_
   refine RL.storeAgg _ rfl rfl RP (by rfl) (by first | (simp; done) | simp [IdT.vals]) (by first | (simp [Value.oneCell']; done) | simp [Value.oneCell', IdT.vals]) size53 ?_
   refine RL.q (Y.assign rfl) rfl ?_
   refine RL.q (Y.assign rfl) rfl ?_
   refine RL.nil ?_
   refine hK18 _ _ _ ?_
   refine CW.kp [8, 9, 10] rfl ?_
   refine CW.ret ?_
   have e : zeroF p (n + 1) t l = (.mk 4 0 [], 0, l - 1) := by rw [zeroF, if_neg (by simp [hvt]), if_neg hl1, if_neg h3, if_neg h4, if_pos h5]
   refine ⟨_, _, rfl, rfl, ?_⟩
   exact CellAt.mk rfl MM (by first | rfl | assumption) agg53 (Turn.drop ⟨Sub.refl _, rfl, _, by rw [e], by rw [e]; exact (by rw [Val.enc_eq]; exact (by repeat (first | exact RdL.nil _ | refine RdL.cons (by first | exact Rd.i _ | exact Rd.nilS | exact Rd.str _ | assumption) ?_)))⟩ SB)
  refine CW.skip ?_
  refine hK16 _ _ _ ?_
  refine CW.seq fun K19 hK19 => ?_
  refine CW.region ?_
  refine RL.q (Y.loadAllR rfl MM MM EL agg26) rfl ?_
  refine RL.q (Y.field rfl field31_1) rfl ?_
  refine RL.q (Y.loadAggV [_, _, _] rfl MM MM (by rfl) agg28) rfl ?_
  refine RL.call rfl func20 rfl rfl (by exact rdef_ok _ _ _ _ _ _ KK) ?_
  rintro v54 M _ ⟨rfl, rfl, us54, rfl, hr54⟩
  refine RL.addRds hr54 ?_
  refine RL.q (Y.move rfl) rfl ?_
  refine RL.q (Y.extract rfl rfl) rfl ?_
  refine RL.q (Y.extract rfl rfl) rfl ?_
  refine RL.alloc _ zero46 rfl rfl fun b11 => ?_
  refine RL.storeRds 31 rfl rfl RP MM EL (by first | exact Kn.lenRds MM EL | exact Kn.lenLit rfl) size46 ?_
  refine RL.q (Y.assign rfl) rfl ?_
  refine RL.nil ?_
  refine hK19 _ _ _ ?_
  refine CW.kp [2, 3, 4, 8, 11] rfl ?_
  refine CW.seq fun K20 hK20 => ?_
  refine CW.region ?_
  refine RL.q (Y.build [_, _, _] rfl zero53 places53 (by rfl)) rfl ?_
  refine RL.alloc _ zero53 rfl rfl fun b13 => ?_
  refine RL.storeAgg _ rfl rfl RP (by rfl) (by first | (simp; done) | simp [IdT.vals]) (by first | (simp [Value.oneCell']; done) | simp [Value.oneCell', IdT.vals]) size53 ?_
  refine RL.nil ?_
  refine hK20 _ _ _ ?_
  refine CW.kp [2, 3, 4, 8, 11, 13] rfl ?_
  refine CW.seq fun K21 hK21 => ?_
  refine CW.region ?_
  refine RL.q (Y.field rfl field46_4) rfl ?_
  refine RL.loadOwnSl rfl rfl MM MM (by rfl) flat40 rfl fun a59 c59 hu59 hc59 hl59 => ?_
  refine RL.q (Y.len rfl Try.underlying40) rfl ?_
  refine RL.q (Y.assign rfl) rfl ?_
  refine RL.nil ?_
  refine hK21 _ _ _ ?_
  refine CW.kp [2, 3, 4, 8, 11, 13, 14] rfl ?_
  refine CW.seq fun K22 hK22 => ?_
  refine CW.seq fun K23 hK23 => ?_
  refine CW.region ?_
  refine RL.q (Y.field rfl field46_1) rfl ?_
  refine RL.q (Y.loadOwnV rfl MM MM (by rfl) flat3) rfl ?_
  refine RL.q (Y.eql rfl rfl) rfl ?_
  refine RL.nil ?_
  refine hK23 _ _ _ ?_
  refine CW.kp [2, 3, 4, 8, 11, 13, 14, 63] rfl ?_
  refine CW.ite rfl (fun h6 => ?_) (fun h6 => ?_)
  ·refine CW.seq fun K24 hK24 => ?_
   refine CW.region ?_
   refine RL.q (Y.field rfl field53_0) rfl ?_
   refine RL.store _ rfl rfl RP (by rfl) (by simp) (by rfl) size3 ?_
   refine RL.nil ?_
   refine hK24 _ _ _ ?_
   refine CW.kp [2, 3, 4, 8, 11, 13, 14] rfl ?_
   refine CW.seq fun K25 hK25 => ?_
   refine CW.seq fun K26 hK26 => ?_
   refine CW.region ?_
   refine RL.q (Y.move rfl) rfl ?_
   refine RL.q (Y.eql rfl rfl) rfl ?_
   refine RL.nil ?_
   refine hK26 _ _ _ ?_
   refine CW.kp [2, 3, 4, 8, 11, 13, 66] rfl ?_
   refine CW.ite rfl (fun h7 => ?_) (fun h7 => ?_)
   ·refine CW.seq fun K27 hK27 => ?_
    refine CW.region ?_
    refine RL.q (Y.build [_, _, _] rfl zero53 places53 (by rfl)) rfl ?_
    refine RL.q (Y.move rfl) rfl ?_
    refine RL.storeAgg _ rfl rfl RP (by rfl) (by first | (simp; done) | simp [IdT.vals]) (by first | (simp [Value.oneCell']; done) | simp [Value.oneCell', IdT.vals]) size53 ?_
    refine RL.q (Y.assign rfl) rfl ?_
    refine RL.q (Y.assign rfl) rfl ?_
    refine RL.nil ?_
    refine hK27 _ _ _ ?_
    refine CW.kp [8, 9, 10] rfl ?_
    refine CW.ret ?_
    have e : zeroF p (n + 1) t l = (v0, 1, l - 1) := by rw [zeroF, if_neg (by simp [hvt]), if_neg hl1, if_neg h3, if_neg h4, if_neg h5, if_pos h6, if_pos OM]
    refine ⟨_, _, rfl, rfl, ?_⟩
    exact CellAt.mk rfl MM (by first | rfl | assumption) agg53 (Turn.drop ⟨Sub.refl _, rfl, _, by rw [e], by rw [e]; exact (by rw [Val.enc_eq]; exact (by repeat (first | exact RdL.nil _ | refine RdL.cons (by first | exact Rd.i _ | exact Rd.nilS | exact Rd.str _ | assumption) ?_)))⟩ SB)
   refine CW.skip ?_
   refine hK25 _ _ _ ?_
   refine CW.region ?_
   refine RL.q (v := vint ((onesN : Nat) : Int)) (Y.assign rfl) rfl ?_
   refine RL.nil ?_
   refine hK22 _ _ _ ?_
   refine CW.kp [2, 3, 4, 8, 11, 13, 14] rfl ?_
   obtain ⟨many, hmany⟩ : ∃ k : Nat, k = onesN := ⟨_, rfl⟩
   rw [← hmany]
   replace hmany : many = 1 := hmany
   obtain ⟨kd, hkd⟩ : ∃ kd : Int, kd = 3 := ⟨_, rfl⟩
   rw [← hkd]
   have hml : many ≤ (theDef p t.df).slots.length := by omega
   have hnode : zeroF p (n + 1) t l = zNode kd (zeroL (zeroF p n) (((theDef p t.df).slots.take many).map SlotT.ty) (l - 1)) := by rw [zeroF, if_neg (by simp [hvt]), if_neg hl1, if_neg h3, if_neg h4, if_neg h5, if_pos h6, if_neg OM, hkd, hmany]
   refine CW.seq fun K28 hK28 => ?_
   refine CW.seq fun K29 hK29 => ?_
   have hmt : ((theDef p t.df).slots.take many).length = many := by rw [List.length_take]; omega
   refine CW.front (x := .own b13 53 [vint kd, vint 0, .slice none 0 0]) PK ?_
   refine CW.accNil 53 3 ?_
   refine CW.addRds (RdL.nil _) ?_
   refine CW.region ?_
   refine RL.q (Y.assign rfl) rfl ?_
   refine RL.nil ?_
   refine hK29 _ _ _ ?_
   refine CW.kp [2, 3, 4, 8, 11, 13, 14, 15] rfl ?_
   refine CW.block ?_
   -- LOOP 1: live [2, 3, 4, 8, 11, 13, 14, 15] changed [3, 15]
   refine CW.kp [3, 15, 2, 4, 8, 11, 13, 14] rfl ?_
   refine CW.loopF (fun m Lc M1 Γc => ∃ (k : Nat) (dn : List Val) (lk : Int) (ua : Option Addr) (ca : Nat) (us : List Value), m = many - k ∧ k ≤ many ∧ Lc = [(3, vint (256 - lk)), (15, vint k)] ∧ Γc = [.rds (dn.flatMap Val.enc) us, .acc (.slice ua k ca) 53 3 k us, .own b13 53 [vint kd, vint 0, .slice ua k ca]] ∧ 0 ≤ lk ∧ lk + k ≤ 256 ∧ dn.length = k ∧ zeroL (zeroF p n) (((theDef p t.df).slots.take many).map SlotT.ty) (l - 1) = zJoin dn (zeroL (zeroF p n) ((((theDef p t.df).slots.take many).map SlotT.ty).drop k) lk)) many [(3, _), (15, _)] [_, _, _] rfl rfl ⟨0, [], l - 1, none, 0, [], rfl, Nat.zero_le _, rfl, rfl, by omega, by omega, rfl, zJoin_nil _ _ _⟩ ?_
   rintro m Lc M1 Γc hs ⟨k, dn, lk, ua, ca, us, rfl, hk, rfl, rfl, hlk0, hlk, hdn, hz⟩
   refine CW.seq fun K30 hK30 => ?_
   refine CW.seq fun K31 hK31 => ?_
   refine CW.region ?_
   refine RL.q (Y.move rfl) rfl ?_
   refine RL.q (Y.move rfl) rfl ?_
   refine RL.q (Y.lss rfl rfl) rfl ?_
   refine RL.nil ?_
   refine hK31 _ _ _ ?_
   refine CW.kp [2, 3, 4, 8, 11, 13, 14, 15, 71] rfl ?_
   refine CW.ite rfl (fun h8 => ?_) (fun h8 => ?_)
   ·have hka : k < (theDef p t.df).slots.length := by omega
    refine CW.skip ?_
    refine hK30 _ _ _ ?_
    refine CW.seq fun K32 hK32 => ?_
    refine CW.block ?_
    refine CW.seq fun K33 hK33 => ?_
    refine CW.regionH mix _ _ (fun _ hw => hw) ?_
    refine HL.take 0 rfl KR KR KR rfl (Y.loadAllR rfl MM MM EL agg26) rfl ?_
    refine HL.take 1 rfl KR KR KR rfl (Y.field rfl field46_4) rfl ?_
    refine HL.loadOwnSl 2 rfl KR KR KR rfl rfl MM MM (by rfl) flat40 rfl fun a77 c77 hu77 hc77 hl77 => ?_
    refine HL.take 3 rfl KR KR KR rfl (Y.move rfl) rfl ?_
    refine HL.take 4 rfl KR KR KR rfl (Y.index _ rfl rfl rfl AO slice40 SM) rfl ?_
    refine HL.take 5 rfl KR KR KR rfl (Y.field rfl field66_2) rfl ?_
    refine HL.loadAgg 6 rfl KR KR KR rfl rfl MM (Eq.trans (flat_sub SlotT.enc_len _ _ _ (List.getElem?_eq_getElem AO) _ _ (Nat.le_of_ble_eq_true rfl)) (by rw [SlotT.enc_eq] <;> rfl)) (by rfl) agg31 rfl fun us81 hul81 hur81 => ?_
    refine HL.take 7 rfl KR KR KR rfl (Y.move rfl) rfl ?_
    refine HL.take 8 rfl KR KR KR rfl (Y.add rfl rfl OM) rfl ?_
    refine HL.take 9 rfl KR KR KR rfl (Y.move rfl) rfl ?_
    refine HL.step2 10 15 rfl rfl KR ?_ ?_
    ·refine RL.call rfl func58 rfl rfl (by exact ih n OM _ _ _ p usp ((theDef p t.df).slots[k]).ty _ (d + 1) lk OM OM hlk0 OM (by first | exact Kn.rds MM | exact Kn.ty MM | exact Kn.val MM | exact Kn.ex MM | exact Kn.rd MM) (by first | exact Kn.rds MM | exact Kn.ty MM | exact Kn.val MM | exact Kn.ex MM | exact Kn.rd MM)) ?_
     rintro v85 M85 _ ⟨hs85, rfl, us85, rfl, hr85⟩
     refine RL.addRds hr85 ?_
     have hul85 : us85.length = 3 := hr85.1.trans (Val.enc_len _)
     refine RL.nil ⟨keep_more (hs85) SB, ?_⟩
     refine HL.take 11 rfl KR KR KR rfl (Y.move rfl) rfl ?_
     refine HL.take 12 rfl KR KR KR rfl (Y.extract rfl rfl) rfl ?_
     refine HL.take 13 rfl KR KR KR rfl (Y.extract rfl rfl) rfl ?_
     refine HL.take 14 rfl KR KR KR rfl (Y.extract rfl rfl) rfl ?_
     refine HL.step 15 rfl KR ?_
     refine RL.alloc _ zero53 rfl rfl fun b16 => ?_
     refine RL.nil ⟨keep_more (hs85) SB, ?_⟩
     refine HL.step 16 rfl KR ?_
     refine RL.storeRds 3 rfl rfl RP MM EL (by first | exact Kn.lenRds MM EL | exact Kn.lenLit rfl) size53 ?_
     refine RL.nil ⟨keep_more (hs85) SB, ?_⟩
     refine HL.take 17 rfl KR KR KR rfl (Y.assign rfl) rfl ?_
     refine HL.take 18 rfl KR KR KR rfl (Y.assign rfl) rfl ?_
     refine HL.done KR ?_
     refine hK33 _ _ _ ?_
     refine CW.kp [2, 4, 8, 11, 13, 14, 15, 16, 17, 18] rfl ?_
     refine CW.seq fun K34 hK34 => ?_
     refine CW.seq fun K35 hK35 => ?_
     refine CW.region ?_
     refine RL.q (Y.move rfl) rfl ?_
     refine RL.q (Y.neq rfl rfl) rfl ?_
     refine RL.nil ?_
     refine hK35 _ _ _ ?_
     refine CW.kp [2, 4, 8, 11, 13, 14, 15, 16, 17, 18, 90] rfl ?_
     refine CW.ite rfl (fun h9 => ?_) (fun h9 => ?_)
     ·refine CW.seq fun K36 hK36 => ?_
      refine CW.region ?_
      refine RL.q (Y.build [_, _, _] rfl zero53 places53 (by rfl)) rfl ?_
      refine RL.q (Y.move rfl) rfl ?_
      refine RL.q (Y.move rfl) rfl ?_
      refine RL.storeAgg _ rfl rfl RP (by rfl) (by first | (simp; done) | simp [IdT.vals]) (by first | (simp [Value.oneCell']; done) | simp [Value.oneCell', IdT.vals]) size53 ?_
      refine RL.q (Y.assign rfl) rfl ?_
      refine RL.q (Y.assign rfl) rfl ?_
      refine RL.nil ?_
      refine hK36 _ _ _ ?_
      refine CW.kp [8, 9, 10] rfl ?_
      refine CW.ret ?_
      have e : zeroF p (n + 1) t l = (v0, (zeroF p n ((theDef p t.df).slots[k]).ty lk).2.1, (zeroF p n ((theDef p t.df).slots[k]).ty lk).2.2) := by
        rw [hnode, zJoin_err (k := k) (by simp; omega) hz (by simpa using h9)]
        simp [zNode, h9]
      refine ⟨_, _, rfl, rfl, ?_⟩
      exact CellAt.mk rfl MM (by first | rfl | assumption) agg53 (Turn.drop ⟨hs.trans hs85, rfl, _, by rw [e], by rw [e]; exact (by rw [Val.enc_eq]; exact (by repeat (first | exact RdL.nil _ | refine RdL.cons (by first | exact Rd.i _ | exact Rd.nilS | exact Rd.str _ | assumption) ?_)))⟩ SB)
     refine CW.skip ?_
     refine hK34 _ _ _ ?_
     refine CW.seq fun K37 hK37 => ?_
     refine CW.region ?_
     refine RL.q (Y.move rfl) rfl ?_
     refine RL.q (Y.assign rfl) rfl ?_
     refine RL.nil ?_
     refine hK37 _ _ _ ?_
     refine CW.kp [2, 3, 4, 8, 11, 13, 14, 15, 16] rfl ?_
     refine CW.region ?_
     refine RL.q (Y.field rfl field53_2) rfl ?_
     refine RL.q (Y.loadOwn rfl MM (by rfl) flat51) rfl ?_
     refine RL.q (Y.loadAllR rfl MM MM EL agg53) rfl ?_
     refine RL.buildSlice us85 elem51 rfl (by decide) (fill1 rfl hul85) rfl fun b98 => ?_
     refine RL.append elem51 rfl rfl PK (SrcOk.own (sz := 3) (m := 1) MM (by simp [hul85]) hr85.one) OM (by unfold lim; omega) rfl fun a99 c99 hc99 => ?_
     refine RL.q (Y.field rfl field53_2) rfl ?_
     refine RL.store _ rfl rfl RP (by rfl) (by simp) (by rfl) size51 ?_
     refine RL.nil ?_
     refine hK32 _ _ _ ?_
     refine CW.kp [2, 3, 4, 8, 11, 13, 14, 15] rfl ?_
     refine CW.region ?_
     refine RL.q (Y.move rfl) rfl ?_
     refine RL.q (Y.add rfl rfl OM) rfl ?_
     refine RL.q (Y.assign rfl) rfl ?_
     refine RL.nil ?_
     refine ⟨many - (k + 1), [(3, _), (15, _)], ?_, (KP [3, 15, 2, 4, 8, 11, 13, 14]), ?_⟩
     · omega
     · refine Turn.kn (Kn.rds (ds := dn.flatMap Val.enc) (us := us) MM) fun hrd => ?_
       refine Turn.front (x := .own b13 53 _) PK ?_
       refine Turn.front (x := .acc (.slice a99 (k + 1) c99) 53 3 (k + 1) (us ++ us85)) PK ?_
       refine Turn.addRds (hrd.append hr85) ?_
       have hlf := zeroF_left p n ((theDef p t.df).slots[k]).ty lk (Decidable.not_not.1 h9)
       exact Turn.drop ⟨[_, _, _], rfl, hs.trans hs85, k + 1, dn ++ [(zeroF p n ((theDef p t.df).slots[k]).ty lk).1], (zeroF p n ((theDef p t.df).slots[k]).ty lk).2.2, a99, c99, us ++ us85, rfl, by omega, rfl, by rw [snoc_flat] <;> rfl, hlf.1, by have := hlf.2; omega, by simp [hdn], by have := zJoin_step (k := k) (by simp; omega) hz (by simpa using h9); simpa using this⟩ SB
    refine RL.alloc _ zero53 rfl rfl fun b16 => ?_
    refine RL.nil ⟨keep_same SB, ?_⟩
    refine HL.step 10 rfl KR ?_
    refine RL.call rfl func58 rfl rfl (by exact ih n OM _ _ _ p usp ((theDef p t.df).slots[k]).ty _ (d + 1) lk OM OM hlk0 OM (by first | exact Kn.rds MM | exact Kn.ty MM | exact Kn.val MM | exact Kn.ex MM | exact Kn.rd MM) (by first | exact Kn.rds MM | exact Kn.ty MM | exact Kn.val MM | exact Kn.ex MM | exact Kn.rd MM)) ?_
    rintro v85 M85 _ ⟨hs85, rfl, us85, rfl, hr85⟩
    refine RL.addRds hr85 ?_
    have hul85 : us85.length = 3 := hr85.1.trans (Val.enc_len _)
    refine RL.nil ⟨keep_more (hs85) SB, ?_⟩
    refine HL.take 11 rfl KR KR KR rfl (Y.move rfl) rfl ?_
    refine HL.take 12 rfl KR KR KR rfl (Y.extract rfl rfl) rfl ?_
    refine HL.take 13 rfl KR KR KR rfl (Y.extract rfl rfl) rfl ?_
    refine HL.take 14 rfl KR KR KR rfl (Y.extract rfl rfl) rfl ?_
    refine HL.step 16 rfl KR ?_
    refine RL.storeRds 3 rfl rfl RP MM EL (by first | exact Kn.lenRds MM EL | exact Kn.lenLit rfl) size53 ?_
    refine RL.nil ⟨keep_more (hs85) SB, ?_⟩
    refine HL.take 17 rfl KR KR KR rfl (Y.assign rfl) rfl ?_
    refine HL.take 18 rfl KR KR KR rfl (Y.assign rfl) rfl ?_
    refine HL.done KR ?_
    refine hK33 _ _ _ ?_
    refine CW.kp [2, 4, 8, 11, 13, 14, 15, 16, 17, 18] rfl ?_
    refine CW.seq fun K38 hK38 => ?_
    refine CW.seq fun K39 hK39 => ?_
    refine CW.region ?_
    refine RL.q (Y.move rfl) rfl ?_
    refine RL.q (Y.neq rfl rfl) rfl ?_
    refine RL.nil ?_
    refine hK39 _ _ _ ?_
    refine CW.kp [2, 4, 8, 11, 13, 14, 15, 16, 17, 18, 90] rfl ?_
    refine CW.ite rfl (fun h9 => ?_) (fun h9 => ?_)
    ·refine CW.seq fun K40 hK40 => ?_
     refine CW.region ?_
     refine RL.q (Y.build [_, _, _] rfl zero53 places53 (by rfl)) rfl ?_
     refine RL.q (Y.move rfl) rfl ?_
     refine RL.q (Y.move rfl) rfl ?_
     refine RL.storeAgg _ rfl rfl RP (by rfl) (by first | (simp; done) | simp [IdT.vals]) (by first | (simp [Value.oneCell']; done) | simp [Value.oneCell', IdT.vals]) size53 ?_
     refine RL.q (Y.assign rfl) rfl ?_
     refine RL.q (Y.assign rfl) rfl ?_
     refine RL.nil ?_
     refine hK40 _ _ _ ?_
     refine CW.kp [8, 9, 10] rfl ?_
     refine CW.ret ?_
     have e : zeroF p (n + 1) t l = (v0, (zeroF p n ((theDef p t.df).slots[k]).ty lk).2.1, (zeroF p n ((theDef p t.df).slots[k]).ty lk).2.2) := by
       rw [hnode, zJoin_err (k := k) (by simp; omega) hz (by simpa using h9)]
       simp [zNode, h9]
     refine ⟨_, _, rfl, rfl, ?_⟩
     exact CellAt.mk rfl MM (by first | rfl | assumption) agg53 (Turn.drop ⟨hs.trans hs85, rfl, _, by rw [e], by rw [e]; exact (by rw [Val.enc_eq]; exact (by repeat (first | exact RdL.nil _ | refine RdL.cons (by first | exact Rd.i _ | exact Rd.nilS | exact Rd.str _ | assumption) ?_)))⟩ SB)
    refine CW.skip ?_
    refine hK38 _ _ _ ?_
    refine CW.seq fun K41 hK41 => ?_
    refine CW.region ?_
    refine RL.q (Y.move rfl) rfl ?_
    refine RL.q (Y.assign rfl) rfl ?_
    refine RL.nil ?_
    refine hK41 _ _ _ ?_
    refine CW.kp [2, 3, 4, 8, 11, 13, 14, 15, 16] rfl ?_
    refine CW.region ?_
    refine RL.q (Y.field rfl field53_2) rfl ?_
    refine RL.q (Y.loadOwn rfl MM (by rfl) flat51) rfl ?_
    refine RL.q (Y.loadAllR rfl MM MM EL agg53) rfl ?_
    refine RL.buildSlice us85 elem51 rfl (by decide) (fill1 rfl hul85) rfl fun b98 => ?_
    refine RL.append elem51 rfl rfl PK (SrcOk.own (sz := 3) (m := 1) MM (by simp [hul85]) hr85.one) OM (by unfold lim; omega) rfl fun a99 c99 hc99 => ?_
    refine RL.q (Y.field rfl field53_2) rfl ?_
    refine RL.store _ rfl rfl RP (by rfl) (by simp) (by rfl) size51 ?_
    refine RL.nil ?_
    refine hK32 _ _ _ ?_
    refine CW.kp [2, 3, 4, 8, 11, 13, 14, 15] rfl ?_
    refine CW.region ?_
    refine RL.q (Y.move rfl) rfl ?_
    refine RL.q (Y.add rfl rfl OM) rfl ?_
    refine RL.q (Y.assign rfl) rfl ?_
    refine RL.nil ?_
    refine ⟨many - (k + 1), [(3, _), (15, _)], ?_, (KP [3, 15, 2, 4, 8, 11, 13, 14]), ?_⟩
    · omega
    · refine Turn.kn (Kn.rds (ds := dn.flatMap Val.enc) (us := us) MM) fun hrd => ?_
      refine Turn.front (x := .own b13 53 _) PK ?_
      refine Turn.front (x := .acc (.slice a99 (k + 1) c99) 53 3 (k + 1) (us ++ us85)) PK ?_
      refine Turn.addRds (hrd.append hr85) ?_
      have hlf := zeroF_left p n ((theDef p t.df).slots[k]).ty lk (Decidable.not_not.1 h9)
      exact Turn.drop ⟨[_, _, _], rfl, hs.trans hs85, k + 1, dn ++ [(zeroF p n ((theDef p t.df).slots[k]).ty lk).1], (zeroF p n ((theDef p t.df).slots[k]).ty lk).2.2, a99, c99, us ++ us85, rfl, by omega, rfl, by rw [snoc_flat] <;> rfl, hlf.1, by have := hlf.2; omega, by simp [hdn], by have := zJoin_step (k := k) (by simp; omega) hz (by simpa using h9); simpa using this⟩ SB
   refine CW.exit ?_
   refine hK28 _ _ _ ?_
   refine CW.seq fun K42 hK42 => ?_
   refine CW.region ?_
   refine RL.q (Y.loadAll rfl MM (by rfl) agg53) rfl ?_
   refine RL.q (Y.move rfl) rfl ?_
   refine RL.storeAgg _ rfl rfl RP (by rfl) (by first | (simp; done) | simp [IdT.vals]) (by first | (simp [Value.oneCell']; done) | simp [Value.oneCell', IdT.vals]) size53 ?_
   refine RL.q (Y.assign rfl) rfl ?_
   refine RL.q (Y.assign rfl) rfl ?_
   refine RL.nil ?_
   refine hK42 _ _ _ ?_
   refine CW.kp [8, 9, 10] rfl ?_
   refine CW.ret ?_
   have e : zeroF p (n + 1) t l = (.mk kd 0 dn, 0, lk) := by
     rw [hnode, zJoin_end (k := k) (by simp; omega) hz]
     simp [zNode]
   refine ⟨_, _, rfl, rfl, ?_⟩
   refine CellAt.mk rfl MM (by first | rfl | assumption) agg53 (Turn.kn (Kn.rds (ds := dn.flatMap Val.enc) (us := us) MM) fun hrd => ?_)
   exact Turn.sealAcc (Γ := Γ) (u := .slice ua k ca) PK hrd (by unfold lim; omega) SB fun M2 hs2 hr2 => ⟨hs.trans hs2, rfl, _, by rw [e], by rw [e, Val.enc_eq]; exact RdL.cons (Rd.i _) (RdL.cons (Rd.i _) (RdL.cons (by simpa [Val.kids, hdn] using hr2) (RdL.nil _)))⟩
  obtain ⟨ss, hss⟩ : ∃ ss, ss = (theDef p t.df).slots := ⟨_, rfl⟩
  obtain ⟨many, hmany⟩ : ∃ k : Nat, k = (theDef p t.df).slots.length := ⟨_, rfl⟩
  rw [← hmany]
  obtain ⟨kd, hkd⟩ : ∃ kd : Int, kd = 2 := ⟨_, rfl⟩
  rw [← hkd]
  have hml : many ≤ (theDef p t.df).slots.length := by omega
  have hnode : zeroF p (n + 1) t l = zNode kd (zeroL (zeroF p n) (((theDef p t.df).slots.take many).map SlotT.ty) (l - 1)) := by rw [zeroF, if_neg (by simp [hvt]), if_neg hl1, if_neg h3, if_neg h4, if_neg h5, if_neg h6, hkd, hmany, List.take_length]
  refine CW.skip ?_
  refine hK22 _ _ _ ?_
  refine CW.seq fun K43 hK43 => ?_
  refine CW.seq fun K44 hK44 => ?_
  have hmt : ((theDef p t.df).slots.take many).length = many := by rw [List.length_take]; omega
  refine CW.front (x := .own b13 53 [vint kd, vint 0, .slice none 0 0]) PK ?_
  refine CW.accNil 53 3 ?_
  refine CW.addRds (RdL.nil _) ?_
  refine CW.region ?_
  refine RL.q (Y.assign rfl) rfl ?_
  refine RL.nil ?_
  refine hK44 _ _ _ ?_
  refine CW.kp [2, 3, 4, 8, 11, 13, 14, 15] rfl ?_
  refine CW.block ?_
  -- LOOP 1: live [2, 3, 4, 8, 11, 13, 14, 15] changed [3, 15]
  refine CW.kp [3, 15, 2, 4, 8, 11, 13, 14] rfl ?_
  refine CW.loopF (fun m Lc M1 Γc => ∃ (k : Nat) (dn : List Val) (lk : Int) (ua : Option Addr) (ca : Nat) (us : List Value), m = many - k ∧ k ≤ many ∧ Lc = [(3, vint (256 - lk)), (15, vint k)] ∧ Γc = [.rds (dn.flatMap Val.enc) us, .acc (.slice ua k ca) 53 3 k us, .own b13 53 [vint kd, vint 0, .slice ua k ca]] ∧ 0 ≤ lk ∧ lk + k ≤ 256 ∧ dn.length = k ∧ zeroL (zeroF p n) (((theDef p t.df).slots.take many).map SlotT.ty) (l - 1) = zJoin dn (zeroL (zeroF p n) ((((theDef p t.df).slots.take many).map SlotT.ty).drop k) lk)) many [(3, _), (15, _)] [_, _, _] rfl rfl ⟨0, [], l - 1, none, 0, [], rfl, Nat.zero_le _, rfl, rfl, by omega, by omega, rfl, zJoin_nil _ _ _⟩ ?_
  rintro m Lc M1 Γc hs ⟨k, dn, lk, ua, ca, us, rfl, hk, rfl, rfl, hlk0, hlk, hdn, hz⟩
  refine CW.seq fun K45 hK45 => ?_
  refine CW.seq fun K46 hK46 => ?_
  refine CW.region ?_
  refine RL.q (Y.move rfl) rfl ?_
  refine RL.q (Y.move rfl) rfl ?_
  refine RL.q (Y.lss rfl rfl) rfl ?_
  refine RL.nil ?_
  refine hK46 _ _ _ ?_
  refine CW.kp [2, 3, 4, 8, 11, 13, 14, 15, 71] rfl ?_
  refine CW.ite rfl (fun h8 => ?_) (fun h8 => ?_)
  ·have hka : k < (theDef p t.df).slots.length := by omega
   refine CW.skip ?_
   refine hK45 _ _ _ ?_
   refine CW.seq fun K47 hK47 => ?_
   refine CW.block ?_
   refine CW.seq fun K48 hK48 => ?_
   refine CW.regionH mix _ _ (fun _ hw => hw) ?_
   refine HL.take 0 rfl KR KR KR rfl (Y.loadAllR rfl MM MM EL agg26) rfl ?_
   refine HL.take 1 rfl KR KR KR rfl (Y.field rfl field46_4) rfl ?_
   refine HL.loadOwnSl 2 rfl KR KR KR rfl rfl MM MM (by rfl) flat40 rfl fun a77 c77 hu77 hc77 hl77 => ?_
   refine HL.take 3 rfl KR KR KR rfl (Y.move rfl) rfl ?_
   refine HL.take 4 rfl KR KR KR rfl (Y.index _ rfl rfl rfl AO slice40 SM) rfl ?_
   refine HL.take 5 rfl KR KR KR rfl (Y.field rfl field66_2) rfl ?_
   refine HL.loadAgg 6 rfl KR KR KR rfl rfl MM (Eq.trans (flat_sub SlotT.enc_len _ _ _ (List.getElem?_eq_getElem AO) _ _ (Nat.le_of_ble_eq_true rfl)) (by rw [SlotT.enc_eq] <;> rfl)) (by rfl) agg31 rfl fun us81 hul81 hur81 => ?_
   refine HL.take 7 rfl KR KR KR rfl (Y.move rfl) rfl ?_
   refine HL.take 8 rfl KR KR KR rfl (Y.add rfl rfl OM) rfl ?_
   refine HL.take 9 rfl KR KR KR rfl (Y.move rfl) rfl ?_
   refine HL.step2 10 15 rfl rfl KR ?_ ?_
   ·refine RL.call rfl func58 rfl rfl (by exact ih n OM _ _ _ p usp ((theDef p t.df).slots[k]).ty _ (d + 1) lk OM OM hlk0 OM (by first | exact Kn.rds MM | exact Kn.ty MM | exact Kn.val MM | exact Kn.ex MM | exact Kn.rd MM) (by first | exact Kn.rds MM | exact Kn.ty MM | exact Kn.val MM | exact Kn.ex MM | exact Kn.rd MM)) ?_
    rintro v85 M85 _ ⟨hs85, rfl, us85, rfl, hr85⟩
    refine RL.addRds hr85 ?_
    have hul85 : us85.length = 3 := hr85.1.trans (Val.enc_len _)
    refine RL.nil ⟨keep_more (hs85) SB, ?_⟩
    refine HL.take 11 rfl KR KR KR rfl (Y.move rfl) rfl ?_
    refine HL.take 12 rfl KR KR KR rfl (Y.extract rfl rfl) rfl ?_
    refine HL.take 13 rfl KR KR KR rfl (Y.extract rfl rfl) rfl ?_
    refine HL.take 14 rfl KR KR KR rfl (Y.extract rfl rfl) rfl ?_
    refine HL.step 15 rfl KR ?_
    refine RL.alloc _ zero53 rfl rfl fun b16 => ?_
    refine RL.nil ⟨keep_more (hs85) SB, ?_⟩
    refine HL.step 16 rfl KR ?_
    refine RL.storeRds 3 rfl rfl RP MM EL (by first | exact Kn.lenRds MM EL | exact Kn.lenLit rfl) size53 ?_
    refine RL.nil ⟨keep_more (hs85) SB, ?_⟩
    refine HL.take 17 rfl KR KR KR rfl (Y.assign rfl) rfl ?_
    refine HL.take 18 rfl KR KR KR rfl (Y.assign rfl) rfl ?_
    refine HL.done KR ?_
    refine hK48 _ _ _ ?_
    refine CW.kp [2, 4, 8, 11, 13, 14, 15, 16, 17, 18] rfl ?_
    refine CW.seq fun K49 hK49 => ?_
    refine CW.seq fun K50 hK50 => ?_
    refine CW.region ?_
    refine RL.q (Y.move rfl) rfl ?_
    refine RL.q (Y.neq rfl rfl) rfl ?_
    refine RL.nil ?_
    refine hK50 _ _ _ ?_
    refine CW.kp [2, 4, 8, 11, 13, 14, 15, 16, 17, 18, 90] rfl ?_
    refine CW.ite rfl (fun h9 => ?_) (fun h9 => ?_)
    ·refine CW.seq fun K51 hK51 => ?_
     refine CW.region ?_
     refine RL.q (Y.build [_, _, _] rfl zero53 places53 (by rfl)) rfl ?_
     refine RL.q (Y.move rfl) rfl ?_
     refine RL.q (Y.move rfl) rfl ?_
     refine RL.storeAgg _ rfl rfl RP (by rfl) (by first | (simp; done) | simp [IdT.vals]) (by first | (simp [Value.oneCell']; done) | simp [Value.oneCell', IdT.vals]) size53 ?_
     refine RL.q (Y.assign rfl) rfl ?_
     refine RL.q (Y.assign rfl) rfl ?_
     refine RL.nil ?_
     refine hK51 _ _ _ ?_
     refine CW.kp [8, 9, 10] rfl ?_
     refine CW.ret ?_
     have e : zeroF p (n + 1) t l = (v0, (zeroF p n ((theDef p t.df).slots[k]).ty lk).2.1, (zeroF p n ((theDef p t.df).slots[k]).ty lk).2.2) := by
       rw [hnode, zJoin_err (k := k) (by simp; omega) hz (by simpa using h9)]
       simp [zNode, h9]
     refine ⟨_, _, rfl, rfl, ?_⟩
     exact CellAt.mk rfl MM (by first | rfl | assumption) agg53 (Turn.drop ⟨hs.trans hs85, rfl, _, by rw [e], by rw [e]; exact (by rw [Val.enc_eq]; exact (by repeat (first | exact RdL.nil _ | refine RdL.cons (by first | exact Rd.i _ | exact Rd.nilS | exact Rd.str _ | assumption) ?_)))⟩ SB)
    refine CW.skip ?_
    refine hK49 _ _ _ ?_
    refine CW.seq fun K52 hK52 => ?_
    refine CW.region ?_
    refine RL.q (Y.move rfl) rfl ?_
    refine RL.q (Y.assign rfl) rfl ?_
    refine RL.nil ?_
    refine hK52 _ _ _ ?_
    refine CW.kp [2, 3, 4, 8, 11, 13, 14, 15, 16] rfl ?_
    refine CW.region ?_
    refine RL.q (Y.field rfl field53_2) rfl ?_
    refine RL.q (Y.loadOwn rfl MM (by rfl) flat51) rfl ?_
    refine RL.q (Y.loadAllR rfl MM MM EL agg53) rfl ?_
    refine RL.buildSlice us85 elem51 rfl (by decide) (fill1 rfl hul85) rfl fun b98 => ?_
    refine RL.append elem51 rfl rfl PK (SrcOk.own (sz := 3) (m := 1) MM (by simp [hul85]) hr85.one) OM (by unfold lim; omega) rfl fun a99 c99 hc99 => ?_
    refine RL.q (Y.field rfl field53_2) rfl ?_
    refine RL.store _ rfl rfl RP (by rfl) (by simp) (by rfl) size51 ?_
    refine RL.nil ?_
    refine hK47 _ _ _ ?_
    refine CW.kp [2, 3, 4, 8, 11, 13, 14, 15] rfl ?_
    refine CW.region ?_
    refine RL.q (Y.move rfl) rfl ?_
    refine RL.q (Y.add rfl rfl OM) rfl ?_
    refine RL.q (Y.assign rfl) rfl ?_
    refine RL.nil ?_
    refine ⟨many - (k + 1), [(3, _), (15, _)], ?_, (KP [3, 15, 2, 4, 8, 11, 13, 14]), ?_⟩
    · omega
    · refine Turn.kn (Kn.rds (ds := dn.flatMap Val.enc) (us := us) MM) fun hrd => ?_
      refine Turn.front (x := .own b13 53 _) PK ?_
      refine Turn.front (x := .acc (.slice a99 (k + 1) c99) 53 3 (k + 1) (us ++ us85)) PK ?_
      refine Turn.addRds (hrd.append hr85) ?_
      have hlf := zeroF_left p n ((theDef p t.df).slots[k]).ty lk (Decidable.not_not.1 h9)
      exact Turn.drop ⟨[_, _, _], rfl, hs.trans hs85, k + 1, dn ++ [(zeroF p n ((theDef p t.df).slots[k]).ty lk).1], (zeroF p n ((theDef p t.df).slots[k]).ty lk).2.2, a99, c99, us ++ us85, rfl, by omega, rfl, by rw [snoc_flat] <;> rfl, hlf.1, by have := hlf.2; omega, by simp [hdn], by have := zJoin_step (k := k) (by simp; omega) hz (by simpa using h9); simpa using this⟩ SB
   refine RL.alloc _ zero53 rfl rfl fun b16 => ?_
   refine RL.nil ⟨keep_same SB, ?_⟩
   refine HL.step 10 rfl KR ?_
   refine RL.call rfl func58 rfl rfl (by exact ih n OM _ _ _ p usp ((theDef p t.df).slots[k]).ty _ (d + 1) lk OM OM hlk0 OM (by first | exact Kn.rds MM | exact Kn.ty MM | exact Kn.val MM | exact Kn.ex MM | exact Kn.rd MM) (by first | exact Kn.rds MM | exact Kn.ty MM | exact Kn.val MM | exact Kn.ex MM | exact Kn.rd MM)) ?_
   rintro v85 M85 _ ⟨hs85, rfl, us85, rfl, hr85⟩
   refine RL.addRds hr85 ?_
   have hul85 : us85.length = 3 := hr85.1.trans (Val.enc_len _)
   refine RL.nil ⟨keep_more (hs85) SB, ?_⟩
   refine HL.take 11 rfl KR KR KR rfl (Y.move rfl) rfl ?_
   refine HL.take 12 rfl KR KR KR rfl (Y.extract rfl rfl) rfl ?_
   refine HL.take 13 rfl KR KR KR rfl (Y.extract rfl rfl) rfl ?_
   refine HL.take 14 rfl KR KR KR rfl (Y.extract rfl rfl) rfl ?_
   refine HL.step 16 rfl KR ?_
   refine RL.storeRds 3 rfl rfl RP MM EL (by first | exact Kn.lenRds MM EL | exact Kn.lenLit rfl) size53 ?_
   refine RL.nil ⟨keep_more (hs85) SB, ?_⟩
   refine HL.take 17 rfl KR KR KR rfl (Y.assign rfl) rfl ?_
   refine HL.take 18 rfl KR KR KR rfl (Y.assign rfl) rfl ?_
   refine HL.done KR ?_
   refine hK48 _ _ _ ?_
   refine CW.kp [2, 4, 8, 11, 13, 14, 15, 16, 17, 18] rfl ?_
   refine CW.seq fun K53 hK53 => ?_
   refine CW.seq fun K54 hK54 => ?_
   refine CW.region ?_
   refine RL.q (Y.move rfl) rfl ?_
   refine RL.q (Y.neq rfl rfl) rfl ?_
   refine RL.nil ?_
   refine hK54 _ _ _ ?_
   refine CW.kp [2, 4, 8, 11, 13, 14, 15, 16, 17, 18, 90] rfl ?_
   refine CW.ite rfl (fun h9 => ?_) (fun h9 => ?_)
   ·refine CW.seq fun K55 hK55 => ?_
    refine CW.region ?_
    refine RL.q (Y.build [_, _, _] rfl zero53 places53 (by rfl)) rfl ?_
    refine RL.q (Y.move rfl) rfl ?_
    refine RL.q (Y.move rfl) rfl ?_
    refine RL.storeAgg _ rfl rfl RP (by rfl) (by first | (simp; done) | simp [IdT.vals]) (by first | (simp [Value.oneCell']; done) | simp [Value.oneCell', IdT.vals]) size53 ?_
    refine RL.q (Y.assign rfl) rfl ?_
    refine RL.q (Y.assign rfl) rfl ?_
    refine RL.nil ?_
    refine hK55 _ _ _ ?_
    refine CW.kp [8, 9, 10] rfl ?_
    refine CW.ret ?_
    have e : zeroF p (n + 1) t l = (v0, (zeroF p n ((theDef p t.df).slots[k]).ty lk).2.1, (zeroF p n ((theDef p t.df).slots[k]).ty lk).2.2) := by
      rw [hnode, zJoin_err (k := k) (by simp; omega) hz (by simpa using h9)]
      simp [zNode, h9]
    refine ⟨_, _, rfl, rfl, ?_⟩
    exact CellAt.mk rfl MM (by first | rfl | assumption) agg53 (Turn.drop ⟨hs.trans hs85, rfl, _, by rw [e], by rw [e]; exact (by rw [Val.enc_eq]; exact (by repeat (first | exact RdL.nil _ | refine RdL.cons (by first | exact Rd.i _ | exact Rd.nilS | exact Rd.str _ | assumption) ?_)))⟩ SB)
   refine CW.skip ?_
   refine hK53 _ _ _ ?_
   refine CW.seq fun K56 hK56 => ?_
   refine CW.region ?_
   refine RL.q (Y.move rfl) rfl ?_
   refine RL.q (Y.assign rfl) rfl ?_
   refine RL.nil ?_
   refine hK56 _ _ _ ?_
   refine CW.kp [2, 3, 4, 8, 11, 13, 14, 15, 16] rfl ?_
   refine CW.region ?_
   refine RL.q (Y.field rfl field53_2) rfl ?_
   refine RL.q (Y.loadOwn rfl MM (by rfl) flat51) rfl ?_
   refine RL.q (Y.loadAllR rfl MM MM EL agg53) rfl ?_
   refine RL.buildSlice us85 elem51 rfl (by decide) (fill1 rfl hul85) rfl fun b98 => ?_
   refine RL.append elem51 rfl rfl PK (SrcOk.own (sz := 3) (m := 1) MM (by simp [hul85]) hr85.one) OM (by unfold lim; omega) rfl fun a99 c99 hc99 => ?_
   refine RL.q (Y.field rfl field53_2) rfl ?_
   refine RL.store _ rfl rfl RP (by rfl) (by simp) (by rfl) size51 ?_
   refine RL.nil ?_
   refine hK47 _ _ _ ?_
   refine CW.kp [2, 3, 4, 8, 11, 13, 14, 15] rfl ?_
   refine CW.region ?_
   refine RL.q (Y.move rfl) rfl ?_
   refine RL.q (Y.add rfl rfl OM) rfl ?_
   refine RL.q (Y.assign rfl) rfl ?_
   refine RL.nil ?_
   refine ⟨many - (k + 1), [(3, _), (15, _)], ?_, (KP [3, 15, 2, 4, 8, 11, 13, 14]), ?_⟩
   · omega
   · refine Turn.kn (Kn.rds (ds := dn.flatMap Val.enc) (us := us) MM) fun hrd => ?_
     refine Turn.front (x := .own b13 53 _) PK ?_
     refine Turn.front (x := .acc (.slice a99 (k + 1) c99) 53 3 (k + 1) (us ++ us85)) PK ?_
     refine Turn.addRds (hrd.append hr85) ?_
     have hlf := zeroF_left p n ((theDef p t.df).slots[k]).ty lk (Decidable.not_not.1 h9)
     exact Turn.drop ⟨[_, _, _], rfl, hs.trans hs85, k + 1, dn ++ [(zeroF p n ((theDef p t.df).slots[k]).ty lk).1], (zeroF p n ((theDef p t.df).slots[k]).ty lk).2.2, a99, c99, us ++ us85, rfl, by omega, rfl, by rw [snoc_flat] <;> rfl, hlf.1, by have := hlf.2; omega, by simp [hdn], by have := zJoin_step (k := k) (by simp; omega) hz (by simpa using h9); simpa using this⟩ SB
  refine CW.exit ?_
  refine hK43 _ _ _ ?_
  refine CW.seq fun K57 hK57 => ?_
  refine CW.region ?_
  refine RL.q (Y.loadAll rfl MM (by rfl) agg53) rfl ?_
  refine RL.q (Y.move rfl) rfl ?_
  refine RL.storeAgg _ rfl rfl RP (by rfl) (by first | (simp; done) | simp [IdT.vals]) (by first | (simp [Value.oneCell']; done) | simp [Value.oneCell', IdT.vals]) size53 ?_
  refine RL.q (Y.assign rfl) rfl ?_
  refine RL.q (Y.assign rfl) rfl ?_
  refine RL.nil ?_
  refine hK57 _ _ _ ?_
  refine CW.kp [8, 9, 10] rfl ?_
  refine CW.ret ?_
  have e : zeroF p (n + 1) t l = (.mk kd 0 dn, 0, lk) := by
    rw [hnode, zJoin_end (k := k) (by simp; omega) hz]
    simp [zNode]
  refine ⟨_, _, rfl, rfl, ?_⟩
  refine CellAt.mk rfl MM (by first | rfl | assumption) agg53 (Turn.kn (Kn.rds (ds := dn.flatMap Val.enc) (us := us) MM) fun hrd => ?_)
  exact Turn.sealAcc (Γ := Γ) (u := .slice ua k ca) PK hrd (by unfold lim; omega) SB fun M2 hs2 hr2 => ⟨hs.trans hs2, rfl, _, by rw [e], by rw [e, Val.enc_eq]; exact RdL.cons (Rd.i _) (RdL.cons (Rd.i _) (RdL.cons (by simpa [Val.kids, hdn] using hr2) (RdL.nil _)))⟩

theorem rzero1_ok (w0 : World) (M : Mem) (Γ : List As) (p : ProgT) (usp : List Value) (t : Ty) (ust : List Value) (hp : Kn w0 M Γ (RdL M p.enc usp)) (ht : Kn w0 M Γ (RdL M t.enc ust)) :
    CallOk Try.prog w0 M Γ 58 #[.agg usp.toArray, .agg ust.toArray, vint 1, vint 0] (Gives M Γ fun M' v => ∃ us, v = .tuple #[.agg us.toArray, vint (256 - (zeroV p t).2.2), vint (zeroV p t).2.1] ∧ RdL M' (zeroV p t).1.enc us) := rzeroF_ok 24 w0 M Γ p usp t ust 1 256 rfl OM OM OM hp ht

theorem rzero_ok (w0 : World) (M : Mem) (Γ : List As) (p : ProgT) (usp : List Value) (t : Ty) (ust : List Value)  (hp : Kn w0 M Γ (RdL M p.enc usp)) (ht : Kn w0 M Γ (RdL M t.enc ust))  :
    CallOk Try.prog w0 M Γ 34 #[.agg usp.toArray, .agg ust.toArray] (Gives M Γ fun M' v => ∃ us, v = .tuple #[.agg us.toArray, vint (zeroV p t).2.1] ∧ RdL M' (if (zeroV p t).2.1 ≠ 0 then v0 else (zeroV p t).1).enc us) := by
  refine CallOk.kn hp fun hp => ?_
  rw [ProgT.enc_eq] at hp
  refine CallOk.kn ht fun ht => ?_
  rw [Ty.enc_eq] at ht
  refine enterCell2 (f := 34) Try.func34 rfl Try.ntmps34 rfl rfl fun w1 hw1 => ?_
  refine CW.addRds hp ?_
  refine CW.addRds ht ?_
  refine CW.seq fun K1 hK1 => ?_
  refine CW.region ?_
  refine RL.box _ rfl rfl rfl fun b2 => ?_
  refine RL.box _ rfl rfl rfl fun b3 => ?_
  refine RL.alloc _ zero53 rfl rfl fun b4 => ?_
  refine RL.q (Y.assign rfl) rfl ?_
  refine RL.nil ?_
  refine hK1 _ _ _ ?_
  refine CW.kp [2, 3, 4] rfl ?_
  refine CW.seq fun K2 hK2 => ?_
  refine CW.region ?_
  refine RL.q (Y.loadAllR rfl MM MM EL agg26) rfl ?_
  refine RL.q (Y.loadAllR rfl MM MM EL agg31) rfl ?_
  refine RL.call rfl func58 rfl rfl (by exact rzero1_ok _ _ _ _ _ _ _ KK KK) ?_
  rintro v12 M12 _ ⟨hs12, rfl, us12, rfl, hr12⟩
  refine RL.addRds hr12 ?_
  refine RL.q (Y.move rfl) rfl ?_
  refine RL.q (Y.extract rfl rfl) rfl ?_
  refine RL.q (Y.extract rfl rfl) rfl ?_
  refine RL.q (Y.extract rfl rfl) rfl ?_
  refine RL.alloc _ zero53 rfl rfl fun b6 => ?_
  refine RL.storeRds 3 rfl rfl RP MM EL (by first | exact Kn.lenRds MM EL | exact Kn.lenLit rfl) size53 ?_
  refine RL.q (Y.assign rfl) rfl ?_
  refine RL.q (Y.assign rfl) rfl ?_
  refine RL.nil ?_
  refine hK2 _ _ _ ?_
  refine CW.kp [4, 6, 8] rfl ?_
  refine CW.seq fun K3 hK3 => ?_
  refine CW.seq fun K4 hK4 => ?_
  refine CW.region ?_
  refine RL.q (Y.move rfl) rfl ?_
  refine RL.q (Y.neq rfl rfl) rfl ?_
  refine RL.nil ?_
  refine hK4 _ _ _ ?_
  refine CW.kp [4, 6, 8, 17] rfl ?_
  refine CW.ite rfl (fun h1 => ?_) (fun h1 => ?_)
  ·refine CW.seq fun K5 hK5 => ?_
   refine CW.region ?_
   refine RL.q (Y.build [_, _, _] rfl zero53 places53 (by rfl)) rfl ?_
   refine RL.q (Y.move rfl) rfl ?_
   refine RL.storeAgg _ rfl rfl RP (by rfl) (by first | (simp; done) | simp [IdT.vals]) (by first | (simp [Value.oneCell']; done) | simp [Value.oneCell', IdT.vals]) size53 ?_
   refine RL.q (Y.assign rfl) rfl ?_
   refine RL.nil ?_
   refine hK5 _ _ _ ?_
   refine CW.kp [4, 5] rfl ?_
   refine CW.ret ?_
   refine ⟨_, rfl, ?_⟩
   exact CellAt.mk rfl MM (by first | rfl | assumption) agg53 (Turn.drop ⟨hs12, rfl, _, rfl, by rw [if_pos h1]; exact (by rw [Val.enc_eq]; exact (by repeat (first | exact RdL.nil _ | refine RdL.cons (by first | exact Rd.i _ | exact Rd.nilS | exact Rd.str _ | assumption) ?_)))⟩ SB)
  refine CW.skip ?_
  refine hK3 _ _ _ ?_
  refine CW.seq fun K6 hK6 => ?_
  refine CW.region ?_
  refine RL.q (Y.loadAllR rfl MM MM EL agg53) rfl ?_
  refine RL.storeRds 3 rfl rfl RP MM EL (by first | exact Kn.lenRds MM EL | exact Kn.lenLit rfl) size53 ?_
  refine RL.q (Y.assign rfl) rfl ?_
  refine RL.nil ?_
  refine hK6 _ _ _ ?_
  refine CW.kp [4, 5] rfl ?_
  refine CW.ret ?_
  have hul12 : us12.length = 3 := hr12.1.trans (Val.enc_len _)
  refine ⟨_, rfl, ?_⟩
  exact CellAt.mk rfl MM (by first | rfl | assumption) agg53 (Turn.drop ⟨hs12, rfl, _, by rw [show (zeroV p t).2.1 = 0 from Decidable.not_not.1 h1], by rw [if_neg h1]; exact hr12⟩ SB)
end Go.Proofs.Ytfgkhhfkodlbpaa
