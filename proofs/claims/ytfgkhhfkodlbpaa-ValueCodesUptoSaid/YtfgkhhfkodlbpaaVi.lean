/- THE WALKS, 9: zero values, by the program. Printed by m04i.py. -/
import Derived.Test.YtfgkhhfkodlbpaaVh
namespace Go.Proofs.Ytfgkhhfkodlbpaa
open Xe

theorem zero1_ok (n : Nat) : ∀ (w0 : World) (M : Mem) (Γ : List As) (p : ProgT) (usp : List Value) (t : Ty) (ust : List Value) (d : Nat) (l : Int) (bl bf bp : Nat), d + n = 25 → 1 ≤ d → 0 ≤ l → l ≤ 256 → Kn w0 M (.own bl 3 [vint l] :: .own bf 92 [(.func (.func 57) #[] #[.pointer (some (adr (some ⟨bp, 0, none⟩) 0)), .pointer (some (adr (some ⟨bl, 0, none⟩) 0)), .pointer (some (adr (some ⟨bf, 0, none⟩) 0))])] :: .own bp 26 usp :: Γ) (RdL M p.enc usp) → Kn w0 M (.own bl 3 [vint l] :: .own bf 92 [(.func (.func 57) #[] #[.pointer (some (adr (some ⟨bp, 0, none⟩) 0)), .pointer (some (adr (some ⟨bl, 0, none⟩) 0)), .pointer (some (adr (some ⟨bf, 0, none⟩) 0))])] :: .own bp 26 usp :: Γ) (RdL M t.enc ust) →
    CallOk Try.prog w0 M (.own bl 3 [vint l] :: .own bf 92 [(.func (.func 57) #[] #[.pointer (some (adr (some ⟨bp, 0, none⟩) 0)), .pointer (some (adr (some ⟨bl, 0, none⟩) 0)), .pointer (some (adr (some ⟨bf, 0, none⟩) 0))])] :: .own bp 26 usp :: Γ) 57 #[.agg ust.toArray, vint d, .pointer (some (adr (some ⟨bp, 0, none⟩) 0)), .pointer (some (adr (some ⟨bl, 0, none⟩) 0)), .pointer (some (adr (some ⟨bf, 0, none⟩) 0))]
      (fun u M' Γ' => Sub M M' ∧ Γ' = .own bl 3 [vint (zeroF p n t l).2.2] :: .own bf 92 [(.func (.func 57) #[] #[.pointer (some (adr (some ⟨bp, 0, none⟩) 0)), .pointer (some (adr (some ⟨bl, 0, none⟩) 0)), .pointer (some (adr (some ⟨bf, 0, none⟩) 0))])] :: .own bp 26 usp :: Γ ∧ ∃ us, u = .tuple #[.agg us.toArray, vint (zeroF p n t l).2.1] ∧ RdL M' (zeroF p n t l).1.enc us) := by
  induction n using Nat.strongRecOn
  rename_i n ih
  intro w0 M Γ p usp t ust d l bl bf bp hd hd1 hl0 hl hp ht
  refine CallOk.kn hp fun hp => ?_
  refine CallOk.kn ht fun ht => ?_
  rw [ProgT.enc_eq] at hp
  rw [Ty.enc_eq] at ht
  refine enterCell2 (f := 57) Try.func57 rfl Try.ntmps57 rfl rfl fun w1 hw1 => ?_
  refine CW.addRds hp ?_
  refine CW.addRds ht ?_
  refine CW.seq fun K1 hK1 => ?_
  refine CW.region ?_
  refine RL.box _ rfl rfl rfl fun b5 => ?_
  refine RL.alloc _ zero53 rfl rfl fun b7 => ?_
  refine RL.q (Y.assign rfl) rfl ?_
  refine RL.nil ?_
  refine hK1 _ _ _ ?_
  refine CW.kp [1, 2, 3, 4, 5, 7] rfl ?_
  refine CW.seq fun K2 hK2 => ?_
  refine CW.seq fun K3 hK3 => ?_
  refine CW.region ?_
  refine RL.q (Y.loadAllR rfl MM MM EL agg26) rfl ?_
  refine RL.q (Y.loadAllR rfl MM MM EL agg31) rfl ?_
  refine RL.callv rfl func15 rfl rfl (by exact validType_ok _ _ _ _ _ _ _ KK KK) ?_
  refine RL.q (Y.notD rfl) rfl ?_
  refine RL.nil ?_
  refine hK3 _ _ _ ?_
  refine CW.kp [1, 2, 3, 4, 5, 7, 20] rfl ?_
  refine CW.ite rfl (fun h1 => ?_) (fun h1 => ?_)
  ·refine CW.seq fun K4 hK4 => ?_
   refine CW.region ?_
   refine RL.q (Y.build [_, _, _] rfl zero53 places53 (by rfl)) rfl ?_
   refine RL.storeAgg _ rfl rfl RP (by rfl) (by first | (simp; done) | simp [IdT.vals]) (by first | (simp [Value.oneCell']; done) | simp [Value.oneCell', IdT.vals]) size53 ?_
   refine RL.q (Y.assign rfl) rfl ?_
   refine RL.nil ?_
   refine hK4 _ _ _ ?_
   refine CW.kp [7, 8] rfl ?_
   refine CW.ret ?_
   refine ⟨_, rfl, ?_⟩
   exact CellAt.mk rfl MM (by first | rfl | assumption) agg53 (Turn.drop ⟨Sub.refl _, by rw [zeroF_arg h1], _, by rw [zeroF_arg h1], by rw [zeroF_arg h1]; exact (by rw [Val.enc_eq]; exact (by repeat (first | exact RdL.nil _ | refine RdL.cons (by first | exact Rd.i _ | exact Rd.nilS | exact Rd.str _ | assumption) ?_)))⟩ SB)
  have hvt : validT p t := Decidable.not_not.1 h1
  refine CW.skip ?_
  refine hK2 _ _ _ ?_
  refine CW.seq fun K5 hK5 => ?_
  refine CW.seq fun K6 hK6 => ?_
  refine CW.region ?_
  refine RL.q (Y.loadOwn rfl MM (by rfl) flat3) rfl ?_
  refine RL.q (Y.sub rfl rfl OM) rfl ?_
  refine RL.store _ rfl rfl RP (by rfl) (by simp) (by rfl) size3 ?_
  refine RL.nil ?_
  refine hK6 _ _ _ ?_
  refine CW.kp [1, 2, 3, 4, 5, 7] rfl ?_
  refine CW.seq fun K7 hK7 => ?_
  refine CW.region ?_
  refine RL.q (Y.loadOwn rfl MM (by rfl) flat3) rfl ?_
  refine RL.qs (Y.lss rfl rfl) rfl (fun g25 => ?_) (fun g25 => ?_)
  ·refine RL.q (Y.move rfl) rfl ?_
   refine RL.no WG rfl ?_
   refine RL.no WG rfl ?_
   refine RL.q (Y.pickT rfl rfl) rfl ?_
   refine RL.nil ?_
   refine hK7 _ _ _ ?_
   refine CW.kp [1, 2, 4, 5, 7, 29] rfl ?_
   refine CW.yes rfl ?_
   refine CW.seq fun K8 hK8 => ?_
   refine CW.region ?_
   refine RL.q (Y.build [_, _, _] rfl zero53 places53 (by rfl)) rfl ?_
   refine RL.storeAgg _ rfl rfl RP (by rfl) (by first | (simp; done) | simp [IdT.vals]) (by first | (simp [Value.oneCell']; done) | simp [Value.oneCell', IdT.vals]) size53 ?_
   refine RL.q (Y.assign rfl) rfl ?_
   refine RL.nil ?_
   refine hK8 _ _ _ ?_
   refine CW.kp [7, 8] rfl ?_
   refine CW.ret ?_
   refine ⟨_, rfl, ?_⟩
   exact CellAt.mk rfl MM (by first | rfl | assumption) agg53 (Turn.drop ⟨Sub.refl _, by rw [zeroF_lim hvt OM], _, by rw [zeroF_lim hvt OM], by rw [zeroF_lim hvt OM]; exact (by rw [Val.enc_eq]; exact (by repeat (first | exact RdL.nil _ | refine RdL.cons (by first | exact Rd.i _ | exact Rd.nilS | exact Rd.str _ | assumption) ?_)))⟩ SB)
  refine RL.q (Y.move rfl) rfl ?_
  refine RL.qg WG (Y.move rfl) rfl ?_
  refine RL.qg WG (Y.gtr rfl rfl) rfl ?_
  refine RL.q (Y.pickF rfl rfl) rfl ?_
  refine RL.nil ?_
  refine hK7 _ _ _ ?_
  refine CW.kp [1, 2, 4, 5, 7, 29] rfl ?_
  refine CW.ite rfl (fun h2 => ?_) (fun h2 => ?_)
  ·refine CW.seq fun K9 hK9 => ?_
   refine CW.region ?_
   refine RL.q (Y.build [_, _, _] rfl zero53 places53 (by rfl)) rfl ?_
   refine RL.storeAgg _ rfl rfl RP (by rfl) (by first | (simp; done) | simp [IdT.vals]) (by first | (simp [Value.oneCell']; done) | simp [Value.oneCell', IdT.vals]) size53 ?_
   refine RL.q (Y.assign rfl) rfl ?_
   refine RL.nil ?_
   refine hK9 _ _ _ ?_
   refine CW.kp [7, 8] rfl ?_
   refine CW.ret ?_
   refine ⟨_, rfl, ?_⟩
   exact CellAt.mk rfl MM (by first | rfl | assumption) agg53 (Turn.drop ⟨Sub.refl _, by rw [zeroF_lim hvt OM], _, by rw [zeroF_lim hvt OM], by rw [zeroF_lim hvt OM]; exact (by rw [Val.enc_eq]; exact (by repeat (first | exact RdL.nil _ | refine RdL.cons (by first | exact Rd.i _ | exact Rd.nilS | exact Rd.str _ | assumption) ?_)))⟩ SB)
  obtain ⟨n, rfl⟩ : ∃ m, n = m + 1 := ⟨n - 1, by omega⟩
  have hl1 : ¬ l - 1 < 0 := by omega
  refine CW.skip ?_
  refine hK5 _ _ _ ?_
  refine CW.seq fun K10 hK10 => ?_
  refine CW.seq fun K11 hK11 => ?_
  refine CW.region ?_
  refine RL.q (Y.field rfl field31_0) rfl ?_
  refine RL.q (Y.loadOwnV rfl MM MM (by rfl) flat3) rfl ?_
  refine RL.nil ?_
  refine hK11 _ _ _ ?_
  refine CW.kp [1, 2, 4, 5, 7, 32] rfl ?_
  refine CW.block ?_
  refine CW.seq fun K12 hK12 => ?_
  refine CW.region ?_
  refine RL.q (Y.eql rfl rfl) rfl ?_
  refine RL.q (Y.assign rfl) rfl ?_
  refine RL.nil ?_
  refine hK12 _ _ _ ?_
  refine CW.kp [1, 2, 4, 5, 7, 32, 33] rfl ?_
  refine CW.ite rfl (fun h3 => ?_) (fun h3 => ?_)
  ·refine CW.seq fun K13 hK13 => ?_
   refine CW.region ?_
   refine RL.q (Y.build [_, _, _] rfl zero53 places53 (by rfl)) rfl ?_
   refine RL.storeAgg _ rfl rfl RP (by rfl) (by first | (simp; done) | simp [IdT.vals]) (by first | (simp [Value.oneCell']; done) | simp [Value.oneCell', IdT.vals]) size53 ?_
   refine RL.q (Y.assign rfl) rfl ?_
   refine RL.nil ?_
   refine hK13 _ _ _ ?_
   refine CW.kp [7, 8] rfl ?_
   refine CW.ret ?_
   have e : zeroF p (n + 1) t l = (.mk 0 0 [], 0, l - 1) := by rw [zeroF, if_neg (by simp [hvt]), if_neg hl1, if_pos h3]
   refine ⟨_, rfl, ?_⟩
   exact CellAt.mk rfl MM (by first | rfl | assumption) agg53 (Turn.drop ⟨Sub.refl _, by rw [e], _, by rw [e], by rw [e]; exact (by rw [Val.enc_eq]; exact (by repeat (first | exact RdL.nil _ | refine RdL.cons (by first | exact Rd.i _ | exact Rd.nilS | exact Rd.str _ | assumption) ?_)))⟩ SB)
  refine CW.seq fun K14 hK14 => ?_
  refine CW.region ?_
  refine RL.q (Y.eql rfl rfl) rfl ?_
  refine RL.q (Y.assign rfl) rfl ?_
  refine RL.nil ?_
  refine hK14 _ _ _ ?_
  refine CW.kp [1, 2, 4, 5, 7, 32, 36] rfl ?_
  refine CW.ite rfl (fun h4 => ?_) (fun h4 => ?_)
  ·refine CW.seq fun K15 hK15 => ?_
   refine CW.region ?_
   refine RL.q (Y.build [_, _, _] rfl zero53 places53 (by rfl)) rfl ?_
   refine RL.storeAgg _ rfl rfl RP (by rfl) (by first | (simp; done) | simp [IdT.vals]) (by first | (simp [Value.oneCell']; done) | simp [Value.oneCell', IdT.vals]) size53 ?_
   refine RL.q (Y.assign rfl) rfl ?_
   refine RL.nil ?_
   refine hK15 _ _ _ ?_
   refine CW.kp [7, 8] rfl ?_
   refine CW.ret ?_
   have e : zeroF p (n + 1) t l = (.mk 1 0 [], 0, l - 1) := by rw [zeroF, if_neg (by simp [hvt]), if_neg hl1, if_neg h3, if_pos h4]
   refine ⟨_, rfl, ?_⟩
   exact CellAt.mk rfl MM (by first | rfl | assumption) agg53 (Turn.drop ⟨Sub.refl _, by rw [e], _, by rw [e], by rw [e]; exact (by rw [Val.enc_eq]; exact (by repeat (first | exact RdL.nil _ | refine RdL.cons (by first | exact Rd.i _ | exact Rd.nilS | exact Rd.str _ | assumption) ?_)))⟩ SB)
  refine CW.seq fun K16 hK16 => ?_
  refine CW.region ?_
  refine RL.q (Y.eql rfl rfl) rfl ?_
  refine RL.q (Y.assign rfl) rfl ?_
  refine RL.nil ?_
  refine hK16 _ _ _ ?_
  refine CW.kp [1, 2, 4, 5, 7, 39] rfl ?_
  refine CW.ite rfl (fun h5 => ?_) (fun h5 => ?_)
  ·refine CW.seq fun K17 hK17 => ?_
   refine CW.region ?_
   refine RL.q (Y.build [_, _, _] rfl zero53 places53 (by rfl)) rfl ?_
   refine RL.storeAgg _ rfl rfl RP (by rfl) (by first | (simp; done) | simp [IdT.vals]) (by first | (simp [Value.oneCell']; done) | simp [Value.oneCell', IdT.vals]) size53 ?_
   refine RL.q (Y.assign rfl) rfl ?_
   refine RL.nil ?_
   refine hK17 _ _ _ ?_
   refine CW.kp [7, 8] rfl ?_
   refine CW.ret ?_
   have e : zeroF p (n + 1) t l = (.mk 4 0 [], 0, l - 1) := by rw [zeroF, if_neg (by simp [hvt]), if_neg hl1, if_neg h3, if_neg h4, if_pos h5]
   refine ⟨_, rfl, ?_⟩
   exact CellAt.mk rfl MM (by first | rfl | assumption) agg53 (Turn.drop ⟨Sub.refl _, by rw [e], _, by rw [e], by rw [e]; exact (by rw [Val.enc_eq]; exact (by repeat (first | exact RdL.nil _ | refine RdL.cons (by first | exact Rd.i _ | exact Rd.nilS | exact Rd.str _ | assumption) ?_)))⟩ SB)
  refine CW.skip ?_
  refine hK10 _ _ _ ?_
  refine CW.seq fun K18 hK18 => ?_
  refine CW.region ?_
  refine RL.q (Y.loadAllR rfl MM MM EL agg26) rfl ?_
  refine RL.q (Y.field rfl field31_1) rfl ?_
  refine RL.q (Y.loadAggV [_, _, _] rfl MM MM (by rfl) agg28) rfl ?_
  refine RL.call rfl func19 rfl rfl (by exact def_ok _ _ _ _ _ _ KK) ?_
  rintro v46 M _ ⟨rfl, rfl, us46, rfl, hr46⟩
  refine RL.addRds hr46 ?_
  refine RL.q (Y.move rfl) rfl ?_
  refine RL.q (Y.extract rfl rfl) rfl ?_
  refine RL.q (Y.extract rfl rfl) rfl ?_
  refine RL.alloc _ zero46 rfl rfl fun b9 => ?_
  refine RL.storeRds 31 rfl rfl RP MM EL (by first | exact Kn.lenRds MM EL | exact Kn.lenLit rfl) size46 ?_
  refine RL.q (Y.assign rfl) rfl ?_
  refine RL.nil ?_
  refine hK18 _ _ _ ?_
  refine CW.kp [1, 4, 7, 9] rfl ?_
  refine CW.seq fun K19 hK19 => ?_
  refine CW.region ?_
  refine RL.q (Y.build [_, _, _] rfl zero53 places53 (by rfl)) rfl ?_
  refine RL.alloc _ zero53 rfl rfl fun b11 => ?_
  refine RL.storeAgg _ rfl rfl RP (by rfl) (by first | (simp; done) | simp [IdT.vals]) (by first | (simp [Value.oneCell']; done) | simp [Value.oneCell', IdT.vals]) size53 ?_
  refine RL.nil ?_
  refine hK19 _ _ _ ?_
  refine CW.kp [1, 4, 7, 9, 11] rfl ?_
  refine CW.seq fun K20 hK20 => ?_
  refine CW.region ?_
  refine RL.q (Y.field rfl field46_4) rfl ?_
  refine RL.loadOwnSl rfl rfl MM MM (by rfl) flat40 rfl fun a51 c51 hu51 hc51 hl51 => ?_
  refine RL.q (Y.assign rfl) rfl ?_
  refine RL.nil ?_
  refine hK20 _ _ _ ?_
  refine CW.kp [1, 4, 7, 9, 11, 12] rfl ?_
  refine CW.seq fun K21 hK21 => ?_
  refine CW.seq fun K22 hK22 => ?_
  refine CW.region ?_
  refine RL.q (Y.field rfl field46_1) rfl ?_
  refine RL.q (Y.loadOwnV rfl MM MM (by rfl) flat3) rfl ?_
  refine RL.q (Y.eql rfl rfl) rfl ?_
  refine RL.nil ?_
  refine hK22 _ _ _ ?_
  refine CW.kp [1, 4, 7, 11, 12, 54] rfl ?_
  refine CW.ite rfl (fun h6 => ?_) (fun h6 => ?_)
  ·refine CW.seq fun K23 hK23 => ?_
   refine CW.seq fun K24 hK24 => ?_
   refine CW.region ?_
   refine RL.q (Y.move rfl) rfl ?_
   refine RL.q (Y.len rfl Try.underlying40) rfl ?_
   refine RL.q (Y.eql rfl rfl) rfl ?_
   refine RL.nil ?_
   refine hK24 _ _ _ ?_
   refine CW.kp [1, 4, 7, 11, 12, 57] rfl ?_
   refine CW.ite rfl (fun h7 => ?_) (fun h7 => ?_)
   ·refine CW.seq fun K25 hK25 => ?_
    refine CW.region ?_
    refine RL.q (Y.build [_, _, _] rfl zero53 places53 (by rfl)) rfl ?_
    refine RL.storeAgg _ rfl rfl RP (by rfl) (by first | (simp; done) | simp [IdT.vals]) (by first | (simp [Value.oneCell']; done) | simp [Value.oneCell', IdT.vals]) size53 ?_
    refine RL.q (Y.assign rfl) rfl ?_
    refine RL.nil ?_
    refine hK25 _ _ _ ?_
    refine CW.kp [7, 8] rfl ?_
    refine CW.ret ?_
    have e : zeroF p (n + 1) t l = (v0, 1, l - 1) := by rw [zeroF, if_neg (by simp [hvt]), if_neg hl1, if_neg h3, if_neg h4, if_neg h5, if_pos h6, if_pos OM]
    refine ⟨_, rfl, ?_⟩
    exact CellAt.mk rfl MM (by first | rfl | assumption) agg53 (Turn.drop ⟨Sub.refl _, by rw [e], _, by rw [e], by rw [e]; exact (by rw [Val.enc_eq]; exact (by repeat (first | exact RdL.nil _ | refine RdL.cons (by first | exact Rd.i _ | exact Rd.nilS | exact Rd.str _ | assumption) ?_)))⟩ SB)
   refine CW.skip ?_
   refine hK23 _ _ _ ?_
   refine CW.kn (Kn.rd (d := .sl (theDef p t.df).slots.length 11 ((theDef p t.df).slots.flatMap SlotT.enc)) (u := .slice a51 (theDef p t.df).slots.length c51) MM) fun hsl => ?_
   refine CW.addRd (Rd.takeN SlotT.enc_len hsl 1 OM) ?_
   refine CW.regionHP mix (x := .own _ _ _) PK ?_
   refine HL.take 0 rfl KR KR KR rfl (Y.move rfl) rfl ?_
   refine HL.take 1 rfl KR KR KR rfl (Y.slice0 ((theDef p t.df).slots.take 1).length c51 rfl ⟨1, rfl, by simp; omega⟩ rfl (.inl rfl) (by simp; omega) (Nat.le_refl _) slice40) rfl ?_
   refine HL.take 2 rfl KR KR KR rfl (Y.field rfl field53_0) rfl ?_
   refine HL.step 3 rfl KR ?_
   refine RL.store _ rfl rfl RP (by rfl) (by simp) (by rfl) size3 ?_
   refine RL.nil ⟨keep_same SB, ?_⟩
   refine HL.take 4 rfl KR KR KR rfl (Y.assign rfl) rfl ?_
   refine HL.done KR ?_
   refine hK21 _ _ _ ?_
   refine CW.kp [1, 4, 7, 11, 12] rfl ?_
   obtain ⟨ss, hss⟩ : ∃ ss, ss = (theDef p t.df).slots.take 1 := ⟨_, rfl⟩
   rw [← hss]
   obtain ⟨kd, hkd⟩ : ∃ kd : Int, kd = 3 := ⟨_, rfl⟩
   rw [← hkd]
   have hnode : zeroF p (n + 1) t l = zNode kd (zeroL (zeroF p n) (ss.map SlotT.ty) (l - 1)) := by rw [zeroF, if_neg (by simp [hvt]), if_neg hl1, if_neg h3, if_neg h4, if_neg h5, if_pos h6, if_neg OM, hkd, hss]
   refine CW.seq fun K26 hK26 => ?_
   refine CW.seq fun K27 hK27 => ?_
   refine CW.front (x := .own bp 26 usp) PK ?_
   refine CW.front (x := .own bf 92 [(.func (.func 57) #[] #[.pointer (some (adr (some ⟨bp, 0, none⟩) 0)), .pointer (some (adr (some ⟨bl, 0, none⟩) 0)), .pointer (some (adr (some ⟨bf, 0, none⟩) 0))])]) PK ?_
   refine CW.front (x := .own bl 3 [vint (l - 1)]) PK ?_
   refine CW.front (x := .own b11 53 [vint kd, vint 0, .slice none 0 0]) PK ?_
   refine CW.accNil 53 3 ?_
   refine CW.addRds (RdL.nil _) ?_
   refine CW.region ?_
   refine RL.q (Y.move rfl) rfl ?_
   refine RL.q (Y.len rfl Try.underlying40) rfl ?_
   refine RL.q (Y.move rfl) rfl ?_
   refine RL.nil ?_
   refine hK27 _ _ _ ?_
   refine CW.kp [1, 4, 7, 11, 62, 63, 64] rfl ?_
   refine CW.block ?_
   -- LOOP 1: live [1, 4, 7, 11, 62, 63, 64] changed [64]
   refine CW.kp [64, 1, 4, 7, 11, 62, 63] rfl ?_
   refine CW.loopF (fun m Lc M1 Γc => ∃ (k : Nat) (dn : List Val) (lk : Int) (ua : Option Addr) (ca : Nat) (us : List Value), m = ss.length - k ∧ k ≤ ss.length ∧ Lc = [(64, vint k)] ∧ Γc = [.rds (dn.flatMap Val.enc) us, .acc (.slice ua k ca) 53 3 k us, .own b11 53 [vint kd, vint 0, .slice ua k ca], .own bl 3 [vint lk]] ∧ 0 ≤ lk ∧ lk + k ≤ 256 ∧ dn.length = k ∧ zeroL (zeroF p n) (ss.map SlotT.ty) (l - 1) = zJoin dn (zeroL (zeroF p n) ((ss.map SlotT.ty).drop k) lk)) ss.length [(64, _)] [_, _, _, _] rfl rfl ⟨0, [], l - 1, none, 0, [], rfl, Nat.zero_le _, rfl, rfl, by omega, by omega, rfl, zJoin_nil _ _ _⟩ ?_
   rintro m Lc M1 Γc hs ⟨k, dn, lk, ua, ca, us, rfl, hk, rfl, rfl, hlk0, hlk, hdn, hz⟩
   refine CW.seq fun K28 hK28 => ?_
   refine CW.region ?_
   refine RL.q (Y.lss rfl rfl) rfl ?_
   refine RL.nil ?_
   refine hK28 _ _ _ ?_
   refine CW.kp [1, 4, 7, 11, 62, 63, 64, 65] rfl ?_
   refine CW.seq fun K29 hK29 => ?_
   refine CW.ite rfl (fun h8 => ?_) (fun h8 => ?_)
   ·have hka : k < ss.length := by omega
    refine CW.skip ?_
    refine hK29 _ _ _ ?_
    refine CW.seq fun K30 hK30 => ?_
    refine CW.block ?_
    refine CW.seq fun K31 hK31 => ?_
    refine CW.region ?_
    refine RL.q (Y.index _ rfl rfl rfl AO slice40 SM) rfl ?_
    refine RL.loadAgg rfl rfl MM (Eq.trans (flat_take SlotT.enc_len _ _ _ (List.getElem?_eq_getElem AO)) (SlotT.enc_eq _)) (by rfl) agg66 rfl fun us67 hul67 hur67 => ?_
    refine RL.alloc _ zero66 rfl rfl fun b14 => ?_
    refine RL.storeRds 11 rfl rfl RP MM EL (by first | exact Kn.lenRds MM EL | exact Kn.lenLit rfl) size66 ?_
    refine RL.nil ?_
    refine hK31 _ _ _ ?_
    refine CW.kp [1, 4, 7, 11, 14, 62, 63, 64] rfl ?_
    refine CW.seq fun K32 hK32 => ?_
    refine CW.region ?_
    refine RL.q (Y.loadOwn rfl MM (by rfl) flat92) rfl ?_
    refine RL.q (Y.field rfl field66_2) rfl ?_
    refine RL.loadPart rfl rfl MM MM (by rfl) (by rfl) agg31 rfl fun us71 hul71 hur71 => ?_
    refine RL.q (Y.move rfl) rfl ?_
    refine RL.q (Y.add rfl rfl OM) rfl ?_
    refine RL.callf rfl func57 rfl rfl rfl (CallOk.pick (x := .own bp 26 usp) PK (CallOk.pick (x := .own bf 92 [(.func (.func 57) #[] #[.pointer (some (adr (some ⟨bp, 0, none⟩) 0)), .pointer (some (adr (some ⟨bl, 0, none⟩) 0)), .pointer (some (adr (some ⟨bf, 0, none⟩) 0))])]) PK (CallOk.pick (x := .own bl 3 [vint lk]) PK (ih n OM _ _ _ p usp (ss[k]).ty us71 (d + 1) lk bl bf bp OM OM hlk0 OM (by first | exact Kn.rds MM | exact Kn.ty MM | exact Kn.val MM | exact Kn.ex MM | exact Kn.rd MM) (by first | exact Kn.rds MM | exact Kn.ty MM | exact Kn.val MM | exact Kn.ex MM | exact Kn.rd MM))))) ?_
    rintro v74 M74 _ ⟨hs74, rfl, us74, rfl, hr74⟩
    refine RL.addRds hr74 ?_
    have hul74 : us74.length = 3 := hr74.1.trans (Val.enc_len _)
    refine RL.q (Y.move rfl) rfl ?_
    refine RL.q (Y.extract rfl rfl) rfl ?_
    refine RL.q (Y.extract rfl rfl) rfl ?_
    refine RL.alloc _ zero53 rfl rfl fun b15 => ?_
    refine RL.storeRds 3 rfl rfl RP MM EL (by first | exact Kn.lenRds MM EL | exact Kn.lenLit rfl) size53 ?_
    refine RL.q (Y.assign rfl) rfl ?_
    refine RL.nil ?_
    refine hK32 _ _ _ ?_
    refine CW.kp [1, 4, 7, 11, 15, 16, 62, 63, 64] rfl ?_
    refine CW.seq fun K33 hK33 => ?_
    refine CW.seq fun K34 hK34 => ?_
    refine CW.region ?_
    refine RL.q (Y.move rfl) rfl ?_
    refine RL.q (Y.neq rfl rfl) rfl ?_
    refine RL.nil ?_
    refine hK34 _ _ _ ?_
    refine CW.kp [1, 4, 7, 11, 15, 16, 62, 63, 64, 78] rfl ?_
    refine CW.ite rfl (fun h9 => ?_) (fun h9 => ?_)
    ·refine CW.seq fun K35 hK35 => ?_
     refine CW.region ?_
     refine RL.q (Y.build [_, _, _] rfl zero53 places53 (by rfl)) rfl ?_
     refine RL.q (Y.move rfl) rfl ?_
     refine RL.storeAgg _ rfl rfl RP (by rfl) (by first | (simp; done) | simp [IdT.vals]) (by first | (simp [Value.oneCell']; done) | simp [Value.oneCell', IdT.vals]) size53 ?_
     refine RL.q (Y.assign rfl) rfl ?_
     refine RL.nil ?_
     refine hK35 _ _ _ ?_
     refine CW.kp [7, 8] rfl ?_
     refine CW.ret ?_
     have e : zeroF p (n + 1) t l = (v0, (zeroF p n (ss[k]).ty lk).2.1, (zeroF p n (ss[k]).ty lk).2.2) := by
       rw [hnode, zJoin_err (k := k) (by simpa using hka) hz (by simpa using h9)]
       simp [zNode, h9]
     refine ⟨_, rfl, ?_⟩
     exact CellAt.mk rfl MM (by first | rfl | assumption) agg53 (Turn.drop ⟨hs.trans hs74, by rw [e], _, by rw [e], by rw [e]; exact (by rw [Val.enc_eq]; exact (by repeat (first | exact RdL.nil _ | refine RdL.cons (by first | exact Rd.i _ | exact Rd.nilS | exact Rd.str _ | assumption) ?_)))⟩ SB)
    refine CW.skip ?_
    refine hK33 _ _ _ ?_
    refine CW.region ?_
    refine RL.q (Y.field rfl field53_2) rfl ?_
    refine RL.q (Y.loadOwn rfl MM (by rfl) flat51) rfl ?_
    refine RL.q (Y.loadAllR rfl MM MM EL agg53) rfl ?_
    refine RL.buildSlice us74 elem51 rfl (by decide) (fill1 rfl hul74) rfl fun b84 => ?_
    refine RL.append elem51 rfl rfl PK (SrcOk.own (sz := 3) (m := 1) MM (by simp [hul74]) hr74.one) OM (by unfold lim; omega) rfl fun a85 c85 hc85 => ?_
    refine RL.q (Y.field rfl field53_2) rfl ?_
    refine RL.store _ rfl rfl RP (by rfl) (by simp) (by rfl) size51 ?_
    refine RL.nil ?_
    refine hK30 _ _ _ ?_
    refine CW.kp [1, 4, 7, 11, 62, 63, 64] rfl ?_
    refine CW.region ?_
    refine RL.q (Y.add rfl rfl OM) rfl ?_
    refine RL.q (Y.move rfl) rfl ?_
    refine RL.nil ?_
    refine ⟨ss.length - (k + 1), [(64, _)], ?_, (KP [64, 1, 4, 7, 11, 62, 63]), ?_⟩
    · omega
    · refine Turn.kn (Kn.rds (ds := dn.flatMap Val.enc) (us := us) MM) fun hrd => ?_
      refine Turn.front (x := .own b11 53 _) PK ?_
      refine Turn.front (x := .acc (.slice a85 (k + 1) c85) 53 3 (k + 1) (us ++ us74)) PK ?_
      refine Turn.addRds (hrd.append hr74) ?_
      have hlf := zeroF_left p n (ss[k]).ty lk (Decidable.not_not.1 h9)
      exact Turn.drop ⟨[_, _, _, _], rfl, hs.trans hs74, k + 1, dn ++ [(zeroF p n (ss[k]).ty lk).1], (zeroF p n (ss[k]).ty lk).2.2, a85, c85, us ++ us74, rfl, by omega, rfl, by rw [snoc_flat] <;> rfl, hlf.1, by have := hlf.2; omega, by simp [hdn], by have := zJoin_step (k := k) (by simpa using hka) hz (by simpa using h9); simpa using this⟩ SB
   refine CW.exit ?_
   refine hK26 _ _ _ ?_
   refine CW.seq fun K36 hK36 => ?_
   refine CW.region ?_
   refine RL.q (Y.loadAll rfl MM (by rfl) agg53) rfl ?_
   refine RL.storeAgg _ rfl rfl RP (by rfl) (by first | (simp; done) | simp [IdT.vals]) (by first | (simp [Value.oneCell']; done) | simp [Value.oneCell', IdT.vals]) size53 ?_
   refine RL.q (Y.assign rfl) rfl ?_
   refine RL.nil ?_
   refine hK36 _ _ _ ?_
   refine CW.kp [7, 8] rfl ?_
   refine CW.ret ?_
   have e : zeroF p (n + 1) t l = (.mk kd 0 dn, 0, lk) := by
     rw [hnode, zJoin_end (k := k) (by simp; omega) hz]
     simp [zNode]
   refine ⟨_, rfl, ?_⟩
   refine CellAt.mk rfl MM (by first | rfl | assumption) agg53 (Turn.kn (Kn.rds (ds := dn.flatMap Val.enc) (us := us) MM) fun hrd => ?_)
   exact Turn.sealAcc (Γ := .own bl 3 [vint lk] :: .own bf 92 [(.func (.func 57) #[] #[.pointer (some (adr (some ⟨bp, 0, none⟩) 0)), .pointer (some (adr (some ⟨bl, 0, none⟩) 0)), .pointer (some (adr (some ⟨bf, 0, none⟩) 0))])] :: .own bp 26 usp :: Γ) (u := .slice ua k ca) PK hrd (by unfold lim; omega) SB fun M2 hs2 hr2 => ⟨hs.trans hs2, by rw [e], _, by rw [e], by rw [e, Val.enc_eq]; exact RdL.cons (Rd.i _) (RdL.cons (Rd.i _) (RdL.cons (by simpa [Val.kids, hdn] using hr2) (RdL.nil _)))⟩
  obtain ⟨ss, hss⟩ : ∃ ss, ss = (theDef p t.df).slots := ⟨_, rfl⟩
  rw [← hss]
  obtain ⟨kd, hkd⟩ : ∃ kd : Int, kd = 2 := ⟨_, rfl⟩
  rw [← hkd]
  have hnode : zeroF p (n + 1) t l = zNode kd (zeroL (zeroF p n) (ss.map SlotT.ty) (l - 1)) := by rw [zeroF, if_neg (by simp [hvt]), if_neg hl1, if_neg h3, if_neg h4, if_neg h5, if_neg h6, hkd, hss]
  refine CW.skip ?_
  refine hK21 _ _ _ ?_
  refine CW.seq fun K37 hK37 => ?_
  refine CW.seq fun K38 hK38 => ?_
  refine CW.front (x := .own bp 26 usp) PK ?_
  refine CW.front (x := .own bf 92 [(.func (.func 57) #[] #[.pointer (some (adr (some ⟨bp, 0, none⟩) 0)), .pointer (some (adr (some ⟨bl, 0, none⟩) 0)), .pointer (some (adr (some ⟨bf, 0, none⟩) 0))])]) PK ?_
  refine CW.front (x := .own bl 3 [vint (l - 1)]) PK ?_
  refine CW.front (x := .own b11 53 [vint kd, vint 0, .slice none 0 0]) PK ?_
  refine CW.accNil 53 3 ?_
  refine CW.addRds (RdL.nil _) ?_
  refine CW.region ?_
  refine RL.q (Y.move rfl) rfl ?_
  refine RL.q (Y.len rfl Try.underlying40) rfl ?_
  refine RL.q (Y.move rfl) rfl ?_
  refine RL.nil ?_
  refine hK38 _ _ _ ?_
  refine CW.kp [1, 4, 7, 11, 62, 63, 64] rfl ?_
  refine CW.block ?_
  -- LOOP 1: live [1, 4, 7, 11, 62, 63, 64] changed [64]
  refine CW.kp [64, 1, 4, 7, 11, 62, 63] rfl ?_
  refine CW.loopF (fun m Lc M1 Γc => ∃ (k : Nat) (dn : List Val) (lk : Int) (ua : Option Addr) (ca : Nat) (us : List Value), m = ss.length - k ∧ k ≤ ss.length ∧ Lc = [(64, vint k)] ∧ Γc = [.rds (dn.flatMap Val.enc) us, .acc (.slice ua k ca) 53 3 k us, .own b11 53 [vint kd, vint 0, .slice ua k ca], .own bl 3 [vint lk]] ∧ 0 ≤ lk ∧ lk + k ≤ 256 ∧ dn.length = k ∧ zeroL (zeroF p n) (ss.map SlotT.ty) (l - 1) = zJoin dn (zeroL (zeroF p n) ((ss.map SlotT.ty).drop k) lk)) ss.length [(64, _)] [_, _, _, _] rfl rfl ⟨0, [], l - 1, none, 0, [], rfl, Nat.zero_le _, rfl, rfl, by omega, by omega, rfl, zJoin_nil _ _ _⟩ ?_
  rintro m Lc M1 Γc hs ⟨k, dn, lk, ua, ca, us, rfl, hk, rfl, rfl, hlk0, hlk, hdn, hz⟩
  refine CW.seq fun K39 hK39 => ?_
  refine CW.region ?_
  refine RL.q (Y.lss rfl rfl) rfl ?_
  refine RL.nil ?_
  refine hK39 _ _ _ ?_
  refine CW.kp [1, 4, 7, 11, 62, 63, 64, 65] rfl ?_
  refine CW.seq fun K40 hK40 => ?_
  refine CW.ite rfl (fun h8 => ?_) (fun h8 => ?_)
  ·have hka : k < ss.length := by omega
   refine CW.skip ?_
   refine hK40 _ _ _ ?_
   refine CW.seq fun K41 hK41 => ?_
   refine CW.block ?_
   refine CW.seq fun K42 hK42 => ?_
   refine CW.region ?_
   refine RL.q (Y.index _ rfl rfl rfl AO slice40 SM) rfl ?_
   refine RL.loadAgg rfl rfl MM (Eq.trans (flat_take SlotT.enc_len _ _ _ (List.getElem?_eq_getElem AO)) (SlotT.enc_eq _)) (by rfl) agg66 rfl fun us67 hul67 hur67 => ?_
   refine RL.alloc _ zero66 rfl rfl fun b14 => ?_
   refine RL.storeRds 11 rfl rfl RP MM EL (by first | exact Kn.lenRds MM EL | exact Kn.lenLit rfl) size66 ?_
   refine RL.nil ?_
   refine hK42 _ _ _ ?_
   refine CW.kp [1, 4, 7, 11, 14, 62, 63, 64] rfl ?_
   refine CW.seq fun K43 hK43 => ?_
   refine CW.region ?_
   refine RL.q (Y.loadOwn rfl MM (by rfl) flat92) rfl ?_
   refine RL.q (Y.field rfl field66_2) rfl ?_
   refine RL.loadPart rfl rfl MM MM (by rfl) (by rfl) agg31 rfl fun us71 hul71 hur71 => ?_
   refine RL.q (Y.move rfl) rfl ?_
   refine RL.q (Y.add rfl rfl OM) rfl ?_
   refine RL.callf rfl func57 rfl rfl rfl (CallOk.pick (x := .own bp 26 usp) PK (CallOk.pick (x := .own bf 92 [(.func (.func 57) #[] #[.pointer (some (adr (some ⟨bp, 0, none⟩) 0)), .pointer (some (adr (some ⟨bl, 0, none⟩) 0)), .pointer (some (adr (some ⟨bf, 0, none⟩) 0))])]) PK (CallOk.pick (x := .own bl 3 [vint lk]) PK (ih n OM _ _ _ p usp (ss[k]).ty us71 (d + 1) lk bl bf bp OM OM hlk0 OM (by first | exact Kn.rds MM | exact Kn.ty MM | exact Kn.val MM | exact Kn.ex MM | exact Kn.rd MM) (by first | exact Kn.rds MM | exact Kn.ty MM | exact Kn.val MM | exact Kn.ex MM | exact Kn.rd MM))))) ?_
   rintro v74 M74 _ ⟨hs74, rfl, us74, rfl, hr74⟩
   refine RL.addRds hr74 ?_
   have hul74 : us74.length = 3 := hr74.1.trans (Val.enc_len _)
   refine RL.q (Y.move rfl) rfl ?_
   refine RL.q (Y.extract rfl rfl) rfl ?_
   refine RL.q (Y.extract rfl rfl) rfl ?_
   refine RL.alloc _ zero53 rfl rfl fun b15 => ?_
   refine RL.storeRds 3 rfl rfl RP MM EL (by first | exact Kn.lenRds MM EL | exact Kn.lenLit rfl) size53 ?_
   refine RL.q (Y.assign rfl) rfl ?_
   refine RL.nil ?_
   refine hK43 _ _ _ ?_
   refine CW.kp [1, 4, 7, 11, 15, 16, 62, 63, 64] rfl ?_
   refine CW.seq fun K44 hK44 => ?_
   refine CW.seq fun K45 hK45 => ?_
   refine CW.region ?_
   refine RL.q (Y.move rfl) rfl ?_
   refine RL.q (Y.neq rfl rfl) rfl ?_
   refine RL.nil ?_
   refine hK45 _ _ _ ?_
   refine CW.kp [1, 4, 7, 11, 15, 16, 62, 63, 64, 78] rfl ?_
   refine CW.ite rfl (fun h9 => ?_) (fun h9 => ?_)
   ·refine CW.seq fun K46 hK46 => ?_
    refine CW.region ?_
    refine RL.q (Y.build [_, _, _] rfl zero53 places53 (by rfl)) rfl ?_
    refine RL.q (Y.move rfl) rfl ?_
    refine RL.storeAgg _ rfl rfl RP (by rfl) (by first | (simp; done) | simp [IdT.vals]) (by first | (simp [Value.oneCell']; done) | simp [Value.oneCell', IdT.vals]) size53 ?_
    refine RL.q (Y.assign rfl) rfl ?_
    refine RL.nil ?_
    refine hK46 _ _ _ ?_
    refine CW.kp [7, 8] rfl ?_
    refine CW.ret ?_
    have e : zeroF p (n + 1) t l = (v0, (zeroF p n (ss[k]).ty lk).2.1, (zeroF p n (ss[k]).ty lk).2.2) := by
      rw [hnode, zJoin_err (k := k) (by simpa using hka) hz (by simpa using h9)]
      simp [zNode, h9]
    refine ⟨_, rfl, ?_⟩
    exact CellAt.mk rfl MM (by first | rfl | assumption) agg53 (Turn.drop ⟨hs.trans hs74, by rw [e], _, by rw [e], by rw [e]; exact (by rw [Val.enc_eq]; exact (by repeat (first | exact RdL.nil _ | refine RdL.cons (by first | exact Rd.i _ | exact Rd.nilS | exact Rd.str _ | assumption) ?_)))⟩ SB)
   refine CW.skip ?_
   refine hK44 _ _ _ ?_
   refine CW.region ?_
   refine RL.q (Y.field rfl field53_2) rfl ?_
   refine RL.q (Y.loadOwn rfl MM (by rfl) flat51) rfl ?_
   refine RL.q (Y.loadAllR rfl MM MM EL agg53) rfl ?_
   refine RL.buildSlice us74 elem51 rfl (by decide) (fill1 rfl hul74) rfl fun b84 => ?_
   refine RL.append elem51 rfl rfl PK (SrcOk.own (sz := 3) (m := 1) MM (by simp [hul74]) hr74.one) OM (by unfold lim; omega) rfl fun a85 c85 hc85 => ?_
   refine RL.q (Y.field rfl field53_2) rfl ?_
   refine RL.store _ rfl rfl RP (by rfl) (by simp) (by rfl) size51 ?_
   refine RL.nil ?_
   refine hK41 _ _ _ ?_
   refine CW.kp [1, 4, 7, 11, 62, 63, 64] rfl ?_
   refine CW.region ?_
   refine RL.q (Y.add rfl rfl OM) rfl ?_
   refine RL.q (Y.move rfl) rfl ?_
   refine RL.nil ?_
   refine ⟨ss.length - (k + 1), [(64, _)], ?_, (KP [64, 1, 4, 7, 11, 62, 63]), ?_⟩
   · omega
   · refine Turn.kn (Kn.rds (ds := dn.flatMap Val.enc) (us := us) MM) fun hrd => ?_
     refine Turn.front (x := .own b11 53 _) PK ?_
     refine Turn.front (x := .acc (.slice a85 (k + 1) c85) 53 3 (k + 1) (us ++ us74)) PK ?_
     refine Turn.addRds (hrd.append hr74) ?_
     have hlf := zeroF_left p n (ss[k]).ty lk (Decidable.not_not.1 h9)
     exact Turn.drop ⟨[_, _, _, _], rfl, hs.trans hs74, k + 1, dn ++ [(zeroF p n (ss[k]).ty lk).1], (zeroF p n (ss[k]).ty lk).2.2, a85, c85, us ++ us74, rfl, by omega, rfl, by rw [snoc_flat] <;> rfl, hlf.1, by have := hlf.2; omega, by simp [hdn], by have := zJoin_step (k := k) (by simpa using hka) hz (by simpa using h9); simpa using this⟩ SB
  refine CW.exit ?_
  refine hK37 _ _ _ ?_
  refine CW.seq fun K47 hK47 => ?_
  refine CW.region ?_
  refine RL.q (Y.loadAll rfl MM (by rfl) agg53) rfl ?_
  refine RL.storeAgg _ rfl rfl RP (by rfl) (by first | (simp; done) | simp [IdT.vals]) (by first | (simp [Value.oneCell']; done) | simp [Value.oneCell', IdT.vals]) size53 ?_
  refine RL.q (Y.assign rfl) rfl ?_
  refine RL.nil ?_
  refine hK47 _ _ _ ?_
  refine CW.kp [7, 8] rfl ?_
  refine CW.ret ?_
  have e : zeroF p (n + 1) t l = (.mk kd 0 dn, 0, lk) := by
    rw [hnode, zJoin_end (k := k) (by simp; omega) hz]
    simp [zNode]
  refine ⟨_, rfl, ?_⟩
  refine CellAt.mk rfl MM (by first | rfl | assumption) agg53 (Turn.kn (Kn.rds (ds := dn.flatMap Val.enc) (us := us) MM) fun hrd => ?_)
  exact Turn.sealAcc (Γ := .own bl 3 [vint lk] :: .own bf 92 [(.func (.func 57) #[] #[.pointer (some (adr (some ⟨bp, 0, none⟩) 0)), .pointer (some (adr (some ⟨bl, 0, none⟩) 0)), .pointer (some (adr (some ⟨bf, 0, none⟩) 0))])] :: .own bp 26 usp :: Γ) (u := .slice ua k ca) PK hrd (by unfold lim; omega) SB fun M2 hs2 hr2 => ⟨hs.trans hs2, by rw [e], _, by rw [e], by rw [e, Val.enc_eq]; exact RdL.cons (Rd.i _) (RdL.cons (Rd.i _) (RdL.cons (by simpa [Val.kids, hdn] using hr2) (RdL.nil _)))⟩
end Go.Proofs.Ytfgkhhfkodlbpaa
