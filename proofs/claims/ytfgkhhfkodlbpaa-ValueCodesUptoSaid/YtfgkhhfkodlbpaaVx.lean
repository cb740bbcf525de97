/- THE WALKS, 23: a value made of numbers. Printed by m04x.py. -/
import Derived.Test.YtfgkhhfkodlbpaaVv
import Derived.Test.YtfgkhhfkodlbpaaPureA
import Derived.Test.YtfgkhhfkodlbpaaPureB
namespace Go.Proofs.Ytfgkhhfkodlbpaa
open Xe

def zeroN : Nat := 0

set_option maxHeartbeats 2000000 in
theorem make_ok (n : Nat) : ∀ (w0 : World) (M : Mem) (Γ : List As) (p : ProgT) (usp : List Value) (t : Ty) (ust : List Value) (l : List Int) (ul : Value) (pos d : Int), wfT p n t → 0 ≤ pos → pos + 4 ^ n ≤ 1099511627776 → 0 ≤ d → d + n ≤ 1099511627776 → (∀ x ∈ l, InI x) →
    Kn w0 M Γ (RdL M p.enc usp) → Kn w0 M Γ (RdL M t.enc ust) → Kn w0 M Γ (Rd M (dints l) ul) →
    CallOk Try.prog w0 M Γ 48 #[.agg usp.toArray, .agg ust.toArray, ul, vint pos, vint d] (Gives M Γ fun M' v => ∃ us, v = .tuple #[.agg us.toArray, vint (mkF p l n t pos d).2] ∧ RdL M' (mkF p l n t pos d).1.enc us) := by
  induction n using Nat.strongRecOn
  rename_i n ih
  intro w0 M Γ p usp t ust l ul pos d hwf hpos hpb hd hdb hli hp ht hl
  obtain ⟨n, rfl⟩ : ∃ m, n = m + 1 := by
    cases n with
    | zero => exact hwf.elim
    | succ m => exact ⟨m, rfl⟩
  refine CallOk.kn hp fun hp => ?_
  refine CallOk.kn ht fun ht => ?_
  refine CallOk.kn hl fun hl => ?_
  obtain ⟨al, cl, rfl, hcl, hliml, hlenl⟩ := hl.slice
  rw [Ty.enc_eq] at ht
  obtain ⟨b, hb⟩ : ∃ b : Int, b = 4 ^ n := ⟨_, rfl⟩
  have hb1 : 1 ≤ b := by rw [hb]; exact Int.pow_pos (by decide)
  have hb4 : (4 : Int) ^ (n + 1) = b * 4 := by rw [hb]; exact Int.pow_succ 4 n
  rw [hb4] at hpb
  have hpb2 : pos + 1 + 3 * b ≤ 1099511627776 := by omega
  obtain ⟨c, hce⟩ : ∃ c, c = atL l pos 1048576 := ⟨_, rfl⟩
  have hc := atL_lt l pos 1048576 OM
  rw [← hce] at hc
  have hq : c.tdiv 16 = c / 16 := Int.tdiv_eq_ediv_of_nonneg hc.1
  have hr16 : c.tmod 16 = c % 16 := Int.tmod_eq_emod_of_nonneg hc.1
  have hq3 : (c.tdiv 16).tmod 3 = c / 16 % 3 := by rw [hq, Int.tmod_eq_emod_of_nonneg OM]
  have hq9 : (c.tdiv 16).tmod 9 = c / 16 % 9 := by rw [hq, Int.tmod_eq_emod_of_nonneg OM]
  have hr2 : c.tmod 2 = c % 2 := Int.tmod_eq_emod_of_nonneg hc.1
  have hr3 : c.tmod 3 = c % 3 := Int.tmod_eq_emod_of_nonneg hc.1
  have hpcast : pos + 4 ^ n ≤ 1099511627776 := by rw [← hb]; omega
  refine enterCell2 (f := 48) Try.func48 rfl Try.ntmps48 rfl rfl fun w1 hw1 => ?_
  refine CW.addRds hp ?_
  refine CW.addRds ht ?_
  refine CW.addRd hl ?_
  refine CW.seq fun K1 hK1 => ?_
  refine CW.region ?_
  refine RL.box _ rfl rfl rfl fun b5 => ?_
  refine RL.box _ rfl rfl rfl fun b6 => ?_
  refine RL.alloc _ zero53 rfl rfl fun b10 => ?_
  refine RL.q (Y.assign rfl) rfl ?_
  refine RL.nil ?_
  refine hK1 _ _ _ ?_
  refine CW.kp [2, 3, 4, 5, 6, 10] rfl ?_
  refine CW.seq fun K2 hK2 => ?_
  refine CW.region ?_
  refine RL.q (Y.move rfl) rfl ?_
  refine RL.q (Y.move rfl) rfl ?_
  refine RL.callv rfl func41 rfl rfl (by exact at_ok _ _ _ l _ pos 1048576 (by exact Kn.rd MM) hli OM) ?_
  refine RL.q (Y.assign rfl) rfl ?_
  refine RL.nil ?_
  refine hK2 _ _ _ ?_
  refine CW.kp [2, 3, 4, 5, 6, 10, 12] rfl ?_
  rw [← hce]
  refine CW.seq fun K3 hK3 => ?_
  refine CW.region ?_
  refine RL.q (Y.move rfl) rfl ?_
  refine RL.q (Y.add rfl rfl OM) rfl ?_
  refine RL.q (Y.assign rfl) rfl ?_
  refine RL.nil ?_
  refine hK3 _ _ _ ?_
  refine CW.kp [2, 3, 4, 5, 6, 10, 12] rfl ?_
  refine CW.seq fun K4 hK4 => ?_
  refine CW.seq fun K5 hK5 => ?_
  refine CW.region ?_
  refine RL.q (Y.field rfl field31_0) rfl ?_
  refine RL.q (Y.loadOwnV rfl MM MM (by rfl) flat3) rfl ?_
  refine RL.q (Y.eql rfl rfl) rfl ?_
  refine RL.nil ?_
  refine hK5 _ _ _ ?_
  refine CW.kp [2, 3, 4, 5, 6, 10, 12, 32] rfl ?_
  refine CW.ite rfl (fun h1 => ?_) (fun h1 => ?_)
  ·refine CW.seq fun K6 hK6 => ?_
   refine CW.seq fun K7 hK7 => ?_
   refine CW.region ?_
   refine RL.q (Y.move rfl) rfl ?_
   refine RL.q (Y.rem rfl rfl OM) rfl ?_
   refine RL.q (Y.eql rfl rfl) rfl ?_
   refine RL.nil ?_
   refine hK7 _ _ _ ?_
   refine CW.kp [3, 10, 12, 35] rfl ?_
   refine CW.ite rfl (fun h2 => ?_) (fun h2 => ?_)
   ·refine CW.seq fun K8 hK8 => ?_
    refine CW.region ?_
    refine RL.q (Y.move rfl) rfl ?_
    refine RL.q (Y.quo rfl rfl OM OM) rfl ?_
    refine RL.q (Y.rem rfl rfl OM) rfl ?_
    refine RL.q (Y.sub rfl rfl OM) rfl ?_
    refine RL.q (Y.build [_, _, _] rfl zero53 places53 (by rfl)) rfl ?_
    refine RL.q (Y.move rfl) rfl ?_
    refine RL.storeAgg _ rfl rfl RP (by rfl) (by first | (simp; done) | simp [IdT.vals]) (by first | (simp [Value.oneCell']; done) | simp [Value.oneCell', IdT.vals]) size53 ?_
    refine RL.q (Y.assign rfl) rfl ?_
    refine RL.nil ?_
    refine hK8 _ _ _ ?_
    refine CW.kp [10, 11] rfl ?_
    refine CW.ret ?_
    have e : mkF p l (n + 1) t pos d = (.mk 0 (1099511627776 - (c.tdiv 16).tmod 3) [], pos + 1) := by rw [mkF, ← hce, if_pos h1, if_pos h2]
    refine ⟨_, rfl, ?_⟩
    exact CellAt.mk rfl MM (by first | rfl | assumption) agg53 (Turn.drop ⟨Sub.refl _, rfl, _, by rw [e], by rw [e]; exact leaf_rd _ _⟩ SB)
   refine CW.skip ?_
   refine hK6 _ _ _ ?_
   refine CW.seq fun K9 hK9 => ?_
   refine CW.seq fun K10 hK10 => ?_
   refine CW.region ?_
   refine RL.q (Y.move rfl) rfl ?_
   refine RL.q (Y.rem rfl rfl OM) rfl ?_
   refine RL.q (Y.eql rfl rfl) rfl ?_
   refine RL.nil ?_
   refine hK10 _ _ _ ?_
   refine CW.kp [3, 10, 12, 44] rfl ?_
   refine CW.ite rfl (fun h3 => ?_) (fun h3 => ?_)
   ·refine CW.seq fun K11 hK11 => ?_
    refine CW.region ?_
    refine RL.q (Y.move rfl) rfl ?_
    refine RL.q (Y.quo rfl rfl OM OM) rfl ?_
    refine RL.q (Y.rem rfl rfl OM) rfl ?_
    refine RL.q (Y.add rfl rfl OM) rfl ?_
    refine RL.q (Y.build [_, _, _] rfl zero53 places53 (by rfl)) rfl ?_
    refine RL.q (Y.move rfl) rfl ?_
    refine RL.storeAgg _ rfl rfl RP (by rfl) (by first | (simp; done) | simp [IdT.vals]) (by first | (simp [Value.oneCell']; done) | simp [Value.oneCell', IdT.vals]) size53 ?_
    refine RL.q (Y.assign rfl) rfl ?_
    refine RL.nil ?_
    refine hK11 _ _ _ ?_
    refine CW.kp [10, 11] rfl ?_
    refine CW.ret ?_
    have e : mkF p l (n + 1) t pos d = (.mk 0 (-1099511627776 + (c.tdiv 16).tmod 3) [], pos + 1) := by rw [mkF, ← hce, if_pos h1, if_neg h2, if_pos h3]
    refine ⟨_, rfl, ?_⟩
    exact CellAt.mk rfl MM (by first | rfl | assumption) agg53 (Turn.drop ⟨Sub.refl _, rfl, _, by rw [e], by rw [e]; exact leaf_rd _ _⟩ SB)
   refine CW.skip ?_
   refine hK9 _ _ _ ?_
   refine CW.seq fun K12 hK12 => ?_
   refine CW.region ?_
   refine RL.q (Y.move rfl) rfl ?_
   refine RL.q (Y.quo rfl rfl OM OM) rfl ?_
   refine RL.q (Y.rem rfl rfl OM) rfl ?_
   refine RL.q (Y.sub rfl rfl OM) rfl ?_
   refine RL.q (Y.build [_, _, _] rfl zero53 places53 (by rfl)) rfl ?_
   refine RL.q (Y.move rfl) rfl ?_
   refine RL.storeAgg _ rfl rfl RP (by rfl) (by first | (simp; done) | simp [IdT.vals]) (by first | (simp [Value.oneCell']; done) | simp [Value.oneCell', IdT.vals]) size53 ?_
   refine RL.q (Y.assign rfl) rfl ?_
   refine RL.nil ?_
   refine hK12 _ _ _ ?_
   refine CW.kp [10, 11] rfl ?_
   refine CW.ret ?_
   have e : mkF p l (n + 1) t pos d = (.mk 0 ((c.tdiv 16).tmod 9 - 4) [], pos + 1) := by rw [mkF, ← hce, if_pos h1, if_neg h2, if_neg h3]
   refine ⟨_, rfl, ?_⟩
   exact CellAt.mk rfl MM (by first | rfl | assumption) agg53 (Turn.drop ⟨Sub.refl _, rfl, _, by rw [e], by rw [e]; exact leaf_rd _ _⟩ SB)
  refine CW.skip ?_
  refine hK4 _ _ _ ?_
  refine CW.seq fun K13 hK13 => ?_
  refine CW.seq fun K14 hK14 => ?_
  refine CW.region ?_
  refine RL.q (Y.field rfl field31_0) rfl ?_
  refine RL.q (Y.loadOwnV rfl MM MM (by rfl) flat3) rfl ?_
  refine RL.q (Y.eql rfl rfl) rfl ?_
  refine RL.nil ?_
  refine hK14 _ _ _ ?_
  refine CW.kp [2, 3, 4, 5, 6, 10, 12, 59] rfl ?_
  refine CW.ite rfl (fun h4 => ?_) (fun h4 => ?_)
  ·refine CW.seq fun K15 hK15 => ?_
   refine CW.region ?_
   refine RL.q (Y.move rfl) rfl ?_
   refine RL.q (Y.rem rfl rfl OM) rfl ?_
   refine RL.q (Y.build [_, _, _] rfl zero53 places53 (by rfl)) rfl ?_
   refine RL.q (Y.move rfl) rfl ?_
   refine RL.storeAgg _ rfl rfl RP (by rfl) (by first | (simp; done) | simp [IdT.vals]) (by first | (simp [Value.oneCell']; done) | simp [Value.oneCell', IdT.vals]) size53 ?_
   refine RL.q (Y.assign rfl) rfl ?_
   refine RL.nil ?_
   refine hK15 _ _ _ ?_
   refine CW.kp [10, 11] rfl ?_
   refine CW.ret ?_
   have e : mkF p l (n + 1) t pos d = (.mk 1 (c.tmod 2) [], pos + 1) := by rw [mkF, ← hce, if_neg h1, if_pos h4]
   refine ⟨_, rfl, ?_⟩
   exact CellAt.mk rfl MM (by first | rfl | assumption) agg53 (Turn.drop ⟨Sub.refl _, rfl, _, by rw [e], by rw [e]; exact leaf_rd _ _⟩ SB)
  refine CW.skip ?_
  refine hK13 _ _ _ ?_
  refine CW.seq fun K16 hK16 => ?_
  refine CW.region ?_
  refine RL.q (Y.build [_, _, _] rfl zero53 places53 (by rfl)) rfl ?_
  refine RL.alloc _ zero53 rfl rfl fun b13 => ?_
  refine RL.storeAgg _ rfl rfl RP (by rfl) (by first | (simp; done) | simp [IdT.vals]) (by first | (simp [Value.oneCell']; done) | simp [Value.oneCell', IdT.vals]) size53 ?_
  refine RL.nil ?_
  refine hK16 _ _ _ ?_
  refine CW.kp [2, 3, 4, 5, 6, 10, 12, 13] rfl ?_
  refine CW.seq fun K17 hK17 => ?_
  refine CW.seq fun K18 hK18 => ?_
  refine CW.region ?_
  refine RL.q (Y.field rfl field31_0) rfl ?_
  refine RL.q (Y.loadOwnV rfl MM MM (by rfl) flat3) rfl ?_
  refine RL.q (Y.eql rfl rfl) rfl ?_
  refine RL.nil ?_
  refine hK18 _ _ _ ?_
  refine CW.kp [2, 3, 4, 5, 6, 10, 12, 13, 67] rfl ?_
  refine CW.ite rfl (fun h5 => ?_) (fun h5 => ?_)
  ·obtain ⟨hkl, hwk⟩ := wfT_list hwf h5
   rw [headD_0 hkl] at hwk
   refine CW.seq fun K19 hK19 => ?_
   refine CW.region ?_
   refine RL.q (Y.move rfl) rfl ?_
   refine RL.q (Y.rem rfl rfl OM) rfl ?_
   refine RL.q (Y.assign rfl) rfl ?_
   refine RL.nil ?_
   refine hK19 _ _ _ ?_
   refine CW.kp [2, 3, 4, 5, 6, 10, 13, 14] rfl ?_
   refine CW.seq fun K20 hK20 => ?_
   refine CW.seq fun K21 hK21 => ?_
   refine CW.region ?_
   refine RL.q (Y.move rfl) rfl ?_
   refine RL.q (Y.gtr rfl rfl) rfl ?_
   refine RL.nil ?_
   refine hK21 _ _ _ ?_
   refine CW.kp [2, 3, 4, 5, 6, 10, 13, 14, 71] rfl ?_
   refine CW.ite rfl (fun h6 => ?_) (fun h6 => ?_)
   ·refine CW.region ?_
    refine RL.q (v := vint ((zeroN : Nat) : Int)) (Y.assign rfl) rfl ?_
    refine RL.nil ?_
    refine hK20 _ _ _ ?_
    refine CW.kp [2, 3, 4, 5, 6, 10, 13, 14] rfl ?_
    obtain ⟨many, hmany⟩ : ∃ k, k = zeroN := ⟨_, rfl⟩
    rw [← hmany]
    replace hmany : many = 0 := hmany
    have hml : many = (if 3 < d then 0 else (c.tmod 3).toNat) := by rw [hmany, if_pos h6]
    refine CW.seq fun K22 hK22 => ?_
    refine CW.seq fun K23 hK23 => ?_
    have hm2 : many ≤ 2 := by rw [hml]; split <;> omega
    refine CW.region ?_
    refine RL.q (Y.assign rfl) rfl ?_
    refine RL.nil ?_
    refine hK23 _ _ _ ?_
    refine CW.kp [2, 3, 4, 5, 6, 10, 13, 14, 15] rfl ?_
    refine CW.block ?_
    -- LOOP 1: live [2, 3, 4, 5, 6, 10, 13, 14, 15] changed [3, 15]
    refine CW.kp [3, 15, 2, 4, 5, 6, 10, 13, 14] rfl ?_
    refine CW.front (x := .own b13 53 [vint 4, vint 0, .slice none 0 0]) PK ?_
    refine CW.accNil 53 3 ?_
    refine CW.addRds (RdL.nil _) ?_
    refine CW.loopF (fun mm Lc M1 Γc => ∃ (k : Nat) (dn : List Val) (pk : Int) (ua : Option Addr) (ca : Nat) (us : List Value), mm = many - k ∧ k ≤ many ∧ Lc = [(3, vint pk), (15, vint k)] ∧ Γc = [.rds (dn.flatMap Val.enc) us, .acc (.slice ua k ca) 53 3 k us, .own b13 53 [vint 4, vint 0, .slice ua k ca]] ∧ dn.length = k ∧ pos + 1 ≤ pk ∧ pk ≤ pos + 1 + k * b ∧ mkS (fun u q => mkF p l n u q (d + 1)) (List.replicate many (t.kids.headD ty0)) (pos + 1) = mJ dn (mkS (fun u q => mkF p l n u q (d + 1)) ((List.replicate many (t.kids.headD ty0)).drop k) pk)) (many) [(3, _), (15, _)] [_, _, _] rfl rfl ⟨0, [], pos + 1, none, 0, [], rfl, Nat.zero_le _, rfl, rfl, rfl, by omega, by simp, mJ_nil _⟩ ?_
    rintro mm Lc M1 Γc hs ⟨k, dn, pk, ua, ca, us, rfl, hk, rfl, rfl, hdn, hp1, hp2, hz⟩
    refine CW.seq fun K24 hK24 => ?_
    refine CW.seq fun K25 hK25 => ?_
    refine CW.region ?_
    refine RL.q (Y.move rfl) rfl ?_
    refine RL.q (Y.move rfl) rfl ?_
    refine RL.q (Y.lss rfl rfl) rfl ?_
    refine RL.nil ?_
    refine hK25 _ _ _ ?_
    refine CW.kp [2, 3, 4, 5, 6, 10, 13, 14, 15, 74] rfl ?_
    refine CW.ite rfl (fun h7 => ?_) (fun h7 => ?_)
    ·have hka : k < many := by omega
     have hkb : (k : Int) * b ≤ 2 * b := Int.mul_le_mul_of_nonneg_right OM OM
     refine CW.skip ?_
     refine hK24 _ _ _ ?_
     refine CW.seq fun K26 hK26 => ?_
     refine CW.block ?_
     refine CW.seq fun K27 hK27 => ?_
     refine CW.regionH mix _ _ (fun _ hw => hw) ?_
     refine HL.take 0 rfl KR KR KR rfl (Y.loadAllR rfl MM MM EL agg26) rfl ?_
     refine HL.take 1 rfl KR KR KR rfl (Y.field rfl field31_2) rfl ?_
     refine HL.loadOwnSl 2 rfl KR KR KR rfl rfl MM MM (by rfl) flat29 rfl fun a80 c80 hu80 hc80 hl80 => ?_
     refine HL.take 3 rfl KR KR KR rfl (Y.index 0 rfl rfl OM OM slice29 (fun _ hw => hw.rd_some MM OM)) rfl ?_
     refine HL.loadAgg 4 rfl KR KR KR rfl rfl MM (Eq.trans (flat_take Ty.enc_len _ _ _ (List.getElem?_eq_getElem AO)) (Ty.enc_eq _)) (by rfl) agg31 rfl fun us82 hul82 hur82 => ?_
     refine HL.take 5 rfl KR KR KR rfl (Y.move rfl) rfl ?_
     refine HL.take 6 rfl KR KR KR rfl (Y.move rfl) rfl ?_
     refine HL.take 7 rfl KR KR KR rfl (Y.move rfl) rfl ?_
     refine HL.take 8 rfl KR KR KR rfl (Y.add rfl rfl OM) rfl ?_
     refine HL.step2 9 13 rfl rfl KR ?_ ?_
     ·refine RL.call rfl func48 rfl rfl (by exact ih n OM _ _ _ p usp (t.kids[0]) _ l _ pk (d + 1) hwk OM OM OM OM hli (by exact Kn.rds MM) KK (by exact Kn.rd MM)) ?_
      rintro v87 M87 _ ⟨hs87, rfl, us87, rfl, hr87⟩
      refine RL.addRds hr87 ?_
      have hul87 : us87.length = 3 := hr87.1.trans (Val.enc_len _)
      refine RL.nil ⟨keep_more (hs87) SB, ?_⟩
      refine HL.take 10 rfl KR KR KR rfl (Y.move rfl) rfl ?_
      refine HL.take 11 rfl KR KR KR rfl (Y.extract rfl rfl) rfl ?_
      refine HL.take 12 rfl KR KR KR rfl (Y.extract rfl rfl) rfl ?_
      refine HL.step 13 rfl KR ?_
      refine RL.alloc _ zero53 rfl rfl fun b16 => ?_
      refine RL.nil ⟨keep_more (hs87) SB, ?_⟩
      refine HL.step 14 rfl KR ?_
      refine RL.storeRds 3 rfl rfl RP MM EL (by first | exact Kn.lenRds MM EL | exact Kn.lenLit rfl) size53 ?_
      refine RL.nil ⟨keep_more (hs87) SB, ?_⟩
      refine HL.take 15 rfl KR KR KR rfl (Y.assign rfl) rfl ?_
      refine HL.done KR ?_
      refine hK27 _ _ _ ?_
      refine CW.kp [2, 4, 5, 6, 10, 13, 14, 15, 16, 17] rfl ?_
      refine CW.seq fun K28 hK28 => ?_
      refine CW.region ?_
      refine RL.q (Y.move rfl) rfl ?_
      refine RL.q (Y.assign rfl) rfl ?_
      refine RL.nil ?_
      refine hK28 _ _ _ ?_
      refine CW.kp [2, 3, 4, 5, 6, 10, 13, 14, 15, 16] rfl ?_
      refine CW.region ?_
      refine RL.q (Y.field rfl field53_2) rfl ?_
      refine RL.q (Y.loadOwn rfl MM (by rfl) flat51) rfl ?_
      refine RL.q (Y.loadAllR rfl MM MM EL agg53) rfl ?_
      refine RL.buildSlice us87 elem51 rfl (by decide) (fill1 rfl hul87) rfl fun b94 => ?_
      refine RL.append elem51 rfl rfl PK (SrcOk.own (sz := 3) (m := 1) MM (by simp [hul87]) hr87.one) OM (by unfold lim; omega) rfl fun a95 c95 hc95 => ?_
      refine RL.q (Y.field rfl field53_2) rfl ?_
      refine RL.store _ rfl rfl RP (by rfl) (by simp) (by rfl) size51 ?_
      refine RL.nil ?_
      refine hK26 _ _ _ ?_
      refine CW.kp [2, 3, 4, 5, 6, 10, 13, 14, 15] rfl ?_
      refine CW.region ?_
      refine RL.q (Y.move rfl) rfl ?_
      refine RL.q (Y.add rfl rfl OM) rfl ?_
      refine RL.q (Y.assign rfl) rfl ?_
      refine RL.nil ?_
      refine ⟨many - (k + 1), [(3, _), (15, _)], ?_, (KP [3, 15, 2, 4, 5, 6, 10, 13, 14]), ?_⟩
      · omega
      · refine Turn.kn (Kn.rds (ds := dn.flatMap Val.enc) (us := us) MM) fun hrd => ?_
        refine Turn.front (x := .own b13 53 _) PK ?_
        refine Turn.front (x := .acc (.slice a95 (k + 1) c95) 53 3 (k + 1) (us ++ us87)) PK ?_
        refine Turn.addRds (hrd.append hr87) ?_
        have hps := mkF_pos (l := l) n (t.kids[0]) pk (d + 1) hwk
        rw [← hb] at hps
        have hsc : ((k + 1 : Nat) : Int) * b = k * b + b := by rw [Int.natCast_add, Int.add_mul]; simp
        refine Turn.drop ⟨[_, _, _], rfl, hs.trans hs87, k + 1, dn ++ [(mkF p l n (t.kids[0]) pk (d + 1)).1], (mkF p l n (t.kids[0]) pk (d + 1)).2, a95, c95, us ++ us87, rfl, by omega, rfl, by rw [snoc_flat] <;> rfl, by simp [hdn], by omega, by omega, ?_⟩ SB
        have hst := mJ_step (k := k) (by simp; omega) hz
        rw [← headD_0 hkl]; simpa using hst
     refine RL.alloc _ zero53 rfl rfl fun b16 => ?_
     refine RL.nil ⟨keep_same SB, ?_⟩
     refine HL.step 9 rfl KR ?_
     refine RL.call rfl func48 rfl rfl (by exact ih n OM _ _ _ p usp (t.kids[0]) _ l _ pk (d + 1) hwk OM OM OM OM hli (by exact Kn.rds MM) KK (by exact Kn.rd MM)) ?_
     rintro v87 M87 _ ⟨hs87, rfl, us87, rfl, hr87⟩
     refine RL.addRds hr87 ?_
     have hul87 : us87.length = 3 := hr87.1.trans (Val.enc_len _)
     refine RL.nil ⟨keep_more (hs87) SB, ?_⟩
     refine HL.take 10 rfl KR KR KR rfl (Y.move rfl) rfl ?_
     refine HL.take 11 rfl KR KR KR rfl (Y.extract rfl rfl) rfl ?_
     refine HL.take 12 rfl KR KR KR rfl (Y.extract rfl rfl) rfl ?_
     refine HL.step 14 rfl KR ?_
     refine RL.storeRds 3 rfl rfl RP MM EL (by first | exact Kn.lenRds MM EL | exact Kn.lenLit rfl) size53 ?_
     refine RL.nil ⟨keep_more (hs87) SB, ?_⟩
     refine HL.take 15 rfl KR KR KR rfl (Y.assign rfl) rfl ?_
     refine HL.done KR ?_
     refine hK27 _ _ _ ?_
     refine CW.kp [2, 4, 5, 6, 10, 13, 14, 15, 16, 17] rfl ?_
     refine CW.seq fun K29 hK29 => ?_
     refine CW.region ?_
     refine RL.q (Y.move rfl) rfl ?_
     refine RL.q (Y.assign rfl) rfl ?_
     refine RL.nil ?_
     refine hK29 _ _ _ ?_
     refine CW.kp [2, 3, 4, 5, 6, 10, 13, 14, 15, 16] rfl ?_
     refine CW.region ?_
     refine RL.q (Y.field rfl field53_2) rfl ?_
     refine RL.q (Y.loadOwn rfl MM (by rfl) flat51) rfl ?_
     refine RL.q (Y.loadAllR rfl MM MM EL agg53) rfl ?_
     refine RL.buildSlice us87 elem51 rfl (by decide) (fill1 rfl hul87) rfl fun b94 => ?_
     refine RL.append elem51 rfl rfl PK (SrcOk.own (sz := 3) (m := 1) MM (by simp [hul87]) hr87.one) OM (by unfold lim; omega) rfl fun a95 c95 hc95 => ?_
     refine RL.q (Y.field rfl field53_2) rfl ?_
     refine RL.store _ rfl rfl RP (by rfl) (by simp) (by rfl) size51 ?_
     refine RL.nil ?_
     refine hK26 _ _ _ ?_
     refine CW.kp [2, 3, 4, 5, 6, 10, 13, 14, 15] rfl ?_
     refine CW.region ?_
     refine RL.q (Y.move rfl) rfl ?_
     refine RL.q (Y.add rfl rfl OM) rfl ?_
     refine RL.q (Y.assign rfl) rfl ?_
     refine RL.nil ?_
     refine ⟨many - (k + 1), [(3, _), (15, _)], ?_, (KP [3, 15, 2, 4, 5, 6, 10, 13, 14]), ?_⟩
     · omega
     · refine Turn.kn (Kn.rds (ds := dn.flatMap Val.enc) (us := us) MM) fun hrd => ?_
       refine Turn.front (x := .own b13 53 _) PK ?_
       refine Turn.front (x := .acc (.slice a95 (k + 1) c95) 53 3 (k + 1) (us ++ us87)) PK ?_
       refine Turn.addRds (hrd.append hr87) ?_
       have hps := mkF_pos (l := l) n (t.kids[0]) pk (d + 1) hwk
       rw [← hb] at hps
       have hsc : ((k + 1 : Nat) : Int) * b = k * b + b := by rw [Int.natCast_add, Int.add_mul]; simp
       refine Turn.drop ⟨[_, _, _], rfl, hs.trans hs87, k + 1, dn ++ [(mkF p l n (t.kids[0]) pk (d + 1)).1], (mkF p l n (t.kids[0]) pk (d + 1)).2, a95, c95, us ++ us87, rfl, by omega, rfl, by rw [snoc_flat] <;> rfl, by simp [hdn], by omega, by omega, ?_⟩ SB
       have hst := mJ_step (k := k) (by simp; omega) hz
       rw [← headD_0 hkl]; simpa using hst
    refine CW.exit ?_
    refine hK22 _ _ _ ?_
    refine CW.seq fun K30 hK30 => ?_
    refine CW.region ?_
    refine RL.q (Y.loadAll rfl MM (by rfl) agg53) rfl ?_
    refine RL.q (Y.move rfl) rfl ?_
    refine RL.storeAgg _ rfl rfl RP (by rfl) (by first | (simp; done) | simp [IdT.vals]) (by first | (simp [Value.oneCell']; done) | simp [Value.oneCell', IdT.vals]) size53 ?_
    refine RL.q (Y.assign rfl) rfl ?_
    refine RL.nil ?_
    refine hK30 _ _ _ ?_
    refine CW.kp [10, 11] rfl ?_
    refine CW.ret ?_
    have e : mkF p l (n + 1) t pos d = (.mk 4 0 dn, pk) := by rw [mkF, ← hce, if_neg h1, if_neg h4, if_pos h5, ← hml, mJ_end (by simp; omega) hz]
    refine ⟨_, rfl, ?_⟩
    refine CellAt.mk rfl MM (by first | rfl | assumption) agg53 (Turn.kn (Kn.rds (ds := dn.flatMap Val.enc) (us := us) MM) fun hrd => ?_)
    exact Turn.sealAcc (Γ := Γ) (u := .slice ua k ca) PK hrd (by unfold lim; omega) SB fun M2 hs2 hr2 => ⟨hs.trans hs2, rfl, _, by rw [e], by rw [e]; exact node_rd 4 0 dn (by rw [hdn]; exact hr2)⟩
   obtain ⟨many, hmany⟩ := Int.eq_ofNat_of_zero_le (show 0 ≤ c.tmod 3 by omega)
   rw [hmany]
   have hml : many = (if 3 < d then 0 else (c.tmod 3).toNat) := by rw [if_neg h6, hmany]; rfl
   refine CW.skip ?_
   refine hK20 _ _ _ ?_
   refine CW.seq fun K31 hK31 => ?_
   refine CW.seq fun K32 hK32 => ?_
   have hm2 : many ≤ 2 := by rw [hml]; split <;> omega
   refine CW.region ?_
   refine RL.q (Y.assign rfl) rfl ?_
   refine RL.nil ?_
   refine hK32 _ _ _ ?_
   refine CW.kp [2, 3, 4, 5, 6, 10, 13, 14, 15] rfl ?_
   refine CW.block ?_
   -- LOOP 1: live [2, 3, 4, 5, 6, 10, 13, 14, 15] changed [3, 15]
   refine CW.kp [3, 15, 2, 4, 5, 6, 10, 13, 14] rfl ?_
   refine CW.front (x := .own b13 53 [vint 4, vint 0, .slice none 0 0]) PK ?_
   refine CW.accNil 53 3 ?_
   refine CW.addRds (RdL.nil _) ?_
   refine CW.loopF (fun mm Lc M1 Γc => ∃ (k : Nat) (dn : List Val) (pk : Int) (ua : Option Addr) (ca : Nat) (us : List Value), mm = many - k ∧ k ≤ many ∧ Lc = [(3, vint pk), (15, vint k)] ∧ Γc = [.rds (dn.flatMap Val.enc) us, .acc (.slice ua k ca) 53 3 k us, .own b13 53 [vint 4, vint 0, .slice ua k ca]] ∧ dn.length = k ∧ pos + 1 ≤ pk ∧ pk ≤ pos + 1 + k * b ∧ mkS (fun u q => mkF p l n u q (d + 1)) (List.replicate many (t.kids.headD ty0)) (pos + 1) = mJ dn (mkS (fun u q => mkF p l n u q (d + 1)) ((List.replicate many (t.kids.headD ty0)).drop k) pk)) (many) [(3, _), (15, _)] [_, _, _] rfl rfl ⟨0, [], pos + 1, none, 0, [], rfl, Nat.zero_le _, rfl, rfl, rfl, by omega, by simp, mJ_nil _⟩ ?_
   rintro mm Lc M1 Γc hs ⟨k, dn, pk, ua, ca, us, rfl, hk, rfl, rfl, hdn, hp1, hp2, hz⟩
   refine CW.seq fun K33 hK33 => ?_
   refine CW.seq fun K34 hK34 => ?_
   refine CW.region ?_
   refine RL.q (Y.move rfl) rfl ?_
   refine RL.q (Y.move rfl) rfl ?_
   refine RL.q (Y.lss rfl rfl) rfl ?_
   refine RL.nil ?_
   refine hK34 _ _ _ ?_
   refine CW.kp [2, 3, 4, 5, 6, 10, 13, 14, 15, 74] rfl ?_
   refine CW.ite rfl (fun h7 => ?_) (fun h7 => ?_)
   ·have hka : k < many := by omega
    have hkb : (k : Int) * b ≤ 2 * b := Int.mul_le_mul_of_nonneg_right OM OM
    refine CW.skip ?_
    refine hK33 _ _ _ ?_
    refine CW.seq fun K35 hK35 => ?_
    refine CW.block ?_
    refine CW.seq fun K36 hK36 => ?_
    refine CW.regionH mix _ _ (fun _ hw => hw) ?_
    refine HL.take 0 rfl KR KR KR rfl (Y.loadAllR rfl MM MM EL agg26) rfl ?_
    refine HL.take 1 rfl KR KR KR rfl (Y.field rfl field31_2) rfl ?_
    refine HL.loadOwnSl 2 rfl KR KR KR rfl rfl MM MM (by rfl) flat29 rfl fun a80 c80 hu80 hc80 hl80 => ?_
    refine HL.take 3 rfl KR KR KR rfl (Y.index 0 rfl rfl OM OM slice29 (fun _ hw => hw.rd_some MM OM)) rfl ?_
    refine HL.loadAgg 4 rfl KR KR KR rfl rfl MM (Eq.trans (flat_take Ty.enc_len _ _ _ (List.getElem?_eq_getElem AO)) (Ty.enc_eq _)) (by rfl) agg31 rfl fun us82 hul82 hur82 => ?_
    refine HL.take 5 rfl KR KR KR rfl (Y.move rfl) rfl ?_
    refine HL.take 6 rfl KR KR KR rfl (Y.move rfl) rfl ?_
    refine HL.take 7 rfl KR KR KR rfl (Y.move rfl) rfl ?_
    refine HL.take 8 rfl KR KR KR rfl (Y.add rfl rfl OM) rfl ?_
    refine HL.step2 9 13 rfl rfl KR ?_ ?_
    ·refine RL.call rfl func48 rfl rfl (by exact ih n OM _ _ _ p usp (t.kids[0]) _ l _ pk (d + 1) hwk OM OM OM OM hli (by exact Kn.rds MM) KK (by exact Kn.rd MM)) ?_
     rintro v87 M87 _ ⟨hs87, rfl, us87, rfl, hr87⟩
     refine RL.addRds hr87 ?_
     have hul87 : us87.length = 3 := hr87.1.trans (Val.enc_len _)
     refine RL.nil ⟨keep_more (hs87) SB, ?_⟩
     refine HL.take 10 rfl KR KR KR rfl (Y.move rfl) rfl ?_
     refine HL.take 11 rfl KR KR KR rfl (Y.extract rfl rfl) rfl ?_
     refine HL.take 12 rfl KR KR KR rfl (Y.extract rfl rfl) rfl ?_
     refine HL.step 13 rfl KR ?_
     refine RL.alloc _ zero53 rfl rfl fun b16 => ?_
     refine RL.nil ⟨keep_more (hs87) SB, ?_⟩
     refine HL.step 14 rfl KR ?_
     refine RL.storeRds 3 rfl rfl RP MM EL (by first | exact Kn.lenRds MM EL | exact Kn.lenLit rfl) size53 ?_
     refine RL.nil ⟨keep_more (hs87) SB, ?_⟩
     refine HL.take 15 rfl KR KR KR rfl (Y.assign rfl) rfl ?_
     refine HL.done KR ?_
     refine hK36 _ _ _ ?_
     refine CW.kp [2, 4, 5, 6, 10, 13, 14, 15, 16, 17] rfl ?_
     refine CW.seq fun K37 hK37 => ?_
     refine CW.region ?_
     refine RL.q (Y.move rfl) rfl ?_
     refine RL.q (Y.assign rfl) rfl ?_
     refine RL.nil ?_
     refine hK37 _ _ _ ?_
     refine CW.kp [2, 3, 4, 5, 6, 10, 13, 14, 15, 16] rfl ?_
     refine CW.region ?_
     refine RL.q (Y.field rfl field53_2) rfl ?_
     refine RL.q (Y.loadOwn rfl MM (by rfl) flat51) rfl ?_
     refine RL.q (Y.loadAllR rfl MM MM EL agg53) rfl ?_
     refine RL.buildSlice us87 elem51 rfl (by decide) (fill1 rfl hul87) rfl fun b94 => ?_
     refine RL.append elem51 rfl rfl PK (SrcOk.own (sz := 3) (m := 1) MM (by simp [hul87]) hr87.one) OM (by unfold lim; omega) rfl fun a95 c95 hc95 => ?_
     refine RL.q (Y.field rfl field53_2) rfl ?_
     refine RL.store _ rfl rfl RP (by rfl) (by simp) (by rfl) size51 ?_
     refine RL.nil ?_
     refine hK35 _ _ _ ?_
     refine CW.kp [2, 3, 4, 5, 6, 10, 13, 14, 15] rfl ?_
     refine CW.region ?_
     refine RL.q (Y.move rfl) rfl ?_
     refine RL.q (Y.add rfl rfl OM) rfl ?_
     refine RL.q (Y.assign rfl) rfl ?_
     refine RL.nil ?_
     refine ⟨many - (k + 1), [(3, _), (15, _)], ?_, (KP [3, 15, 2, 4, 5, 6, 10, 13, 14]), ?_⟩
     · omega
     · refine Turn.kn (Kn.rds (ds := dn.flatMap Val.enc) (us := us) MM) fun hrd => ?_
       refine Turn.front (x := .own b13 53 _) PK ?_
       refine Turn.front (x := .acc (.slice a95 (k + 1) c95) 53 3 (k + 1) (us ++ us87)) PK ?_
       refine Turn.addRds (hrd.append hr87) ?_
       have hps := mkF_pos (l := l) n (t.kids[0]) pk (d + 1) hwk
       rw [← hb] at hps
       have hsc : ((k + 1 : Nat) : Int) * b = k * b + b := by rw [Int.natCast_add, Int.add_mul]; simp
       refine Turn.drop ⟨[_, _, _], rfl, hs.trans hs87, k + 1, dn ++ [(mkF p l n (t.kids[0]) pk (d + 1)).1], (mkF p l n (t.kids[0]) pk (d + 1)).2, a95, c95, us ++ us87, rfl, by omega, rfl, by rw [snoc_flat] <;> rfl, by simp [hdn], by omega, by omega, ?_⟩ SB
       have hst := mJ_step (k := k) (by simp; omega) hz
       rw [← headD_0 hkl]; simpa using hst
    refine RL.alloc _ zero53 rfl rfl fun b16 => ?_
    refine RL.nil ⟨keep_same SB, ?_⟩
    refine HL.step 9 rfl KR ?_
    refine RL.call rfl func48 rfl rfl (by exact ih n OM _ _ _ p usp (t.kids[0]) _ l _ pk (d + 1) hwk OM OM OM OM hli (by exact Kn.rds MM) KK (by exact Kn.rd MM)) ?_
    rintro v87 M87 _ ⟨hs87, rfl, us87, rfl, hr87⟩
    refine RL.addRds hr87 ?_
    have hul87 : us87.length = 3 := hr87.1.trans (Val.enc_len _)
    refine RL.nil ⟨keep_more (hs87) SB, ?_⟩
    refine HL.take 10 rfl KR KR KR rfl (Y.move rfl) rfl ?_
    refine HL.take 11 rfl KR KR KR rfl (Y.extract rfl rfl) rfl ?_
    refine HL.take 12 rfl KR KR KR rfl (Y.extract rfl rfl) rfl ?_
    refine HL.step 14 rfl KR ?_
    refine RL.storeRds 3 rfl rfl RP MM EL (by first | exact Kn.lenRds MM EL | exact Kn.lenLit rfl) size53 ?_
    refine RL.nil ⟨keep_more (hs87) SB, ?_⟩
    refine HL.take 15 rfl KR KR KR rfl (Y.assign rfl) rfl ?_
    refine HL.done KR ?_
    refine hK36 _ _ _ ?_
    refine CW.kp [2, 4, 5, 6, 10, 13, 14, 15, 16, 17] rfl ?_
    refine CW.seq fun K38 hK38 => ?_
    refine CW.region ?_
    refine RL.q (Y.move rfl) rfl ?_
    refine RL.q (Y.assign rfl) rfl ?_
    refine RL.nil ?_
    refine hK38 _ _ _ ?_
    refine CW.kp [2, 3, 4, 5, 6, 10, 13, 14, 15, 16] rfl ?_
    refine CW.region ?_
    refine RL.q (Y.field rfl field53_2) rfl ?_
    refine RL.q (Y.loadOwn rfl MM (by rfl) flat51) rfl ?_
    refine RL.q (Y.loadAllR rfl MM MM EL agg53) rfl ?_
    refine RL.buildSlice us87 elem51 rfl (by decide) (fill1 rfl hul87) rfl fun b94 => ?_
    refine RL.append elem51 rfl rfl PK (SrcOk.own (sz := 3) (m := 1) MM (by simp [hul87]) hr87.one) OM (by unfold lim; omega) rfl fun a95 c95 hc95 => ?_
    refine RL.q (Y.field rfl field53_2) rfl ?_
    refine RL.store _ rfl rfl RP (by rfl) (by simp) (by rfl) size51 ?_
    refine RL.nil ?_
    refine hK35 _ _ _ ?_
    refine CW.kp [2, 3, 4, 5, 6, 10, 13, 14, 15] rfl ?_
    refine CW.region ?_
    refine RL.q (Y.move rfl) rfl ?_
    refine RL.q (Y.add rfl rfl OM) rfl ?_
    refine RL.q (Y.assign rfl) rfl ?_
    refine RL.nil ?_
    refine ⟨many - (k + 1), [(3, _), (15, _)], ?_, (KP [3, 15, 2, 4, 5, 6, 10, 13, 14]), ?_⟩
    · omega
    · refine Turn.kn (Kn.rds (ds := dn.flatMap Val.enc) (us := us) MM) fun hrd => ?_
      refine Turn.front (x := .own b13 53 _) PK ?_
      refine Turn.front (x := .acc (.slice a95 (k + 1) c95) 53 3 (k + 1) (us ++ us87)) PK ?_
      refine Turn.addRds (hrd.append hr87) ?_
      have hps := mkF_pos (l := l) n (t.kids[0]) pk (d + 1) hwk
      rw [← hb] at hps
      have hsc : ((k + 1 : Nat) : Int) * b = k * b + b := by rw [Int.natCast_add, Int.add_mul]; simp
      refine Turn.drop ⟨[_, _, _], rfl, hs.trans hs87, k + 1, dn ++ [(mkF p l n (t.kids[0]) pk (d + 1)).1], (mkF p l n (t.kids[0]) pk (d + 1)).2, a95, c95, us ++ us87, rfl, by omega, rfl, by rw [snoc_flat] <;> rfl, by simp [hdn], by omega, by omega, ?_⟩ SB
      have hst := mJ_step (k := k) (by simp; omega) hz
      rw [← headD_0 hkl]; simpa using hst
   refine CW.exit ?_
   refine hK31 _ _ _ ?_
   refine CW.seq fun K39 hK39 => ?_
   refine CW.region ?_
   refine RL.q (Y.loadAll rfl MM (by rfl) agg53) rfl ?_
   refine RL.q (Y.move rfl) rfl ?_
   refine RL.storeAgg _ rfl rfl RP (by rfl) (by first | (simp; done) | simp [IdT.vals]) (by first | (simp [Value.oneCell']; done) | simp [Value.oneCell', IdT.vals]) size53 ?_
   refine RL.q (Y.assign rfl) rfl ?_
   refine RL.nil ?_
   refine hK39 _ _ _ ?_
   refine CW.kp [10, 11] rfl ?_
   refine CW.ret ?_
   have e : mkF p l (n + 1) t pos d = (.mk 4 0 dn, pk) := by rw [mkF, ← hce, if_neg h1, if_neg h4, if_pos h5, ← hml, mJ_end (by simp; omega) hz]
   refine ⟨_, rfl, ?_⟩
   refine CellAt.mk rfl MM (by first | rfl | assumption) agg53 (Turn.kn (Kn.rds (ds := dn.flatMap Val.enc) (us := us) MM) fun hrd => ?_)
   exact Turn.sealAcc (Γ := Γ) (u := .slice ua k ca) PK hrd (by unfold lim; omega) SB fun M2 hs2 hr2 => ⟨hs.trans hs2, rfl, _, by rw [e], by rw [e]; exact node_rd 4 0 dn (by rw [hdn]; exact hr2)⟩
  obtain ⟨h7a, h7b, h7c⟩ := wfT_def hwf h1 h4 h5
  refine CW.skip ?_
  refine hK17 _ _ _ ?_
  refine CW.seq fun K40 hK40 => ?_
  refine CW.region ?_
  refine RL.q (Y.loadAllR rfl MM MM EL agg26) rfl ?_
  refine RL.q (Y.field rfl field31_1) rfl ?_
  refine RL.q (Y.loadAggV [_, _, _] rfl MM MM (by rfl) agg28) rfl ?_
  refine RL.call rfl func20 rfl rfl (by exact rdef_ok _ _ _ p _ t.df (by exact Kn.rds MM)) ?_
  rintro v103 M _ ⟨rfl, rfl, us103, rfl, hr103⟩
  refine RL.addRds hr103 ?_
  have hul103 : us103.length = 31 := hr103.1.trans (DefT.enc_len _)
  refine RL.q (Y.move rfl) rfl ?_
  refine RL.q (Y.extract rfl rfl) rfl ?_
  refine RL.q (Y.extract rfl rfl) rfl ?_
  refine RL.alloc _ zero46 rfl rfl fun b18 => ?_
  refine RL.storeRds 31 rfl rfl RP MM EL (by first | exact Kn.lenRds MM EL | exact Kn.lenLit rfl) size46 ?_
  refine RL.q (Y.assign rfl) rfl ?_
  refine RL.nil ?_
  refine hK40 _ _ _ ?_
  refine CW.kp [2, 3, 4, 5, 10, 12, 13, 18] rfl ?_
  refine CW.seq fun K41 hK41 => ?_
  refine CW.seq fun K42 hK42 => ?_
  refine CW.region ?_
  refine RL.q (Y.field rfl field46_1) rfl ?_
  refine RL.q (Y.loadOwnV rfl MM MM (by rfl) flat3) rfl ?_
  refine RL.q (Y.eql rfl rfl) rfl ?_
  refine RL.nil ?_
  refine hK42 _ _ _ ?_
  refine CW.kp [2, 3, 4, 5, 10, 12, 13, 18, 108] rfl ?_
  refine CW.ite rfl (fun h8 => ?_) (fun h8 => ?_)
  ·have hsl := h7b h8
   have hcm : c.tmod (theDef p t.df).slots.length = c % (theDef p t.df).slots.length := Int.tmod_eq_emod_of_nonneg hc.1
   have hcm1 := Int.emod_lt_of_pos c (show (0 : Int) < (theDef p t.df).slots.length by omega)
   have hcm2 := Int.emod_nonneg c (show ((theDef p t.df).slots.length : Int) ≠ 0 by omega)
   refine CW.seq fun K43 hK43 => ?_
   refine CW.region ?_
   refine RL.q (Y.field rfl field53_0) rfl ?_
   refine RL.store _ rfl rfl RP (by rfl) (by simp) (by rfl) size3 ?_
   refine RL.nil ?_
   refine hK43 _ _ _ ?_
   refine CW.kp [2, 3, 4, 5, 10, 12, 13, 18] rfl ?_
   refine CW.seq fun K44 hK44 => ?_
   refine CW.region ?_
   refine RL.q (Y.move rfl) rfl ?_
   refine RL.q (Y.field rfl field46_4) rfl ?_
   refine RL.loadOwnSl rfl rfl MM MM (by rfl) flat40 rfl fun a112 c112 hu112 hc112 hl112 => ?_
   refine RL.q (Y.len rfl Try.underlying40) rfl ?_
   refine RL.q (Y.rem rfl rfl OM) rfl ?_
   refine RL.q (Y.field rfl field53_1) rfl ?_
   refine RL.store _ rfl rfl RP (by rfl) (by simp) (by rfl) size3 ?_
   refine RL.nil ?_
   refine hK44 _ _ _ ?_
   refine CW.kp [2, 3, 4, 5, 10, 13, 18] rfl ?_
   obtain ⟨ix, hix⟩ := Int.eq_ofNat_of_zero_le (show 0 ≤ c.tmod (theDef p t.df).slots.length by omega)
   rw [hix]
   have hixl : ix < (theDef p t.df).slots.length := by omega
   have hgd : (((theDef p t.df).slots.map SlotT.ty).getD ((ix : Nat) : Int).toNat ty0) = ((theDef p t.df).slots[ix]).ty := by simp [hixl]
   refine CW.seq fun K45 hK45 => ?_
   refine CW.regionH mix _ _ (fun _ hw => hw) ?_
   refine HL.take 0 rfl KR KR KR rfl (Y.loadAllR rfl MM MM EL agg26) rfl ?_
   refine HL.take 1 rfl KR KR KR rfl (Y.field rfl field46_4) rfl ?_
   refine HL.loadOwnSl 2 rfl KR KR KR rfl rfl MM MM (by rfl) flat40 rfl fun a119 c119 hu119 hc119 hl119 => ?_
   refine HL.take 3 rfl KR KR KR rfl (Y.field rfl field53_1) rfl ?_
   refine HL.take 4 rfl KR KR KR rfl (Y.loadOwn rfl MM (by rfl) flat3) rfl ?_
   refine HL.take 5 rfl KR KR KR rfl (Y.index ix rfl rfl OM OM slice40 (fun _ hw => hw.rd_some MM OM)) rfl ?_
   refine HL.take 6 rfl KR KR KR rfl (Y.field rfl field66_2) rfl ?_
   refine HL.loadAgg 7 rfl KR KR KR rfl rfl MM (Eq.trans (flat_sub SlotT.enc_len _ _ _ (List.getElem?_eq_getElem AO) _ _ (Nat.le_of_ble_eq_true rfl)) (by rw [SlotT.enc_eq] <;> rfl)) (by rfl) agg31 rfl fun us124 hul124 hur124 => ?_
   refine HL.take 8 rfl KR KR KR rfl (Y.move rfl) rfl ?_
   refine HL.take 9 rfl KR KR KR rfl (Y.move rfl) rfl ?_
   refine HL.take 10 rfl KR KR KR rfl (Y.move rfl) rfl ?_
   refine HL.take 11 rfl KR KR KR rfl (Y.add rfl rfl OM) rfl ?_
   refine HL.step2 12 16 rfl rfl KR ?_ ?_
   ·refine RL.call rfl func48 rfl rfl (by exact ih n OM _ _ _ p usp (((theDef p t.df).slots[ix]).ty) _ l _ (pos + 1) (d + 1) (h7c _ (List.getElem_mem hixl)) OM OM OM OM hli (by exact Kn.rds MM) KK (by exact Kn.rd MM)) ?_
    rintro v129 M129 _ ⟨hs129, rfl, us129, rfl, hr129⟩
    refine RL.addRds hr129 ?_
    have hul129 : us129.length = 3 := hr129.1.trans (Val.enc_len _)
    refine RL.nil ⟨keep_more (hs129) SB, ?_⟩
    refine HL.take 13 rfl KR KR KR rfl (Y.move rfl) rfl ?_
    refine HL.take 14 rfl KR KR KR rfl (Y.extract rfl rfl) rfl ?_
    refine HL.take 15 rfl KR KR KR rfl (Y.extract rfl rfl) rfl ?_
    refine HL.step 16 rfl KR ?_
    refine RL.alloc _ zero53 rfl rfl fun b20 => ?_
    refine RL.nil ⟨keep_more (hs129) SB, ?_⟩
    refine HL.step 17 rfl KR ?_
    refine RL.storeRds 3 rfl rfl RP MM EL (by first | exact Kn.lenRds MM EL | exact Kn.lenLit rfl) size53 ?_
    refine RL.nil ⟨keep_more (hs129) SB, ?_⟩
    refine HL.take 18 rfl KR KR KR rfl (Y.assign rfl) rfl ?_
    refine HL.done KR ?_
    refine hK45 _ _ _ ?_
    refine CW.kp [10, 13, 20, 21] rfl ?_
    refine CW.seq fun K46 hK46 => ?_
    refine CW.region ?_
    refine RL.q (Y.loadAllR rfl MM MM EL agg53) rfl ?_
    refine RL.buildSlice us129 elem51 rfl (by decide) (fill1 rfl hul129) rfl fun b133 => ?_
    refine RL.q (Y.field rfl field53_2) rfl ?_
    refine RL.store _ rfl rfl RP (by rfl) (by simp) (by rfl) size51 ?_
    refine RL.nil ?_
    refine hK46 _ _ _ ?_
    refine CW.kp [10, 13, 21] rfl ?_
    refine CW.sealOwn (b := b133) (k := 1) (sz := 3) (ds := [(mkF p l n (((theDef p t.df).slots[ix]).ty) (pos + 1) (d + 1)).1].flatMap Val.enc) PK (kids1 hr129) (by simp [hul129]) (by unfold lim; omega) fun M28 hs28 hr28 => ?_
    refine CW.seq fun K47 hK47 => ?_
    refine CW.region ?_
    refine RL.q (Y.loadAll rfl MM (by rfl) agg53) rfl ?_
    refine RL.q (Y.move rfl) rfl ?_
    refine RL.storeAgg _ rfl rfl RP (by rfl) (by first | (simp; done) | simp [IdT.vals]) (by first | (simp [Value.oneCell']; done) | simp [Value.oneCell', IdT.vals]) size53 ?_
    refine RL.q (Y.assign rfl) rfl ?_
    refine RL.nil ?_
    refine hK47 _ _ _ ?_
    refine CW.kp [10, 11] rfl ?_
    refine CW.ret ?_
    have e : mkF p l (n + 1) t pos d = (.mk 3 (ix : Int) [(mkF p l n (((theDef p t.df).slots[ix]).ty) (pos + 1) (d + 1)).1], (mkF p l n (((theDef p t.df).slots[ix]).ty) (pos + 1) (d + 1)).2) := by rw [mkF, ← hce, if_neg h1, if_neg h4, if_neg h5, if_pos h8, hix, hgd]
    refine ⟨_, rfl, ?_⟩
    exact CellAt.mk rfl MM (by first | rfl | assumption) agg53 (Turn.drop ⟨(hs129.trans hs28), rfl, _, by rw [e], by rw [e]; exact node_rd 3 (ix : Int) [_] hr28⟩ SB)
   refine RL.alloc _ zero53 rfl rfl fun b20 => ?_
   refine RL.nil ⟨keep_same SB, ?_⟩
   refine HL.step 12 rfl KR ?_
   refine RL.call rfl func48 rfl rfl (by exact ih n OM _ _ _ p usp (((theDef p t.df).slots[ix]).ty) _ l _ (pos + 1) (d + 1) (h7c _ (List.getElem_mem hixl)) OM OM OM OM hli (by exact Kn.rds MM) KK (by exact Kn.rd MM)) ?_
   rintro v129 M129 _ ⟨hs129, rfl, us129, rfl, hr129⟩
   refine RL.addRds hr129 ?_
   have hul129 : us129.length = 3 := hr129.1.trans (Val.enc_len _)
   refine RL.nil ⟨keep_more (hs129) SB, ?_⟩
   refine HL.take 13 rfl KR KR KR rfl (Y.move rfl) rfl ?_
   refine HL.take 14 rfl KR KR KR rfl (Y.extract rfl rfl) rfl ?_
   refine HL.take 15 rfl KR KR KR rfl (Y.extract rfl rfl) rfl ?_
   refine HL.step 17 rfl KR ?_
   refine RL.storeRds 3 rfl rfl RP MM EL (by first | exact Kn.lenRds MM EL | exact Kn.lenLit rfl) size53 ?_
   refine RL.nil ⟨keep_more (hs129) SB, ?_⟩
   refine HL.take 18 rfl KR KR KR rfl (Y.assign rfl) rfl ?_
   refine HL.done KR ?_
   refine hK45 _ _ _ ?_
   refine CW.kp [10, 13, 20, 21] rfl ?_
   refine CW.seq fun K48 hK48 => ?_
   refine CW.region ?_
   refine RL.q (Y.loadAllR rfl MM MM EL agg53) rfl ?_
   refine RL.buildSlice us129 elem51 rfl (by decide) (fill1 rfl hul129) rfl fun b133 => ?_
   refine RL.q (Y.field rfl field53_2) rfl ?_
   refine RL.store _ rfl rfl RP (by rfl) (by simp) (by rfl) size51 ?_
   refine RL.nil ?_
   refine hK48 _ _ _ ?_
   refine CW.kp [10, 13, 21] rfl ?_
   refine CW.sealOwn (b := b133) (k := 1) (sz := 3) (ds := [(mkF p l n (((theDef p t.df).slots[ix]).ty) (pos + 1) (d + 1)).1].flatMap Val.enc) PK (kids1 hr129) (by simp [hul129]) (by unfold lim; omega) fun M28 hs28 hr28 => ?_
   refine CW.seq fun K49 hK49 => ?_
   refine CW.region ?_
   refine RL.q (Y.loadAll rfl MM (by rfl) agg53) rfl ?_
   refine RL.q (Y.move rfl) rfl ?_
   refine RL.storeAgg _ rfl rfl RP (by rfl) (by first | (simp; done) | simp [IdT.vals]) (by first | (simp [Value.oneCell']; done) | simp [Value.oneCell', IdT.vals]) size53 ?_
   refine RL.q (Y.assign rfl) rfl ?_
   refine RL.nil ?_
   refine hK49 _ _ _ ?_
   refine CW.kp [10, 11] rfl ?_
   refine CW.ret ?_
   have e : mkF p l (n + 1) t pos d = (.mk 3 (ix : Int) [(mkF p l n (((theDef p t.df).slots[ix]).ty) (pos + 1) (d + 1)).1], (mkF p l n (((theDef p t.df).slots[ix]).ty) (pos + 1) (d + 1)).2) := by rw [mkF, ← hce, if_neg h1, if_neg h4, if_neg h5, if_pos h8, hix, hgd]
   refine ⟨_, rfl, ?_⟩
   exact CellAt.mk rfl MM (by first | rfl | assumption) agg53 (Turn.drop ⟨(hs129.trans hs28), rfl, _, by rw [e], by rw [e]; exact node_rd 3 (ix : Int) [_] hr28⟩ SB)
  refine CW.skip ?_
  refine hK41 _ _ _ ?_
  refine CW.seq fun K50 hK50 => ?_
  refine CW.region ?_
  refine RL.q (Y.field rfl field53_0) rfl ?_
  refine RL.store _ rfl rfl RP (by rfl) (by simp) (by rfl) size3 ?_
  refine RL.nil ?_
  refine hK50 _ _ _ ?_
  refine CW.kp [2, 3, 4, 5, 10, 13, 18] rfl ?_
  refine CW.seq fun K51 hK51 => ?_
  refine CW.seq fun K52 hK52 => ?_
  refine CW.region ?_
  refine RL.q (Y.assign rfl) rfl ?_
  refine RL.nil ?_
  refine hK52 _ _ _ ?_
  refine CW.kp [2, 3, 4, 5, 10, 13, 18, 22] rfl ?_
  refine CW.block ?_
  -- LOOP 2: live [2, 3, 4, 5, 10, 13, 18, 22] changed [3, 22]
  refine CW.kp [3, 22, 2, 4, 5, 10, 13, 18] rfl ?_
  refine CW.front (x := .own b13 53 [vint 2, vint 0, .slice none 0 0]) PK ?_
  refine CW.accNil 53 3 ?_
  refine CW.addRds (RdL.nil _) ?_
  refine CW.loopF (fun mm Lc M1 Γc => ∃ (k : Nat) (dn : List Val) (pk : Int) (ua : Option Addr) (ca : Nat) (us : List Value), mm = (theDef p t.df).slots.length - k ∧ k ≤ (theDef p t.df).slots.length ∧ Lc = [(3, vint pk), (22, vint k)] ∧ Γc = [.rds (dn.flatMap Val.enc) us, .acc (.slice ua k ca) 53 3 k us, .own b13 53 [vint 2, vint 0, .slice ua k ca]] ∧ dn.length = k ∧ pos + 1 ≤ pk ∧ pk ≤ pos + 1 + k * b ∧ mkS (fun u q => mkF p l n u q (d + 1)) ((theDef p t.df).slots.map SlotT.ty) (pos + 1) = mJ dn (mkS (fun u q => mkF p l n u q (d + 1)) (((theDef p t.df).slots.map SlotT.ty).drop k) pk)) ((theDef p t.df).slots.length) [(3, _), (22, _)] [_, _, _] rfl rfl ⟨0, [], pos + 1, none, 0, [], rfl, Nat.zero_le _, rfl, rfl, rfl, by omega, by simp, mJ_nil _⟩ ?_
  rintro mm Lc M1 Γc hs ⟨k, dn, pk, ua, ca, us, rfl, hk, rfl, rfl, hdn, hp1, hp2, hz⟩
  refine CW.seq fun K53 hK53 => ?_
  refine CW.seq fun K54 hK54 => ?_
  refine CW.region ?_
  refine RL.q (Y.move rfl) rfl ?_
  refine RL.q (Y.field rfl field46_4) rfl ?_
  refine RL.loadOwnSl rfl rfl MM MM (by rfl) flat40 rfl fun a140 c140 hu140 hc140 hl140 => ?_
  refine RL.q (Y.len rfl Try.underlying40) rfl ?_
  refine RL.q (Y.lss rfl rfl) rfl ?_
  refine RL.nil ?_
  refine hK54 _ _ _ ?_
  refine CW.kp [2, 3, 4, 5, 10, 13, 18, 22, 142] rfl ?_
  refine CW.ite rfl (fun h9 => ?_) (fun h9 => ?_)
  ·have hka : k < (theDef p t.df).slots.length := by omega
   have hkb : (k : Int) * b ≤ 2 * b := Int.mul_le_mul_of_nonneg_right OM OM
   refine CW.skip ?_
   refine hK53 _ _ _ ?_
   refine CW.seq fun K55 hK55 => ?_
   refine CW.block ?_
   refine CW.seq fun K56 hK56 => ?_
   refine CW.regionH mix _ _ (fun _ hw => hw) ?_
   refine HL.take 0 rfl KR KR KR rfl (Y.loadAllR rfl MM MM EL agg26) rfl ?_
   refine HL.take 1 rfl KR KR KR rfl (Y.field rfl field46_4) rfl ?_
   refine HL.loadOwnSl 2 rfl KR KR KR rfl rfl MM MM (by rfl) flat40 rfl fun a148 c148 hu148 hc148 hl148 => ?_
   refine HL.take 3 rfl KR KR KR rfl (Y.move rfl) rfl ?_
   refine HL.take 4 rfl KR KR KR rfl (Y.index _ rfl rfl rfl AO slice40 SM) rfl ?_
   refine HL.take 5 rfl KR KR KR rfl (Y.field rfl field66_2) rfl ?_
   refine HL.loadAgg 6 rfl KR KR KR rfl rfl MM (Eq.trans (flat_sub SlotT.enc_len _ _ _ (List.getElem?_eq_getElem AO) _ _ (Nat.le_of_ble_eq_true rfl)) (by rw [SlotT.enc_eq] <;> rfl)) (by rfl) agg31 rfl fun us152 hul152 hur152 => ?_
   refine HL.take 7 rfl KR KR KR rfl (Y.move rfl) rfl ?_
   refine HL.take 8 rfl KR KR KR rfl (Y.move rfl) rfl ?_
   refine HL.take 9 rfl KR KR KR rfl (Y.move rfl) rfl ?_
   refine HL.take 10 rfl KR KR KR rfl (Y.add rfl rfl OM) rfl ?_
   refine HL.step2 11 15 rfl rfl KR ?_ ?_
   ·refine RL.call rfl func48 rfl rfl (by exact ih n OM _ _ _ p usp (((theDef p t.df).slots[k]).ty) _ l _ pk (d + 1) (h7c _ (List.getElem_mem hka)) OM OM OM OM hli (by exact Kn.rds MM) KK (by exact Kn.rd MM)) ?_
    rintro v157 M157 _ ⟨hs157, rfl, us157, rfl, hr157⟩
    refine RL.addRds hr157 ?_
    have hul157 : us157.length = 3 := hr157.1.trans (Val.enc_len _)
    refine RL.nil ⟨keep_more (hs157) SB, ?_⟩
    refine HL.take 12 rfl KR KR KR rfl (Y.move rfl) rfl ?_
    refine HL.take 13 rfl KR KR KR rfl (Y.extract rfl rfl) rfl ?_
    refine HL.take 14 rfl KR KR KR rfl (Y.extract rfl rfl) rfl ?_
    refine HL.step 15 rfl KR ?_
    refine RL.alloc _ zero53 rfl rfl fun b23 => ?_
    refine RL.nil ⟨keep_more (hs157) SB, ?_⟩
    refine HL.step 16 rfl KR ?_
    refine RL.storeRds 3 rfl rfl RP MM EL (by first | exact Kn.lenRds MM EL | exact Kn.lenLit rfl) size53 ?_
    refine RL.nil ⟨keep_more (hs157) SB, ?_⟩
    refine HL.take 17 rfl KR KR KR rfl (Y.assign rfl) rfl ?_
    refine HL.done KR ?_
    refine hK56 _ _ _ ?_
    refine CW.kp [2, 4, 5, 10, 13, 18, 22, 23, 24] rfl ?_
    refine CW.seq fun K57 hK57 => ?_
    refine CW.region ?_
    refine RL.q (Y.move rfl) rfl ?_
    refine RL.q (Y.assign rfl) rfl ?_
    refine RL.nil ?_
    refine hK57 _ _ _ ?_
    refine CW.kp [2, 3, 4, 5, 10, 13, 18, 22, 23] rfl ?_
    refine CW.region ?_
    refine RL.q (Y.field rfl field53_2) rfl ?_
    refine RL.q (Y.loadOwn rfl MM (by rfl) flat51) rfl ?_
    refine RL.q (Y.loadAllR rfl MM MM EL agg53) rfl ?_
    refine RL.buildSlice us157 elem51 rfl (by decide) (fill1 rfl hul157) rfl fun b164 => ?_
    refine RL.append elem51 rfl rfl PK (SrcOk.own (sz := 3) (m := 1) MM (by simp [hul157]) hr157.one) OM (by unfold lim; omega) rfl fun a165 c165 hc165 => ?_
    refine RL.q (Y.field rfl field53_2) rfl ?_
    refine RL.store _ rfl rfl RP (by rfl) (by simp) (by rfl) size51 ?_
    refine RL.nil ?_
    refine hK55 _ _ _ ?_
    refine CW.kp [2, 3, 4, 5, 10, 13, 18, 22] rfl ?_
    refine CW.region ?_
    refine RL.q (Y.move rfl) rfl ?_
    refine RL.q (Y.add rfl rfl OM) rfl ?_
    refine RL.q (Y.assign rfl) rfl ?_
    refine RL.nil ?_
    refine ⟨(theDef p t.df).slots.length - (k + 1), [(3, _), (22, _)], ?_, (KP [3, 22, 2, 4, 5, 10, 13, 18]), ?_⟩
    · omega
    · refine Turn.kn (Kn.rds (ds := dn.flatMap Val.enc) (us := us) MM) fun hrd => ?_
      refine Turn.front (x := .own b13 53 _) PK ?_
      refine Turn.front (x := .acc (.slice a165 (k + 1) c165) 53 3 (k + 1) (us ++ us157)) PK ?_
      refine Turn.addRds (hrd.append hr157) ?_
      have hps := mkF_pos (l := l) n (((theDef p t.df).slots[k]).ty) pk (d + 1) (h7c _ (List.getElem_mem hka))
      rw [← hb] at hps
      have hsc : ((k + 1 : Nat) : Int) * b = k * b + b := by rw [Int.natCast_add, Int.add_mul]; simp
      refine Turn.drop ⟨[_, _, _], rfl, hs.trans hs157, k + 1, dn ++ [(mkF p l n (((theDef p t.df).slots[k]).ty) pk (d + 1)).1], (mkF p l n (((theDef p t.df).slots[k]).ty) pk (d + 1)).2, a165, c165, us ++ us157, rfl, by omega, rfl, by rw [snoc_flat] <;> rfl, by simp [hdn], by omega, by omega, ?_⟩ SB
      have hst := mJ_step (k := k) (by simp; omega) hz
      simpa using hst
   refine RL.alloc _ zero53 rfl rfl fun b23 => ?_
   refine RL.nil ⟨keep_same SB, ?_⟩
   refine HL.step 11 rfl KR ?_
   refine RL.call rfl func48 rfl rfl (by exact ih n OM _ _ _ p usp (((theDef p t.df).slots[k]).ty) _ l _ pk (d + 1) (h7c _ (List.getElem_mem hka)) OM OM OM OM hli (by exact Kn.rds MM) KK (by exact Kn.rd MM)) ?_
   rintro v157 M157 _ ⟨hs157, rfl, us157, rfl, hr157⟩
   refine RL.addRds hr157 ?_
   have hul157 : us157.length = 3 := hr157.1.trans (Val.enc_len _)
   refine RL.nil ⟨keep_more (hs157) SB, ?_⟩
   refine HL.take 12 rfl KR KR KR rfl (Y.move rfl) rfl ?_
   refine HL.take 13 rfl KR KR KR rfl (Y.extract rfl rfl) rfl ?_
   refine HL.take 14 rfl KR KR KR rfl (Y.extract rfl rfl) rfl ?_
   refine HL.step 16 rfl KR ?_
   refine RL.storeRds 3 rfl rfl RP MM EL (by first | exact Kn.lenRds MM EL | exact Kn.lenLit rfl) size53 ?_
   refine RL.nil ⟨keep_more (hs157) SB, ?_⟩
   refine HL.take 17 rfl KR KR KR rfl (Y.assign rfl) rfl ?_
   refine HL.done KR ?_
   refine hK56 _ _ _ ?_
   refine CW.kp [2, 4, 5, 10, 13, 18, 22, 23, 24] rfl ?_
   refine CW.seq fun K58 hK58 => ?_
   refine CW.region ?_
   refine RL.q (Y.move rfl) rfl ?_
   refine RL.q (Y.assign rfl) rfl ?_
   refine RL.nil ?_
   refine hK58 _ _ _ ?_
   refine CW.kp [2, 3, 4, 5, 10, 13, 18, 22, 23] rfl ?_
   refine CW.region ?_
   refine RL.q (Y.field rfl field53_2) rfl ?_
   refine RL.q (Y.loadOwn rfl MM (by rfl) flat51) rfl ?_
   refine RL.q (Y.loadAllR rfl MM MM EL agg53) rfl ?_
   refine RL.buildSlice us157 elem51 rfl (by decide) (fill1 rfl hul157) rfl fun b164 => ?_
   refine RL.append elem51 rfl rfl PK (SrcOk.own (sz := 3) (m := 1) MM (by simp [hul157]) hr157.one) OM (by unfold lim; omega) rfl fun a165 c165 hc165 => ?_
   refine RL.q (Y.field rfl field53_2) rfl ?_
   refine RL.store _ rfl rfl RP (by rfl) (by simp) (by rfl) size51 ?_
   refine RL.nil ?_
   refine hK55 _ _ _ ?_
   refine CW.kp [2, 3, 4, 5, 10, 13, 18, 22] rfl ?_
   refine CW.region ?_
   refine RL.q (Y.move rfl) rfl ?_
   refine RL.q (Y.add rfl rfl OM) rfl ?_
   refine RL.q (Y.assign rfl) rfl ?_
   refine RL.nil ?_
   refine ⟨(theDef p t.df).slots.length - (k + 1), [(3, _), (22, _)], ?_, (KP [3, 22, 2, 4, 5, 10, 13, 18]), ?_⟩
   · omega
   · refine Turn.kn (Kn.rds (ds := dn.flatMap Val.enc) (us := us) MM) fun hrd => ?_
     refine Turn.front (x := .own b13 53 _) PK ?_
     refine Turn.front (x := .acc (.slice a165 (k + 1) c165) 53 3 (k + 1) (us ++ us157)) PK ?_
     refine Turn.addRds (hrd.append hr157) ?_
     have hps := mkF_pos (l := l) n (((theDef p t.df).slots[k]).ty) pk (d + 1) (h7c _ (List.getElem_mem hka))
     rw [← hb] at hps
     have hsc : ((k + 1 : Nat) : Int) * b = k * b + b := by rw [Int.natCast_add, Int.add_mul]; simp
     refine Turn.drop ⟨[_, _, _], rfl, hs.trans hs157, k + 1, dn ++ [(mkF p l n (((theDef p t.df).slots[k]).ty) pk (d + 1)).1], (mkF p l n (((theDef p t.df).slots[k]).ty) pk (d + 1)).2, a165, c165, us ++ us157, rfl, by omega, rfl, by rw [snoc_flat] <;> rfl, by simp [hdn], by omega, by omega, ?_⟩ SB
     have hst := mJ_step (k := k) (by simp; omega) hz
     simpa using hst
  refine CW.exit ?_
  refine hK51 _ _ _ ?_
  refine CW.seq fun K59 hK59 => ?_
  refine CW.region ?_
  refine RL.q (Y.loadAll rfl MM (by rfl) agg53) rfl ?_
  refine RL.q (Y.move rfl) rfl ?_
  refine RL.storeAgg _ rfl rfl RP (by rfl) (by first | (simp; done) | simp [IdT.vals]) (by first | (simp [Value.oneCell']; done) | simp [Value.oneCell', IdT.vals]) size53 ?_
  refine RL.q (Y.assign rfl) rfl ?_
  refine RL.nil ?_
  refine hK59 _ _ _ ?_
  refine CW.kp [10, 11] rfl ?_
  refine CW.ret ?_
  have e : mkF p l (n + 1) t pos d = (.mk 2 0 dn, pk) := by rw [mkF, ← hce, if_neg h1, if_neg h4, if_neg h5, if_neg h8, mJ_end (by simp; omega) hz]
  refine ⟨_, rfl, ?_⟩
  refine CellAt.mk rfl MM (by first | rfl | assumption) agg53 (Turn.kn (Kn.rds (ds := dn.flatMap Val.enc) (us := us) MM) fun hrd => ?_)
  exact Turn.sealAcc (Γ := Γ) (u := .slice ua k ca) PK hrd (by unfold lim; omega) SB fun M2 hs2 hr2 => ⟨hs.trans hs2, rfl, _, by rw [e], by rw [e]; exact node_rd 2 0 dn (by rw [hdn]; exact hr2)⟩
end Go.Proofs.Ytfgkhhfkodlbpaa
