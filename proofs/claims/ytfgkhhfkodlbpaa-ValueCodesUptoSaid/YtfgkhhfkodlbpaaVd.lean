/- THE WALKS, 4: equal types of the program, sizes, weights, depths. Printed by m04d.py. -/
import Derived.Test.YtfgkhhfkodlbpaaVc
namespace Go.Proofs.Ytfgkhhfkodlbpaa
open Xe

theorem eqTys_ok (N : Nat) (ih : ∀ (w0 : World) (M : Mem) (Γ : List As) (a : Ty) (usa : List Value) (b : Ty) (usb : List Value), a.size < N → Kn w0 M Γ (RdL M a.enc usa) → Kn w0 M Γ (RdL M b.enc usb) → CallOk Try.prog w0 M Γ 17 #[.agg usa.toArray, .agg usb.toArray] (Is M Γ (.bool (decide (a = b)))))
    (w0 : World) (M : Mem) (Γ : List As) (xs ys : List Ty) (u v : Value) (hs : ∀ a ∈ xs, a.size < N) (hu : Kn w0 M Γ (Rd M (.sl xs.length 5 (xs.flatMap Ty.enc)) u)) (hv : Kn w0 M Γ (Rd M (.sl ys.length 5 (ys.flatMap Ty.enc)) v)) :
    CallOk Try.prog w0 M Γ 44 #[u, v, .func (.func 17) #[] #[]] (Is M Γ (.bool (decide (xs = ys)))) := by
  refine CallOk.kn hu fun hu => ?_
  refine CallOk.kn hv fun hv => ?_
  obtain ⟨a1, c1, rfl, hc1, hlim1, hlen1⟩ := hu.slice
  obtain ⟨a2, c2, rfl, hc2, hlim2, hlen2⟩ := hv.slice
  refine enter (f := 44) Try.func44 rfl Try.ntmps44 rfl rfl fun w1 hw1 => ?_
  refine CW.addRd hu ?_
  refine CW.addRd hv ?_
  refine CW.seq fun K1 hK1 => ?_
  refine CW.region ?_
  refine RL.q (Y.assign rfl) rfl ?_
  refine RL.nil ?_
  refine hK1 _ _ _ ?_
  refine CW.kp [0, 1, 2] rfl ?_
  refine CW.seq fun K2 hK2 => ?_
  refine CW.seq fun K3 hK3 => ?_
  refine CW.region ?_
  refine RL.q (Y.move rfl) rfl ?_
  refine RL.q (Y.len rfl Try.underlying29) rfl ?_
  refine RL.q (Y.move rfl) rfl ?_
  refine RL.q (Y.len rfl Try.underlying29) rfl ?_
  refine RL.q (Y.neq rfl rfl) rfl ?_
  refine RL.nil ?_
  refine hK3 _ _ _ ?_
  refine CW.kp [0, 1, 2, 14] rfl ?_
  refine CW.ite rfl (fun h1 => ?_) (fun h1 => ?_)
  ·refine CW.seq fun K4 hK4 => ?_
   refine CW.region ?_
   refine RL.q (Y.assign rfl) rfl ?_
   refine RL.nil ?_
   refine hK4 _ _ _ ?_
   refine CW.kp [6] rfl ?_
   refine CW.ret ?_
   first | exact ⟨_, rfl, Turn.drop ⟨(vbF (fun e => h1 (by first | (rw [e]; done) | fail))), rfl, rfl⟩ SB⟩
  refine CW.skip ?_
  refine hK2 _ _ _ ?_
  refine CW.seq fun K5 hK5 => ?_
  refine CW.seq fun K6 hK6 => ?_
  refine CW.region ?_
  refine RL.q (Y.move rfl) rfl ?_
  refine RL.q (Y.len rfl Try.underlying29) rfl ?_
  refine RL.q (Y.move rfl) rfl ?_
  refine RL.nil ?_
  refine hK6 _ _ _ ?_
  refine CW.kp [1, 2, 15, 16, 17] rfl ?_
  refine CW.block ?_
  -- LOOP 1: live [1, 2, 15, 16, 17] changed [17]
  refine CW.kp [17, 1, 2, 15, 16] rfl ?_
  refine CW.loopF (fun m Lc M1 Γc => ∃ k : Nat, m = xs.length - k ∧ k ≤ xs.length ∧ Lc = [(17, vint k)] ∧ Γc = [] ∧ M1 = M ∧ xs.take k = ys.take k) (xs.length) [(17, _)] _ rfl rfl ⟨0, rfl, Nat.zero_le _, rfl, rfl, rfl, rfl⟩ ?_
  rintro m Lc M Γc hsub ⟨k, rfl, hk, rfl, rfl, rfl, hF0⟩
  refine CW.seq fun K7 hK7 => ?_
  refine CW.region ?_
  refine RL.q (Y.lss rfl rfl) rfl ?_
  refine RL.nil ?_
  refine hK7 _ _ _ ?_
  refine CW.kp [1, 2, 15, 16, 17, 18] rfl ?_
  refine CW.seq fun K8 hK8 => ?_
  refine CW.ite rfl (fun h2 => ?_) (fun h2 => ?_)
  ·have hka : k < xs.length := by omega
   have hkb : k < ys.length := by omega
   refine CW.skip ?_
   refine hK8 _ _ _ ?_
   refine CW.seq fun K9 hK9 => ?_
   refine CW.block ?_
   refine CW.seq fun K10 hK10 => ?_
   refine CW.region ?_
   refine RL.q (Y.move rfl) rfl ?_
   refine RL.q (Y.index _ rfl rfl rfl AO slice29 SM) rfl ?_
   refine RL.loadAgg rfl rfl MM (Eq.trans (flat_take Ty.enc_len _ _ _ (List.getElem?_eq_getElem AO)) (Ty.enc_eq _)) (by rfl) agg31 rfl fun us21 hul21 hur21 => ?_
   refine RL.alloc _ zero31 rfl rfl fun b8 => ?_
   refine RL.q (Y.assign rfl) rfl ?_
   refine RL.storeRds 5 rfl rfl RP MM EL (by first | exact Kn.lenRds MM EL | exact Kn.lenLit rfl) size31 ?_
   refine RL.nil ?_
   refine hK10 _ _ _ ?_
   refine CW.kp [1, 2, 7, 8, 15, 16, 17] rfl ?_
   refine CW.seq fun K11 hK11 => ?_
   refine CW.region ?_
   refine RL.q (Y.move rfl) rfl ?_
   refine RL.q (Y.move rfl) rfl ?_
   refine RL.q (Y.index _ rfl rfl rfl AO slice29 SM) rfl ?_
   refine RL.loadAgg rfl rfl MM (Eq.trans (flat_take Ty.enc_len _ _ _ (List.getElem?_eq_getElem AO)) (Ty.enc_eq _)) (by rfl) agg31 rfl fun us25 hul25 hur25 => ?_
   refine RL.alloc _ zero31 rfl rfl fun b9 => ?_
   refine RL.storeRds 5 rfl rfl RP MM EL (by first | exact Kn.lenRds MM EL | exact Kn.lenLit rfl) size31 ?_
   refine RL.nil ?_
   refine hK11 _ _ _ ?_
   refine CW.kp [1, 2, 8, 9, 15, 16, 17] rfl ?_
   refine CW.seq fun K12 hK12 => ?_
   refine CW.region ?_
   refine RL.q (Y.move rfl) rfl ?_
   refine RL.q (Y.loadAllR rfl MM MM EL agg31) rfl ?_
   refine RL.q (Y.loadAllR rfl MM MM EL agg31) rfl ?_
   refine RL.callfv rfl func17 rfl rfl rfl (by simpa using ih _ _ _ xs[k] _ ys[k] _ (hs _ (List.getElem_mem hka)) (by first | exact Kn.ty MM | fail) (by first | exact Kn.ty MM | fail)) ?_
   refine RL.q (Y.notD rfl) rfl ?_
   refine RL.nil ?_
   refine hK12 _ _ _ ?_
   refine CW.kp [1, 2, 15, 16, 17, 30] rfl ?_
   refine CW.ite rfl (fun h3 => ?_) (fun h3 => ?_)
   ·refine CW.seq fun K13 hK13 => ?_
    refine CW.region ?_
    refine RL.q (Y.assign rfl) rfl ?_
    refine RL.nil ?_
    refine hK13 _ _ _ ?_
    refine CW.kp [6] rfl ?_
    refine CW.ret ?_
    first | exact ⟨_, rfl, Turn.drop ⟨(vbF (fun e => h3 (by simp [e]))), rfl, rfl⟩ SB⟩
   refine CW.skip ?_
   refine hK9 _ _ _ ?_
   refine CW.region ?_
   refine RL.q (Y.add rfl rfl OM) rfl ?_
   refine RL.q (Y.move rfl) rfl ?_
   refine RL.nil ?_
   refine ⟨xs.length - (k + 1), [(17, _)], ?_, (KP [17, 1, 2, 15, 16]), ?_⟩
   · omega
   · exact Turn.drop ⟨[], rfl, hsub, k + 1, rfl, by omega, rfl, rfl, rfl, by rw [List.take_succ_eq_append_getElem hka, List.take_succ_eq_append_getElem hkb, hF0, Decidable.not_not.1 h3]⟩ SB
  refine CW.exit ?_
  refine hK5 _ _ _ ?_
  refine CW.seq fun K14 hK14 => ?_
  refine CW.region ?_
  refine RL.q (Y.assign rfl) rfl ?_
  refine RL.nil ?_
  refine hK14 _ _ _ ?_
  refine CW.kp [6] rfl ?_
  refine CW.ret ?_
  first | exact ⟨_, rfl, Turn.drop ⟨(vbT (take_all_eq hk hF0 OM OM)), rfl, rfl⟩ SB⟩

theorem sameTy_ok (N : Nat) : ∀ (w0 : World) (M : Mem) (Γ : List As) (a : Ty) (usa : List Value) (b : Ty) (usb : List Value) , a.size = N → Kn w0 M Γ (RdL M a.enc usa) → Kn w0 M Γ (RdL M b.enc usb) → 
    CallOk Try.prog w0 M Γ 17 #[.agg usa.toArray, .agg usb.toArray] (Is M Γ (.bool (decide (a = b)))) := by
  induction N using Nat.strongRecOn
  rename_i N ih
  intro w0 M Γ a usa b usb hN ha hb 
  refine CallOk.kn ha fun ha => ?_
  rw [Ty.enc_eq] at ha
  refine CallOk.kn hb fun hb => ?_
  rw [Ty.enc_eq] at hb
  refine enter (f := 17) Try.func17 rfl Try.ntmps17 rfl rfl fun w1 hw1 => ?_
  refine CW.addRds ha ?_
  refine CW.addRds hb ?_
  refine CW.seq fun K1 hK1 => ?_
  refine CW.region ?_
  refine RL.box _ rfl rfl rfl fun b2 => ?_
  refine RL.box _ rfl rfl rfl fun b3 => ?_
  refine RL.q (Y.assign rfl) rfl ?_
  refine RL.nil ?_
  refine hK1 _ _ _ ?_
  refine CW.kp [2, 3] rfl ?_
  refine CW.seq fun K2 hK2 => ?_
  refine CW.region ?_
  refine RL.q (Y.field rfl field31_0) rfl ?_
  refine RL.q (Y.loadOwnV rfl MM MM (by rfl) flat3) rfl ?_
  refine RL.q (Y.field rfl field31_0) rfl ?_
  refine RL.q (Y.loadOwnV rfl MM MM (by rfl) flat3) rfl ?_
  refine RL.qs (Y.eql rfl rfl) rfl (fun g9 => ?_) (fun g9 => ?_)
  ·refine RL.q (Y.move rfl) rfl ?_
   refine RL.qg WG (Y.field rfl field31_1) rfl ?_
   refine RL.qg WG (Y.loadAggV [_, _, _] rfl MM MM (by rfl) agg28) rfl ?_
   refine RL.qg WG (Y.field rfl field31_1) rfl ?_
   refine RL.qg WG (Y.loadAggV [_, _, _] rfl MM MM (by rfl) agg28) rfl ?_
   refine RL.qgs WG (id28_eql rfl rfl) rfl (fun g15 => ?_) (fun g15 => ?_)
   ·refine RL.q (Y.pickT rfl rfl) rfl ?_
    refine RL.q (Y.move rfl) rfl ?_
    refine RL.qg WG (Y.field rfl field31_2) rfl ?_
    refine RL.loadOwnSl WG rfl MM MM (by rfl) flat29 rfl fun a19 c19 hu19 hc19 hl19 => ?_
    refine RL.qg WG (Y.field rfl field31_2) rfl ?_
    refine RL.loadOwnSl WG rfl MM MM (by rfl) flat29 rfl fun a21 c21 hu21 hc21 hl21 => ?_
    refine RL.callv WG func44 rfl rfl (by exact eqTys_ok N (fun w0 M Γ x us y vs hx => ih _ hx w0 M Γ x us y vs rfl) _ _ _ a.kids b.kids _ _ (fun x hx => hN ▸ Ty.size_kid hx) KK KK) ?_
    refine RL.q (Y.pickT rfl rfl) rfl ?_
    refine RL.q (Y.assign rfl) rfl ?_
    refine RL.nil ?_
    refine hK2 _ _ _ ?_
    refine CW.kp [4] rfl ?_
    refine CW.ret ?_
    exact ⟨_, rfl, Turn.drop ⟨(vb ⟨fun e => Ty.ext g9 g15 e, fun e => congrArg Ty.kids e⟩), rfl, rfl⟩ SB⟩
   refine RL.q (Y.pickT rfl rfl) rfl ?_
   refine RL.q (Y.move rfl) rfl ?_
   refine RL.no WG rfl ?_
   refine RL.no WG rfl ?_
   refine RL.no WG rfl ?_
   refine RL.no WG rfl ?_
   refine RL.no WG rfl ?_
   refine RL.q (Y.pickF rfl rfl) rfl ?_
   refine RL.q (Y.assign rfl) rfl ?_
   refine RL.nil ?_
   refine hK2 _ _ _ ?_
   refine CW.kp [4] rfl ?_
   refine CW.ret ?_
   exact ⟨_, rfl, Turn.drop ⟨(vbF (fun e => g15 (by first | (rw [e]; done) | fail))), rfl, rfl⟩ SB⟩
  refine RL.q (Y.move rfl) rfl ?_
  refine RL.no WG rfl ?_
  refine RL.no WG rfl ?_
  refine RL.no WG rfl ?_
  refine RL.no WG rfl ?_
  refine RL.no WG rfl ?_
  refine RL.q (Y.pickF rfl rfl) rfl ?_
  refine RL.q (Y.move rfl) rfl ?_
  refine RL.no WG rfl ?_
  refine RL.no WG rfl ?_
  refine RL.no WG rfl ?_
  refine RL.no WG rfl ?_
  refine RL.no WG rfl ?_
  refine RL.q (Y.pickF rfl rfl) rfl ?_
  refine RL.q (Y.assign rfl) rfl ?_
  refine RL.nil ?_
  refine hK2 _ _ _ ?_
  refine CW.kp [4] rfl ?_
  refine CW.ret ?_
  exact ⟨_, rfl, Turn.drop ⟨(vbF (fun e => g9 (by first | (rw [e]; done) | fail))), rfl, rfl⟩ SB⟩

theorem rsize_ok (N : Nat) : ∀ (w0 : World) (M : Mem) (Γ : List As) (v : Val) (usv : List Value) , v.size = N → Kn w0 M Γ (RdL M v.enc usv) → 
    CallOk Try.prog w0 M Γ 28 #[.agg usv.toArray] (Is M Γ (vint (w64 (v.size : Nat)))) := by
  induction N using Nat.strongRecOn
  rename_i N ih
  intro w0 M Γ v usv hN hv 
  refine CallOk.kn hv fun hv => ?_
  rw [Val.enc_eq] at hv
  refine enter (f := 28) Try.func28 rfl Try.ntmps28 rfl rfl fun w1 hw1 => ?_
  refine CW.addRds hv ?_
  refine CW.seq fun K1 hK1 => ?_
  refine CW.region ?_
  refine RL.box _ rfl rfl rfl fun b1 => ?_
  refine RL.q (Y.assign rfl) rfl ?_
  refine RL.nil ?_
  refine hK1 _ _ _ ?_
  refine CW.kp [1] rfl ?_
  refine CW.seq fun K2 hK2 => ?_
  refine CW.region ?_
  refine RL.q (Y.assign rfl) rfl ?_
  refine RL.nil ?_
  refine hK2 _ _ _ ?_
  refine CW.kp [1, 3] rfl ?_
  refine CW.seq fun K3 hK3 => ?_
  refine CW.seq fun K4 hK4 => ?_
  refine CW.region ?_
  refine RL.q (Y.assign rfl) rfl ?_
  refine RL.nil ?_
  refine hK4 _ _ _ ?_
  refine CW.kp [1, 3, 4] rfl ?_
  refine CW.block ?_
  -- LOOP 1: live [1, 3, 4] changed [3, 4]
  refine CW.kp [3, 4, 1] rfl ?_
  refine CW.loopF (fun m Lc M1 Γc => ∃ k : Nat, m = v.kids.length - k ∧ k ≤ v.kids.length ∧ Lc = [(3, vint (w64 (1 + Val.sizes (v.kids.take k) : Nat))), (4, vint k)] ∧ Γc = [] ∧ M1 = M) (v.kids.length) [(3, _), (4, _)] _ rfl rfl ⟨0, rfl, Nat.zero_le _, rfl, rfl, rfl⟩ ?_
  rintro m Lc M Γc hs ⟨k, rfl, hk, rfl, rfl, rfl⟩
  refine CW.seq fun K5 hK5 => ?_
  refine CW.seq fun K6 hK6 => ?_
  refine CW.region ?_
  refine RL.q (Y.move rfl) rfl ?_
  refine RL.q (Y.field rfl field53_2) rfl ?_
  refine RL.loadOwnSl rfl rfl MM MM (by rfl) flat51 rfl fun a7 c7 hu7 hc7 hl7 => ?_
  refine RL.q (Y.len rfl Try.underlying51) rfl ?_
  refine RL.q (Y.lss rfl rfl) rfl ?_
  refine RL.nil ?_
  refine hK6 _ _ _ ?_
  refine CW.kp [1, 3, 4, 9] rfl ?_
  refine CW.ite rfl (fun h1 => ?_) (fun h1 => ?_)
  ·have hka : k < v.kids.length := by omega
   have hss := Val.sizes_succ v.kids k hka
   refine CW.skip ?_
   refine hK5 _ _ _ ?_
   refine CW.seq fun K7 hK7 => ?_
   refine CW.block ?_
   refine CW.region ?_
   refine RL.q (Y.move rfl) rfl ?_
   refine RL.q (Y.field rfl field53_2) rfl ?_
   refine RL.loadOwnSl rfl rfl MM MM (by rfl) flat51 rfl fun a14 c14 hu14 hc14 hl14 => ?_
   refine RL.q (Y.move rfl) rfl ?_
   refine RL.q (Y.index _ rfl rfl rfl AO slice51 SM) rfl ?_
   refine RL.loadAgg rfl rfl MM (Eq.trans (flat_take Val.enc_len _ _ _ (List.getElem?_eq_getElem AO)) (Val.enc_eq _)) (by rfl) agg53 rfl fun us17 hul17 hur17 => ?_
   refine RL.callv rfl func28 rfl rfl (by exact ih _ (by rw [← hN]; exact Val.size_kid (List.getElem_mem hka)) _ _ _ v.kids[k] _ rfl KK) ?_
   refine RL.q (Y.addW rfl rfl) rfl ?_
   refine RL.q (Y.assign rfl) rfl ?_
   refine RL.nil ?_
   refine hK7 _ _ _ ?_
   refine CW.kp [1, 3, 4] rfl ?_
   refine CW.region ?_
   refine RL.q (Y.move rfl) rfl ?_
   refine RL.q (Y.add rfl rfl OM) rfl ?_
   refine RL.q (Y.assign rfl) rfl ?_
   refine RL.nil ?_
   refine ⟨v.kids.length - (k + 1), [(3, _), (4, _)], ?_, (KP [3, 4, 1]), ?_⟩
   · omega
   · exact Turn.drop ⟨[], rfl, hs, k + 1, rfl, by omega, by rw [hss, ← Nat.add_assoc, w64_nat]; rfl, rfl, rfl⟩ SB
  refine CW.exit ?_
  refine hK3 _ _ _ ?_
  refine CW.seq fun K8 hK8 => ?_
  refine CW.region ?_
  refine RL.q (Y.move rfl) rfl ?_
  refine RL.q (Y.assign rfl) rfl ?_
  refine RL.nil ?_
  refine hK8 _ _ _ ?_
  refine CW.kp [2] rfl ?_
  refine CW.ret ?_
  rw [show k = v.kids.length from by omega, List.take_length, ← Val.size_eq]
  exact ⟨_, rfl, Turn.drop ⟨rfl, rfl, rfl⟩ SB⟩

theorem size_ok (N : Nat) : ∀ (w0 : World) (M : Mem) (Γ : List As) (v : Val) (usv : List Value) , v.size = N → Kn w0 M Γ (RdL M v.enc usv) → 
    CallOk Try.prog w0 M Γ 27 #[.agg usv.toArray] (Is M Γ (vint (w64 (v.size : Nat)))) := by
  induction N using Nat.strongRecOn
  rename_i N ih
  intro w0 M Γ v usv hN hv 
  refine CallOk.kn hv fun hv => ?_
  rw [Val.enc_eq] at hv
  refine enter (f := 27) Try.func27 rfl Try.ntmps27 rfl rfl fun w1 hw1 => ?_
  refine CW.addRds hv ?_
  refine CW.seq fun K1 hK1 => ?_
  refine CW.region ?_
  refine RL.box _ rfl rfl rfl fun b1 => ?_
  refine RL.q (Y.assign rfl) rfl ?_
  refine RL.nil ?_
  refine hK1 _ _ _ ?_
  refine CW.kp [1] rfl ?_
  refine CW.seq fun K2 hK2 => ?_
  refine CW.region ?_
  refine RL.q (Y.assign rfl) rfl ?_
  refine RL.nil ?_
  refine hK2 _ _ _ ?_
  refine CW.kp [1, 3] rfl ?_
  refine CW.seq fun K3 hK3 => ?_
  refine CW.seq fun K4 hK4 => ?_
  refine CW.region ?_
  refine RL.q (Y.field rfl field53_2) rfl ?_
  refine RL.loadOwnSl rfl rfl MM MM (by rfl) flat51 rfl fun a7 c7 hu7 hc7 hl7 => ?_
  refine RL.q (Y.len rfl Try.underlying51) rfl ?_
  refine RL.q (Y.move rfl) rfl ?_
  refine RL.nil ?_
  refine hK4 _ _ _ ?_
  refine CW.kp [3, 7, 8, 9] rfl ?_
  refine CW.block ?_
  -- LOOP 1: live [3, 7, 8, 9] changed [3, 9]
  refine CW.kp [3, 9, 7, 8] rfl ?_
  refine CW.loopF (fun m Lc M1 Γc => ∃ k : Nat, m = v.kids.length - k ∧ k ≤ v.kids.length ∧ Lc = [(3, vint (w64 (1 + Val.sizes (v.kids.take k) : Nat))), (9, vint k)] ∧ Γc = [] ∧ M1 = M) (v.kids.length) [(3, _), (9, _)] _ rfl rfl ⟨0, rfl, Nat.zero_le _, rfl, rfl, rfl⟩ ?_
  rintro m Lc M Γc hs ⟨k, rfl, hk, rfl, rfl, rfl⟩
  refine CW.seq fun K5 hK5 => ?_
  refine CW.region ?_
  refine RL.q (Y.lss rfl rfl) rfl ?_
  refine RL.nil ?_
  refine hK5 _ _ _ ?_
  refine CW.kp [3, 7, 8, 9, 10] rfl ?_
  refine CW.seq fun K6 hK6 => ?_
  refine CW.ite rfl (fun h1 => ?_) (fun h1 => ?_)
  ·have hka : k < v.kids.length := by omega
   have hss := Val.sizes_succ v.kids k hka
   refine CW.skip ?_
   refine hK6 _ _ _ ?_
   refine CW.seq fun K7 hK7 => ?_
   refine CW.block ?_
   refine CW.seq fun K8 hK8 => ?_
   refine CW.region ?_
   refine RL.q (Y.index _ rfl rfl rfl AO slice51 SM) rfl ?_
   refine RL.loadAgg rfl rfl MM (Eq.trans (flat_take Val.enc_len _ _ _ (List.getElem?_eq_getElem AO)) (Val.enc_eq _)) (by rfl) agg53 rfl fun us12 hul12 hur12 => ?_
   refine RL.alloc _ zero53 rfl rfl fun b5 => ?_
   refine RL.storeRds 3 rfl rfl RP MM EL (by first | exact Kn.lenRds MM EL | exact Kn.lenLit rfl) size53 ?_
   refine RL.nil ?_
   refine hK8 _ _ _ ?_
   refine CW.kp [3, 5, 7, 8, 9] rfl ?_
   refine CW.region ?_
   refine RL.q (Y.move rfl) rfl ?_
   refine RL.q (Y.loadAllR rfl MM MM EL agg53) rfl ?_
   refine RL.callv rfl func27 rfl rfl (by exact ih _ (by rw [← hN]; exact Val.size_kid (List.getElem_mem hka)) _ _ _ v.kids[k] _ rfl KK) ?_
   refine RL.q (Y.addW rfl rfl) rfl ?_
   refine RL.q (Y.assign rfl) rfl ?_
   refine RL.nil ?_
   refine hK7 _ _ _ ?_
   refine CW.kp [3, 7, 8, 9] rfl ?_
   refine CW.region ?_
   refine RL.q (Y.add rfl rfl OM) rfl ?_
   refine RL.q (Y.move rfl) rfl ?_
   refine RL.nil ?_
   refine ⟨v.kids.length - (k + 1), [(3, _), (9, _)], ?_, (KP [3, 9, 7, 8]), ?_⟩
   · omega
   · exact Turn.drop ⟨[], rfl, hs, k + 1, rfl, by omega, by rw [hss, ← Nat.add_assoc, w64_nat]; rfl, rfl, rfl⟩ SB
  refine CW.exit ?_
  refine hK3 _ _ _ ?_
  refine CW.seq fun K9 hK9 => ?_
  refine CW.region ?_
  refine RL.q (Y.move rfl) rfl ?_
  refine RL.q (Y.assign rfl) rfl ?_
  refine RL.nil ?_
  refine hK9 _ _ _ ?_
  refine CW.kp [2] rfl ?_
  refine CW.ret ?_
  rw [show k = v.kids.length from by omega, List.take_length, ← Val.size_eq]
  exact ⟨_, rfl, Turn.drop ⟨rfl, rfl, rfl⟩ SB⟩

theorem rdepth_ok (N : Nat) : ∀ (w0 : World) (M : Mem) (Γ : List As) (v : Val) (usv : List Value) , v.depth = N → Kn w0 M Γ (RdL M v.enc usv) → v.depth ≤ 4611686018427387904 → 
    CallOk Try.prog w0 M Γ 49 #[.agg usv.toArray] (Is M Γ (vint (v.depth : Nat))) := by
  induction N using Nat.strongRecOn
  rename_i N ih
  intro w0 M Γ v usv hN hv hd
  have hdd := Val.depth_eq v
  refine CallOk.kn hv fun hv => ?_
  rw [Val.enc_eq] at hv
  refine enter (f := 49) Try.func49 rfl Try.ntmps49 rfl rfl fun w1 hw1 => ?_
  refine CW.addRds hv ?_
  refine CW.seq fun K1 hK1 => ?_
  refine CW.region ?_
  refine RL.box _ rfl rfl rfl fun b1 => ?_
  refine RL.q (Y.assign rfl) rfl ?_
  refine RL.nil ?_
  refine hK1 _ _ _ ?_
  refine CW.kp [1] rfl ?_
  refine CW.seq fun K2 hK2 => ?_
  refine CW.region ?_
  refine RL.q (Y.assign rfl) rfl ?_
  refine RL.nil ?_
  refine hK2 _ _ _ ?_
  refine CW.kp [1, 3] rfl ?_
  refine CW.seq fun K3 hK3 => ?_
  refine CW.seq fun K4 hK4 => ?_
  refine CW.region ?_
  refine RL.q (Y.assign rfl) rfl ?_
  refine RL.nil ?_
  refine hK4 _ _ _ ?_
  refine CW.kp [1, 3, 4] rfl ?_
  refine CW.block ?_
  -- LOOP 1: live [1, 3, 4] changed [3, 4]
  refine CW.kp [3, 4, 1] rfl ?_
  refine CW.loopF (fun m Lc M1 Γc => ∃ k : Nat, m = v.kids.length - k ∧ k ≤ v.kids.length ∧ Lc = [(3, vint (Val.depths (v.kids.take k) : Nat)), (4, vint k)] ∧ Γc = [] ∧ M1 = M) (v.kids.length) [(3, _), (4, _)] _ rfl rfl ⟨0, rfl, Nat.zero_le _, rfl, rfl, rfl⟩ ?_
  rintro m Lc M Γc hs ⟨k, rfl, hk, rfl, rfl, rfl⟩
  refine CW.seq fun K5 hK5 => ?_
  refine CW.seq fun K6 hK6 => ?_
  refine CW.region ?_
  refine RL.q (Y.move rfl) rfl ?_
  refine RL.q (Y.field rfl field53_2) rfl ?_
  refine RL.loadOwnSl rfl rfl MM MM (by rfl) flat51 rfl fun a7 c7 hu7 hc7 hl7 => ?_
  refine RL.q (Y.len rfl Try.underlying51) rfl ?_
  refine RL.q (Y.lss rfl rfl) rfl ?_
  refine RL.nil ?_
  refine hK6 _ _ _ ?_
  refine CW.kp [1, 3, 4, 9] rfl ?_
  refine CW.ite rfl (fun h1 => ?_) (fun h1 => ?_)
  ·have hka : k < v.kids.length := by omega
   have hss := Val.depths_succ v.kids k hka
   have hdk := Val.depth_kid (List.getElem_mem hka)
   refine CW.skip ?_
   refine hK5 _ _ _ ?_
   refine CW.seq fun K7 hK7 => ?_
   refine CW.block ?_
   refine CW.region ?_
   refine RL.q (Y.move rfl) rfl ?_
   refine RL.q (Y.field rfl field53_2) rfl ?_
   refine RL.loadOwnSl rfl rfl MM MM (by rfl) flat51 rfl fun a14 c14 hu14 hc14 hl14 => ?_
   refine RL.q (Y.move rfl) rfl ?_
   refine RL.q (Y.index _ rfl rfl rfl AO slice51 SM) rfl ?_
   refine RL.loadAgg rfl rfl MM (Eq.trans (flat_take Val.enc_len _ _ _ (List.getElem?_eq_getElem AO)) (Val.enc_eq _)) (by rfl) agg53 rfl fun us17 hul17 hur17 => ?_
   refine RL.callv rfl func49 rfl rfl (by exact ih _ (by rw [← hN]; exact Val.depth_kid (List.getElem_mem hka)) _ _ _ v.kids[k] _ rfl KK OM) ?_
   refine RL.q (Y.max2 rfl rfl) rfl ?_
   refine RL.q (Y.assign rfl) rfl ?_
   refine RL.nil ?_
   refine hK7 _ _ _ ?_
   refine CW.kp [1, 3, 4] rfl ?_
   refine CW.region ?_
   refine RL.q (Y.move rfl) rfl ?_
   refine RL.q (Y.add rfl rfl OM) rfl ?_
   refine RL.q (Y.assign rfl) rfl ?_
   refine RL.nil ?_
   refine ⟨v.kids.length - (k + 1), [(3, _), (4, _)], ?_, (KP [3, 4, 1]), ?_⟩
   · omega
   · exact Turn.drop ⟨[], rfl, hs, k + 1, rfl, by omega, by rw [hss, cast_max]; rfl, rfl, rfl⟩ SB
  refine CW.exit ?_
  refine hK3 _ _ _ ?_
  refine CW.seq fun K8 hK8 => ?_
  have hka : k = v.kids.length := by omega
  subst hka
  have ht : v.kids.take v.kids.length = v.kids := List.take_length
  refine CW.region ?_
  refine RL.q (Y.move rfl) rfl ?_
  refine RL.q (Y.add rfl rfl (by rw [ht]; omega)) rfl ?_
  refine RL.q (Y.assign rfl) rfl ?_
  refine RL.nil ?_
  refine hK8 _ _ _ ?_
  refine CW.kp [2] rfl ?_
  refine CW.ret ?_
  rw [ht, show ((Val.depths v.kids : Nat) : Int) + 1 = (v.depth : Nat) from by omega]
  exact ⟨_, rfl, Turn.drop ⟨rfl, rfl, rfl⟩ SB⟩

theorem arr104 : arrB Try.prog 104 5 3 1 = true := by kernel_rfl

theorem weights_ok (w0 : World) (M : Mem) (Γ : List As) (v : Val) (usv : List Value)  (hv : Kn w0 M Γ (RdL M v.enc usv)) (h0 : 0 ≤ v.kind) (h4 : v.kind ≤ 4) (hok : v.Ok) :
    CallOk Try.prog w0 M Γ 53 #[.agg usv.toArray] (Is M Γ (vint (w64 v.own))) := by
  refine CallOk.kn hv fun hv => ?_
  rw [Val.enc_eq] at hv
  refine enter (f := 53) Try.func53 rfl Try.ntmps53 rfl rfl fun w1 hw1 => ?_
  refine CW.addRds hv ?_
  refine CW.seq fun K1 hK1 => ?_
  refine CW.region ?_
  refine RL.box _ rfl rfl rfl fun b1 => ?_
  refine RL.q (Y.assign rfl) rfl ?_
  refine RL.nil ?_
  refine hK1 _ _ _ ?_
  refine CW.kp [1] rfl ?_
  refine CW.seq fun K2 hK2 => ?_
  refine CW.region ?_
  refine RL.q (Y.field rfl field53_1) rfl ?_
  refine RL.q (Y.loadOwnV rfl MM MM (by rfl) flat3) rfl ?_
  refine RL.q (Y.field rfl field53_1) rfl ?_
  refine RL.q (Y.loadOwnV rfl MM MM (by rfl) flat3) rfl ?_
  refine RL.q (Y.field rfl field53_1) rfl ?_
  refine RL.q (Y.loadOwnV rfl MM MM (by rfl) flat3) rfl ?_
  refine RL.q (Y.field rfl field53_2) rfl ?_
  refine RL.loadOwnSl rfl rfl MM MM (by rfl) flat51 rfl fun a11 c11 hu11 hc11 hl11 => ?_
  refine RL.q (Y.len rfl Try.underlying51) rfl ?_
  refine RL.q (Y.buildArr [vint v.n, vint v.n, vint 0, vint v.n, vint v.kids.length] rfl zero104 arr104 (by rfl)) rfl ?_
  refine RL.alloc _ zero104 rfl rfl fun b3 => ?_
  refine RL.storeAgg _ rfl rfl RP (by rfl) (by first | (simp; done) | simp [IdT.vals]) (by first | (simp [Value.oneCell']; done) | simp [Value.oneCell', IdT.vals]) size104 ?_
  refine RL.nil ?_
  refine hK2 _ _ _ ?_
  refine CW.kp [1, 3] rfl ?_
  refine CW.seq fun K3 hK3 => ?_
  refine CW.seq fun K4 hK4 => ?_
  refine CW.region ?_
  refine RL.q (Y.field rfl field53_0) rfl ?_
  refine RL.q (Y.loadOwnV rfl MM MM (by rfl) flat3) rfl ?_
  refine RL.qs (Y.eql rfl rfl) rfl (fun g16 => ?_) (fun g16 => ?_)
  ·refine RL.q (Y.move rfl) rfl ?_
   refine RL.qg WG (Y.field rfl field53_1) rfl ?_
   refine RL.qg WG (Y.loadOwnV rfl MM MM (by rfl) flat3) rfl ?_
   refine RL.qg WG (Y.lss rfl rfl) rfl ?_
   refine RL.q (Y.pickT rfl rfl) rfl ?_
   refine RL.nil ?_
   refine hK4 _ _ _ ?_
   refine CW.kp [1, 3, 21] rfl ?_
   refine CW.ite rfl (fun h1 => ?_) (fun h1 => ?_)
   ·refine CW.seq fun K5 hK5 => ?_
    refine CW.region ?_
    refine RL.q (Y.field rfl field53_1) rfl ?_
    refine RL.q (Y.loadOwnV rfl MM MM (by rfl) flat3) rfl ?_
    refine RL.q (Y.negW rfl) rfl ?_
    refine RL.q (Y.assign rfl) rfl ?_
    refine RL.nil ?_
    refine hK5 _ _ _ ?_
    refine CW.kp [2] rfl ?_
    refine CW.ret ?_
    rw [show v.own = -v.n from by rw [Val.own, if_pos g16, if_pos h1]] 
    exact ⟨_, rfl, Turn.drop ⟨rfl, rfl, rfl⟩ SB⟩
   refine CW.skip ?_
   refine hK3 _ _ _ ?_
   refine CW.seq fun K6 hK6 => ?_
   have hneg : ¬ (v.kind = 0 ∧ v.n < 0) := by omega
   refine CW.region ?_
   refine RL.q (Y.field rfl field53_0) rfl ?_
   refine RL.q (Y.loadOwnV rfl MM MM (by rfl) flat3) rfl ?_
   refine RL.q (Y.indexArr v.kind.toNat rfl rfl OM OM arr104) rfl ?_
   refine RL.q (Y.loadOwn rfl MM (own_get h0 h4 hok.n OM hneg OM) flat3) rfl ?_
   refine RL.q (Y.assign rfl) rfl ?_
   refine RL.nil ?_
   refine hK6 _ _ _ ?_
   refine CW.kp [2] rfl ?_
   refine CW.ret ?_
   exact ⟨_, rfl, Turn.drop ⟨rfl, rfl, rfl⟩ SB⟩
  refine RL.q (Y.move rfl) rfl ?_
  refine RL.no WG rfl ?_
  refine RL.no WG rfl ?_
  refine RL.no WG rfl ?_
  refine RL.q (Y.pickF rfl rfl) rfl ?_
  refine RL.nil ?_
  refine hK4 _ _ _ ?_
  refine CW.kp [1, 3, 21] rfl ?_
  refine CW.no rfl ?_
  refine CW.skip ?_
  refine hK3 _ _ _ ?_
  refine CW.seq fun K7 hK7 => ?_
  have hneg : ¬ (v.kind = 0 ∧ v.n < 0) := by omega
  refine CW.region ?_
  refine RL.q (Y.field rfl field53_0) rfl ?_
  refine RL.q (Y.loadOwnV rfl MM MM (by rfl) flat3) rfl ?_
  refine RL.q (Y.indexArr v.kind.toNat rfl rfl OM OM arr104) rfl ?_
  refine RL.q (Y.loadOwn rfl MM (own_get h0 h4 hok.n OM hneg OM) flat3) rfl ?_
  refine RL.q (Y.assign rfl) rfl ?_
  refine RL.nil ?_
  refine hK7 _ _ _ ?_
  refine CW.kp [2] rfl ?_
  refine CW.ret ?_
  exact ⟨_, rfl, Turn.drop ⟨rfl, rfl, rfl⟩ SB⟩

theorem weight_ok (N : Nat) : ∀ (w0 : World) (M : Mem) (Γ : List As) (v : Val) (usv : List Value) , v.size = N → Kn w0 M Γ (RdL M v.enc usv) → v.Ok → 
    CallOk Try.prog w0 M Γ 29 #[.agg usv.toArray] (Is M Γ (vint (w64 v.wt))) := by
  induction N using Nat.strongRecOn
  rename_i N ih
  intro w0 M Γ v usv hN hv hok
  refine CallOk.kn hv fun hv => ?_
  rw [Val.enc_eq] at hv
  refine enter (f := 29) Try.func29 rfl Try.ntmps29 rfl rfl fun w1 hw1 => ?_
  refine CW.addRds hv ?_
  refine CW.seq fun K1 hK1 => ?_
  refine CW.region ?_
  refine RL.box _ rfl rfl rfl fun b1 => ?_
  refine RL.q (Y.assign rfl) rfl ?_
  refine RL.nil ?_
  refine hK1 _ _ _ ?_
  refine CW.kp [1] rfl ?_
  refine CW.seq fun K2 hK2 => ?_
  refine CW.seq fun K3 hK3 => ?_
  refine CW.region ?_
  refine RL.q (Y.field rfl field53_0) rfl ?_
  refine RL.q (Y.loadOwnV rfl MM MM (by rfl) flat3) rfl ?_
  refine RL.qs (Y.lss rfl rfl) rfl (fun g8 => ?_) (fun g8 => ?_)
  ·refine RL.q (Y.move rfl) rfl ?_
   refine RL.no WG rfl ?_
   refine RL.no WG rfl ?_
   refine RL.no WG rfl ?_
   refine RL.q (Y.pickT rfl rfl) rfl ?_
   refine RL.nil ?_
   refine hK3 _ _ _ ?_
   refine CW.kp [1, 13] rfl ?_
   refine CW.yes rfl ?_
   refine CW.seq fun K4 hK4 => ?_
   refine CW.region ?_
   refine RL.q (Y.assign rfl) rfl ?_
   refine RL.nil ?_
   refine hK4 _ _ _ ?_
   refine CW.kp [2] rfl ?_
   refine CW.ret ?_
   rw [wt_none OM]
   exact ⟨_, rfl, Turn.drop ⟨rfl, rfl, rfl⟩ SB⟩
  refine RL.q (Y.move rfl) rfl ?_
  refine RL.qg WG (Y.field rfl field53_0) rfl ?_
  refine RL.qg WG (Y.loadOwnV rfl MM MM (by rfl) flat3) rfl ?_
  refine RL.qg WG (Y.gtr rfl rfl) rfl ?_
  refine RL.q (Y.pickF rfl rfl) rfl ?_
  refine RL.nil ?_
  refine hK3 _ _ _ ?_
  refine CW.kp [1, 13] rfl ?_
  refine CW.ite rfl (fun h1 => ?_) (fun h1 => ?_)
  ·refine CW.seq fun K5 hK5 => ?_
   refine CW.region ?_
   refine RL.q (Y.assign rfl) rfl ?_
   refine RL.nil ?_
   refine hK5 _ _ _ ?_
   refine CW.kp [2] rfl ?_
   refine CW.ret ?_
   rw [wt_none OM]
   exact ⟨_, rfl, Turn.drop ⟨rfl, rfl, rfl⟩ SB⟩
  refine CW.skip ?_
  refine hK2 _ _ _ ?_
  refine CW.seq fun K6 hK6 => ?_
  have h04 : 0 ≤ v.kind ∧ v.kind ≤ 4 := by omega
  refine CW.region ?_
  refine RL.q (Y.loadAllR rfl MM MM EL agg53) rfl ?_
  refine RL.callv rfl func53 rfl rfl (by exact weights_ok _ _ _ v _ KK h04.1 h04.2 hok) ?_
  refine RL.q (Y.assign rfl) rfl ?_
  refine RL.nil ?_
  refine hK6 _ _ _ ?_
  refine CW.kp [1, 3] rfl ?_
  refine CW.seq fun K7 hK7 => ?_
  refine CW.seq fun K8 hK8 => ?_
  refine CW.region ?_
  refine RL.q (Y.field rfl field53_0) rfl ?_
  refine RL.q (Y.loadOwnV rfl MM MM (by rfl) flat3) rfl ?_
  refine RL.qs (Y.eql rfl rfl) rfl (fun g18 => ?_) (fun g18 => ?_)
  ·refine RL.q (Y.move rfl) rfl ?_
   refine RL.no WG rfl ?_
   refine RL.no WG rfl ?_
   refine RL.no WG rfl ?_
   refine RL.q (Y.pickT rfl rfl) rfl ?_
   refine RL.nil ?_
   refine hK8 _ _ _ ?_
   refine CW.kp [1, 3, 23] rfl ?_
   refine CW.yes rfl ?_
   refine CW.seq fun K9 hK9 => ?_
   refine CW.region ?_
   refine RL.q (Y.move rfl) rfl ?_
   refine RL.q (Y.assign rfl) rfl ?_
   refine RL.nil ?_
   refine hK9 _ _ _ ?_
   refine CW.kp [2] rfl ?_
   refine CW.ret ?_
   rw [wt_leaf OM]
   exact ⟨_, rfl, Turn.drop ⟨rfl, rfl, rfl⟩ SB⟩
  refine RL.q (Y.move rfl) rfl ?_
  refine RL.qg WG (Y.field rfl field53_0) rfl ?_
  refine RL.qg WG (Y.loadOwnV rfl MM MM (by rfl) flat3) rfl ?_
  refine RL.qg WG (Y.eql rfl rfl) rfl ?_
  refine RL.q (Y.pickF rfl rfl) rfl ?_
  refine RL.nil ?_
  refine hK8 _ _ _ ?_
  refine CW.kp [1, 3, 23] rfl ?_
  refine CW.ite rfl (fun h2 => ?_) (fun h2 => ?_)
  ·refine CW.seq fun K10 hK10 => ?_
   refine CW.region ?_
   refine RL.q (Y.move rfl) rfl ?_
   refine RL.q (Y.assign rfl) rfl ?_
   refine RL.nil ?_
   refine hK10 _ _ _ ?_
   refine CW.kp [2] rfl ?_
   refine CW.ret ?_
   rw [wt_leaf OM]
   exact ⟨_, rfl, Turn.drop ⟨rfl, rfl, rfl⟩ SB⟩
  refine CW.skip ?_
  refine hK7 _ _ _ ?_
  refine CW.seq fun K11 hK11 => ?_
  refine CW.seq fun K12 hK12 => ?_
  refine CW.region ?_
  refine RL.q (Y.field rfl field53_2) rfl ?_
  refine RL.loadOwnSl rfl rfl MM MM (by rfl) flat51 rfl fun a26 c26 hu26 hc26 hl26 => ?_
  refine RL.q (Y.len rfl Try.underlying51) rfl ?_
  refine RL.q (Y.move rfl) rfl ?_
  refine RL.nil ?_
  refine hK12 _ _ _ ?_
  refine CW.kp [3, 26, 27, 28] rfl ?_
  refine CW.block ?_
  -- LOOP 1: live [3, 26, 27, 28] changed [3, 28]
  refine CW.kp [3, 28, 26, 27] rfl ?_
  refine CW.loopF (fun m Lc M1 Γc => ∃ k : Nat, m = v.kids.length - k ∧ k ≤ v.kids.length ∧ Lc = [(3, vint (w64 (v.own + Val.wts (v.kids.take k)))), (28, vint k)] ∧ Γc = [] ∧ M1 = M) (v.kids.length) [(3, _), (28, _)] _ rfl rfl ⟨0, rfl, Nat.zero_le _, by simp [Val.wts], rfl, rfl⟩ ?_
  rintro m Lc M Γc hs ⟨k, rfl, hk, rfl, rfl, rfl⟩
  refine CW.seq fun K13 hK13 => ?_
  refine CW.region ?_
  refine RL.q (Y.lss rfl rfl) rfl ?_
  refine RL.nil ?_
  refine hK13 _ _ _ ?_
  refine CW.kp [3, 26, 27, 28, 29] rfl ?_
  refine CW.seq fun K14 hK14 => ?_
  refine CW.ite rfl (fun h3 => ?_) (fun h3 => ?_)
  ·have hka : k < v.kids.length := by omega
   refine CW.skip ?_
   refine hK14 _ _ _ ?_
   refine CW.seq fun K15 hK15 => ?_
   refine CW.block ?_
   refine CW.seq fun K16 hK16 => ?_
   refine CW.region ?_
   refine RL.q (Y.index _ rfl rfl rfl AO slice51 SM) rfl ?_
   refine RL.loadAgg rfl rfl MM (Eq.trans (flat_take Val.enc_len _ _ _ (List.getElem?_eq_getElem AO)) (Val.enc_eq _)) (by rfl) agg53 rfl fun us31 hul31 hur31 => ?_
   refine RL.alloc _ zero53 rfl rfl fun b5 => ?_
   refine RL.storeRds 3 rfl rfl RP MM EL (by first | exact Kn.lenRds MM EL | exact Kn.lenLit rfl) size53 ?_
   refine RL.nil ?_
   refine hK16 _ _ _ ?_
   refine CW.kp [3, 5, 26, 27, 28] rfl ?_
   refine CW.region ?_
   refine RL.q (Y.move rfl) rfl ?_
   refine RL.q (Y.loadAllR rfl MM MM EL agg53) rfl ?_
   refine RL.callv rfl func29 rfl rfl (by exact ih _ (by rw [← hN]; exact Val.size_kid (List.getElem_mem hka)) _ _ _ v.kids[k] _ rfl KK (hok.kid (List.getElem_mem hka))) ?_
   refine RL.q (Y.addW rfl rfl) rfl ?_
   refine RL.q (Y.assign rfl) rfl ?_
   refine RL.nil ?_
   refine hK15 _ _ _ ?_
   refine CW.kp [3, 26, 27, 28] rfl ?_
   refine CW.region ?_
   refine RL.q (Y.add rfl rfl OM) rfl ?_
   refine RL.q (Y.move rfl) rfl ?_
   refine RL.nil ?_
   refine ⟨v.kids.length - (k + 1), [(3, _), (28, _)], ?_, (KP [3, 28, 26, 27]), ?_⟩
   · omega
   · exact Turn.drop ⟨[], rfl, hs, k + 1, rfl, by omega, by rw [Val.wts_succ _ _ hka, ← Int.add_assoc, w64_sum]; rfl, rfl, rfl⟩ SB
  refine CW.exit ?_
  refine hK11 _ _ _ ?_
  refine CW.seq fun K17 hK17 => ?_
  refine CW.region ?_
  refine RL.q (Y.move rfl) rfl ?_
  refine RL.q (Y.assign rfl) rfl ?_
  refine RL.nil ?_
  refine hK17 _ _ _ ?_
  refine CW.kp [2] rfl ?_
  refine CW.ret ?_
  rw [show k = v.kids.length from by omega, List.take_length, ← wt_node OM OM]
  exact ⟨_, rfl, Turn.drop ⟨rfl, rfl, rfl⟩ SB⟩

theorem rweight_ok (N : Nat) : ∀ (w0 : World) (M : Mem) (Γ : List As) (v : Val) (usv : List Value) , v.size = N → Kn w0 M Γ (RdL M v.enc usv) → v.Ok → 
    CallOk Try.prog w0 M Γ 30 #[.agg usv.toArray] (Is M Γ (vint (w64 v.wt))) := by
  induction N using Nat.strongRecOn
  rename_i N ih
  intro w0 M Γ v usv hN hv hok
  have hn1 := hok.n
  unfold InI at hn1
  have hw := Val.wt_eq v
  refine CallOk.kn hv fun hv => ?_
  rw [Val.enc_eq] at hv
  refine enter (f := 30) Try.func30 rfl Try.ntmps30 rfl rfl fun w1 hw1 => ?_
  refine CW.addRds hv ?_
  refine CW.seq fun K1 hK1 => ?_
  refine CW.region ?_
  refine RL.box _ rfl rfl rfl fun b1 => ?_
  refine RL.q (Y.assign rfl) rfl ?_
  refine RL.nil ?_
  refine hK1 _ _ _ ?_
  refine CW.kp [1] rfl ?_
  refine CW.seq fun K2 hK2 => ?_
  refine CW.region ?_
  refine RL.q (Y.assign rfl) rfl ?_
  refine RL.nil ?_
  refine hK2 _ _ _ ?_
  refine CW.kp [1, 3] rfl ?_
  refine CW.seq fun K3 hK3 => ?_
  refine CW.seq fun K4 hK4 => ?_
  refine CW.region ?_
  refine RL.q (Y.assign rfl) rfl ?_
  refine RL.nil ?_
  refine hK4 _ _ _ ?_
  refine CW.kp [1, 3, 4] rfl ?_
  refine CW.block ?_
  -- LOOP 1: live [1, 3, 4] changed [3, 4]
  refine CW.kp [3, 4, 1] rfl ?_
  refine CW.loopF (fun m Lc M1 Γc => ∃ k : Nat, m = v.kids.length - k ∧ k ≤ v.kids.length ∧ Lc = [(3, vint (w64 (Val.wts (v.kids.take k)))), (4, vint k)] ∧ Γc = [] ∧ M1 = M) (v.kids.length) [(3, _), (4, _)] _ rfl rfl ⟨0, rfl, Nat.zero_le _, rfl, rfl, rfl⟩ ?_
  rintro m Lc M Γc hs ⟨k, rfl, hk, rfl, rfl, rfl⟩
  refine CW.seq fun K5 hK5 => ?_
  refine CW.seq fun K6 hK6 => ?_
  refine CW.region ?_
  refine RL.q (Y.move rfl) rfl ?_
  refine RL.q (Y.field rfl field53_2) rfl ?_
  refine RL.loadOwnSl rfl rfl MM MM (by rfl) flat51 rfl fun a7 c7 hu7 hc7 hl7 => ?_
  refine RL.q (Y.len rfl Try.underlying51) rfl ?_
  refine RL.q (Y.lss rfl rfl) rfl ?_
  refine RL.nil ?_
  refine hK6 _ _ _ ?_
  refine CW.kp [1, 3, 4, 9] rfl ?_
  refine CW.ite rfl (fun h1 => ?_) (fun h1 => ?_)
  ·have hka : k < v.kids.length := by omega
   refine CW.skip ?_
   refine hK5 _ _ _ ?_
   refine CW.seq fun K7 hK7 => ?_
   refine CW.block ?_
   refine CW.region ?_
   refine RL.q (Y.move rfl) rfl ?_
   refine RL.q (Y.field rfl field53_2) rfl ?_
   refine RL.loadOwnSl rfl rfl MM MM (by rfl) flat51 rfl fun a14 c14 hu14 hc14 hl14 => ?_
   refine RL.q (Y.move rfl) rfl ?_
   refine RL.q (Y.index _ rfl rfl rfl AO slice51 SM) rfl ?_
   refine RL.loadAgg rfl rfl MM (Eq.trans (flat_take Val.enc_len _ _ _ (List.getElem?_eq_getElem AO)) (Val.enc_eq _)) (by rfl) agg53 rfl fun us17 hul17 hur17 => ?_
   refine RL.callv rfl func30 rfl rfl (by exact ih _ (by rw [← hN]; exact Val.size_kid (List.getElem_mem hka)) _ _ _ v.kids[k] _ rfl KK (hok.kid (List.getElem_mem hka))) ?_
   refine RL.q (Y.addW rfl rfl) rfl ?_
   refine RL.q (Y.assign rfl) rfl ?_
   refine RL.nil ?_
   refine hK7 _ _ _ ?_
   refine CW.kp [1, 3, 4] rfl ?_
   refine CW.region ?_
   refine RL.q (Y.move rfl) rfl ?_
   refine RL.q (Y.add rfl rfl OM) rfl ?_
   refine RL.q (Y.assign rfl) rfl ?_
   refine RL.nil ?_
   refine ⟨v.kids.length - (k + 1), [(3, _), (4, _)], ?_, (KP [3, 4, 1]), ?_⟩
   · omega
   · exact Turn.drop ⟨[], rfl, hs, k + 1, rfl, by omega, by rw [Val.wts_succ _ _ hka, w64_sum]; rfl, rfl, rfl⟩ SB
  refine CW.exit ?_
  refine hK3 _ _ _ ?_
  refine CW.seq fun K8 hK8 => ?_
  refine CW.seq fun K9 hK9 => ?_
  obtain rfl : k = v.kids.length := by omega
  rw [show v.kids.take v.kids.length = v.kids from List.take_length]
  refine CW.region ?_
  refine RL.q (Y.field rfl field53_0) rfl ?_
  refine RL.q (Y.loadOwnV rfl MM MM (by rfl) flat3) rfl ?_
  refine RL.q (Y.eql rfl rfl) rfl ?_
  refine RL.nil ?_
  refine hK9 _ _ _ ?_
  refine CW.kp [1, 3, 22] rfl ?_
  refine CW.ite rfl (fun h2 => ?_) (fun h2 => ?_)
  ·refine CW.seq fun K10 hK10 => ?_
   refine CW.seq fun K11 hK11 => ?_
   refine CW.region ?_
   refine RL.q (Y.field rfl field53_1) rfl ?_
   refine RL.q (Y.loadOwnV rfl MM MM (by rfl) flat3) rfl ?_
   refine RL.q (Y.lss rfl rfl) rfl ?_
   refine RL.nil ?_
   refine hK11 _ _ _ ?_
   refine CW.kp [1, 25] rfl ?_
   refine CW.ite rfl (fun h3 => ?_) (fun h3 => ?_)
   ·refine CW.seq fun K12 hK12 => ?_
    refine CW.region ?_
    refine RL.q (Y.field rfl field53_1) rfl ?_
    refine RL.q (Y.loadOwnV rfl MM MM (by rfl) flat3) rfl ?_
    refine RL.q (Y.negW rfl) rfl ?_
    refine RL.q (Y.assign rfl) rfl ?_
    refine RL.nil ?_
    refine hK12 _ _ _ ?_
    refine CW.kp [2] rfl ?_
    refine CW.ret ?_
    rw [hw, if_pos h2, if_pos h3]
    exact ⟨_, rfl, Turn.drop ⟨rfl, rfl, rfl⟩ SB⟩
   refine CW.skip ?_
   refine hK10 _ _ _ ?_
   refine CW.seq fun K13 hK13 => ?_
   refine CW.region ?_
   refine RL.q (Y.field rfl field53_1) rfl ?_
   refine RL.q (Y.loadOwnV rfl MM MM (by rfl) flat3) rfl ?_
   refine RL.q (Y.assign rfl) rfl ?_
   refine RL.nil ?_
   refine hK13 _ _ _ ?_
   refine CW.kp [2] rfl ?_
   refine CW.ret ?_
   rw [hw, if_pos h2, if_neg h3, w64_in OM]
   exact ⟨_, rfl, Turn.drop ⟨rfl, rfl, rfl⟩ SB⟩
  refine CW.skip ?_
  refine hK8 _ _ _ ?_
  refine CW.seq fun K14 hK14 => ?_
  refine CW.seq fun K15 hK15 => ?_
  refine CW.region ?_
  refine RL.q (Y.field rfl field53_0) rfl ?_
  refine RL.q (Y.loadOwnV rfl MM MM (by rfl) flat3) rfl ?_
  refine RL.q (Y.eql rfl rfl) rfl ?_
  refine RL.nil ?_
  refine hK15 _ _ _ ?_
  refine CW.kp [1, 3, 33] rfl ?_
  refine CW.ite rfl (fun h4 => ?_) (fun h4 => ?_)
  ·refine CW.seq fun K16 hK16 => ?_
   refine CW.region ?_
   refine RL.q (Y.field rfl field53_1) rfl ?_
   refine RL.q (Y.loadOwnV rfl MM MM (by rfl) flat3) rfl ?_
   refine RL.q (Y.assign rfl) rfl ?_
   refine RL.nil ?_
   refine hK16 _ _ _ ?_
   refine CW.kp [2] rfl ?_
   refine CW.ret ?_
   rw [hw, if_neg h2, if_pos h4, w64_in OM]
   exact ⟨_, rfl, Turn.drop ⟨rfl, rfl, rfl⟩ SB⟩
  refine CW.skip ?_
  refine hK14 _ _ _ ?_
  refine CW.seq fun K17 hK17 => ?_
  refine CW.seq fun K18 hK18 => ?_
  refine CW.region ?_
  refine RL.q (Y.field rfl field53_0) rfl ?_
  refine RL.q (Y.loadOwnV rfl MM MM (by rfl) flat3) rfl ?_
  refine RL.q (Y.eql rfl rfl) rfl ?_
  refine RL.nil ?_
  refine hK18 _ _ _ ?_
  refine CW.kp [1, 3, 38] rfl ?_
  refine CW.ite rfl (fun h5 => ?_) (fun h5 => ?_)
  ·refine CW.seq fun K19 hK19 => ?_
   refine CW.region ?_
   refine RL.q (Y.move rfl) rfl ?_
   refine RL.q (Y.assign rfl) rfl ?_
   refine RL.nil ?_
   refine hK19 _ _ _ ?_
   refine CW.kp [2] rfl ?_
   refine CW.ret ?_
   rw [hw, if_neg h2, if_neg h4, if_pos h5]
   exact ⟨_, rfl, Turn.drop ⟨rfl, rfl, rfl⟩ SB⟩
  refine CW.skip ?_
  refine hK17 _ _ _ ?_
  refine CW.seq fun K20 hK20 => ?_
  refine CW.seq fun K21 hK21 => ?_
  refine CW.region ?_
  refine RL.q (Y.field rfl field53_0) rfl ?_
  refine RL.q (Y.loadOwnV rfl MM MM (by rfl) flat3) rfl ?_
  refine RL.q (Y.eql rfl rfl) rfl ?_
  refine RL.nil ?_
  refine hK21 _ _ _ ?_
  refine CW.kp [1, 3, 42] rfl ?_
  refine CW.ite rfl (fun h6 => ?_) (fun h6 => ?_)
  ·refine CW.seq fun K22 hK22 => ?_
   refine CW.region ?_
   refine RL.q (Y.field rfl field53_1) rfl ?_
   refine RL.q (Y.loadOwnV rfl MM MM (by rfl) flat3) rfl ?_
   refine RL.q (Y.move rfl) rfl ?_
   refine RL.q (Y.addW rfl rfl) rfl ?_
   refine RL.q (Y.assign rfl) rfl ?_
   refine RL.nil ?_
   refine hK22 _ _ _ ?_
   refine CW.kp [2] rfl ?_
   refine CW.ret ?_
   rw [hw, if_neg h2, if_neg h4, if_neg h5, if_pos h6, ← w64_add2]
   exact ⟨_, rfl, Turn.drop ⟨rfl, rfl, rfl⟩ SB⟩
  refine CW.skip ?_
  refine hK20 _ _ _ ?_
  refine CW.seq fun K23 hK23 => ?_
  refine CW.seq fun K24 hK24 => ?_
  refine CW.region ?_
  refine RL.q (Y.field rfl field53_0) rfl ?_
  refine RL.q (Y.loadOwnV rfl MM MM (by rfl) flat3) rfl ?_
  refine RL.q (Y.eql rfl rfl) rfl ?_
  refine RL.nil ?_
  refine hK24 _ _ _ ?_
  refine CW.kp [1, 3, 49] rfl ?_
  refine CW.ite rfl (fun h7 => ?_) (fun h7 => ?_)
  ·refine CW.seq fun K25 hK25 => ?_
   refine CW.region ?_
   refine RL.q (Y.field rfl field53_2) rfl ?_
   refine RL.loadOwnSl rfl rfl MM MM (by rfl) flat51 rfl fun a51 c51 hu51 hc51 hl51 => ?_
   refine RL.q (Y.len rfl Try.underlying51) rfl ?_
   refine RL.q (Y.move rfl) rfl ?_
   refine RL.q (Y.addW rfl rfl) rfl ?_
   refine RL.q (Y.assign rfl) rfl ?_
   refine RL.nil ?_
   refine hK25 _ _ _ ?_
   refine CW.kp [2] rfl ?_
   refine CW.ret ?_
   rw [hw, if_neg h2, if_neg h4, if_neg h5, if_neg h6, if_pos h7, ← w64_add2]
   exact ⟨_, rfl, Turn.drop ⟨rfl, rfl, rfl⟩ SB⟩
  refine CW.skip ?_
  refine hK23 _ _ _ ?_
  refine CW.seq fun K26 hK26 => ?_
  refine CW.region ?_
  refine RL.q (Y.assign rfl) rfl ?_
  refine RL.nil ?_
  refine hK26 _ _ _ ?_
  refine CW.kp [2] rfl ?_
  refine CW.ret ?_
  rw [hw, if_neg h2, if_neg h4, if_neg h5, if_neg h6, if_neg h7]
  exact ⟨_, rfl, Turn.drop ⟨rfl, rfl, rfl⟩ SB⟩
end Go.Proofs.Ytfgkhhfkodlbpaa
