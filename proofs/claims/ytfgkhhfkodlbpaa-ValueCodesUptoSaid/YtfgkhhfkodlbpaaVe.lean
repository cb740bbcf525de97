/- THE WALKS, 5: the order of values. Printed by m04e.py. -/
import Derived.Test.YtfgkhhfkodlbpaaVd
namespace Go.Proofs.Ytfgkhhfkodlbpaa
open Xe

theorem isNaN_ok (w0 : World) (M : Mem) (Γ : List As) (n : Int)    :
    CallOk Try.prog w0 M Γ 69 #[vint n] (Is M Γ (.bool false)) := by
  refine enter (f := 69) Try.func69 rfl Try.ntmps69 rfl rfl fun w1 hw1 => ?_
  refine CW.seq fun K1 hK1 => ?_
  refine CW.region ?_
  refine RL.q (Y.assign rfl) rfl ?_
  refine RL.nil ?_
  refine hK1 _ _ _ ?_
  refine CW.kp [0] rfl ?_
  refine CW.seq fun K2 hK2 => ?_
  refine CW.region ?_
  refine RL.q (Y.move rfl) rfl ?_
  refine RL.q (Y.move rfl) rfl ?_
  refine RL.q (Y.neq rfl rfl) rfl ?_
  refine RL.q (Y.assign rfl) rfl ?_
  refine RL.nil ?_
  refine hK2 _ _ _ ?_
  refine CW.kp [2] rfl ?_
  refine CW.ret ?_
  exact ⟨_, rfl, Turn.drop ⟨by simp, rfl, rfl⟩ SB⟩

theorem cmpI_ok (w0 : World) (M : Mem) (Γ : List As) (a : Int) (b : Int)    :
    CallOk Try.prog w0 M Γ 55 #[vint a, vint b] (Is M Γ (vint (cmpI a b))) := by
  refine enter (f := 55) Try.func55 rfl Try.ntmps55 rfl rfl fun w1 hw1 => ?_
  refine CW.seq fun K1 hK1 => ?_
  refine CW.region ?_
  refine RL.q (Y.assign rfl) rfl ?_
  refine RL.nil ?_
  refine hK1 _ _ _ ?_
  refine CW.kp [0, 1] rfl ?_
  refine CW.seq fun K2 hK2 => ?_
  refine CW.region ?_
  refine RL.q (Y.move rfl) rfl ?_
  refine RL.callv rfl func69 rfl rfl (by exact isNaN_ok _ _ _ _) ?_
  refine RL.q (Y.assign rfl) rfl ?_
  refine RL.nil ?_
  refine hK2 _ _ _ ?_
  refine CW.kp [0, 1, 5] rfl ?_
  refine CW.seq fun K3 hK3 => ?_
  refine CW.region ?_
  refine RL.q (Y.move rfl) rfl ?_
  refine RL.callv rfl func69 rfl rfl (by exact isNaN_ok _ _ _ _) ?_
  refine RL.q (Y.assign rfl) rfl ?_
  refine RL.nil ?_
  refine hK3 _ _ _ ?_
  refine CW.kp [0, 1, 5, 6] rfl ?_
  refine CW.seq fun K4 hK4 => ?_
  refine CW.seq fun K5 hK5 => ?_
  refine CW.region ?_
  refine RL.q (Y.move rfl) rfl ?_
  refine RL.nil ?_
  refine hK5 _ _ _ ?_
  refine CW.kp [0, 1, 6, 11] rfl ?_
  refine CW.no rfl ?_
  refine CW.skip ?_
  refine hK4 _ _ _ ?_
  refine CW.seq fun K6 hK6 => ?_
  refine CW.seq fun K7 hK7 => ?_
  refine CW.region ?_
  refine RL.q (Y.move rfl) rfl ?_
  refine RL.nil ?_
  refine hK7 _ _ _ ?_
  refine CW.kp [0, 1, 13] rfl ?_
  refine CW.no rfl ?_
  refine CW.skip ?_
  refine hK6 _ _ _ ?_
  refine CW.seq fun K8 hK8 => ?_
  refine CW.seq fun K9 hK9 => ?_
  refine CW.region ?_
  refine RL.q (Y.move rfl) rfl ?_
  refine RL.q (Y.move rfl) rfl ?_
  refine RL.q (Y.lss rfl rfl) rfl ?_
  refine RL.nil ?_
  refine hK9 _ _ _ ?_
  refine CW.kp [0, 1, 16] rfl ?_
  refine CW.ite rfl (fun h4 => ?_) (fun h4 => ?_)
  ·refine CW.seq fun K10 hK10 => ?_
   refine CW.region ?_
   refine RL.q (Y.assign rfl) rfl ?_
   refine RL.nil ?_
   refine hK10 _ _ _ ?_
   refine CW.kp [4] rfl ?_
   refine CW.ret ?_
   rw [cmpI_lt h4]
   exact ⟨_, rfl, Turn.drop ⟨rfl, rfl, rfl⟩ SB⟩
  refine CW.skip ?_
  refine hK8 _ _ _ ?_
  refine CW.seq fun K11 hK11 => ?_
  refine CW.seq fun K12 hK12 => ?_
  refine CW.region ?_
  refine RL.q (Y.move rfl) rfl ?_
  refine RL.q (Y.move rfl) rfl ?_
  refine RL.q (Y.gtr rfl rfl) rfl ?_
  refine RL.nil ?_
  refine hK12 _ _ _ ?_
  refine CW.kp [19] rfl ?_
  refine CW.ite rfl (fun h5 => ?_) (fun h5 => ?_)
  ·refine CW.seq fun K13 hK13 => ?_
   refine CW.region ?_
   refine RL.q (Y.assign rfl) rfl ?_
   refine RL.nil ?_
   refine hK13 _ _ _ ?_
   refine CW.kp [4] rfl ?_
   refine CW.ret ?_
   rw [cmpI_gt h5]
   exact ⟨_, rfl, Turn.drop ⟨rfl, rfl, rfl⟩ SB⟩
  refine CW.skip ?_
  refine hK11 _ _ _ ?_
  refine CW.seq fun K14 hK14 => ?_
  refine CW.region ?_
  refine RL.q (Y.assign rfl) rfl ?_
  refine RL.nil ?_
  refine hK14 _ _ _ ?_
  refine CW.kp [4] rfl ?_
  refine CW.ret ?_
  rw [show cmpI a b = 0 from by unfold cmpI; rw [if_neg h4, if_neg h5]]
  exact ⟨_, rfl, Turn.drop ⟨rfl, rfl, rfl⟩ SB⟩

theorem or_ok (w0 : World) (M : Mem) (Γ : List As) (l : List Int) (p : Addr) (hc : CellsK w0 M Γ p (ints l)) (hl : l.length ≤ 1000) :
    CallOk Try.prog w0 M Γ 54 #[.slice (some p) l.length l.length] (Is M Γ (vint (orI l))) := by
  refine enter (f := 54) Try.func54 rfl Try.ntmps54 rfl rfl fun w1 hw1 => ?_
  refine CW.seq fun K1 hK1 => ?_
  refine CW.region ?_
  refine RL.q (Y.assign rfl) rfl ?_
  refine RL.nil ?_
  refine hK1 _ _ _ ?_
  refine CW.kp [0] rfl ?_
  refine CW.seq fun K2 hK2 => ?_
  refine CW.region ?_
  refine RL.q (Y.assign rfl) rfl ?_
  refine RL.nil ?_
  refine hK2 _ _ _ ?_
  refine CW.kp [0, 3] rfl ?_
  refine CW.seq fun K3 hK3 => ?_
  refine CW.seq fun K4 hK4 => ?_
  refine CW.region ?_
  refine RL.q (Y.move rfl) rfl ?_
  refine RL.q (Y.len rfl Try.underlying22) rfl ?_
  refine RL.q (Y.move rfl) rfl ?_
  refine RL.nil ?_
  refine hK4 _ _ _ ?_
  refine CW.kp [3, 6, 7, 8] rfl ?_
  refine CW.block ?_
  -- LOOP 1: live [3, 6, 7, 8] changed [8]
  refine CW.kp [8, 3, 6, 7] rfl ?_
  refine CW.loopF (fun m Lc M1 Γc => ∃ k : Nat, m = l.length - k ∧ k ≤ l.length ∧ Lc = [(8, vint k)] ∧ Γc = [] ∧ M1 = M ∧ ∀ j (hj : j < l.length), j < k → ¬ l[j] ≠ 0) (l.length) [(8, _)] _ rfl rfl ⟨0, rfl, Nat.zero_le _, rfl, rfl, rfl, fun _ _ h => absurd h (Nat.not_lt_zero _)⟩ ?_
  rintro m Lc M Γc hs ⟨k, rfl, hk, rfl, rfl, rfl, hF0⟩
  refine CW.seq fun K5 hK5 => ?_
  refine CW.region ?_
  refine RL.q (Y.lss rfl rfl) rfl ?_
  refine RL.nil ?_
  refine hK5 _ _ _ ?_
  refine CW.kp [3, 6, 7, 8, 9] rfl ?_
  refine CW.seq fun K6 hK6 => ?_
  refine CW.ite rfl (fun h1 => ?_) (fun h1 => ?_)
  ·have hka : k < l.length := by omega
   refine CW.skip ?_
   refine hK6 _ _ _ ?_
   refine CW.seq fun K7 hK7 => ?_
   refine CW.block ?_
   refine CW.seq fun K8 hK8 => ?_
   refine CW.region ?_
   refine RL.q (Y.index k rfl rfl rfl hka slice22 (fun _ _ => rfl)) rfl ?_
   refine RL.q (Y.load rfl flat3 (fun w hw => hc w hw _ _ (ints_get (List.getElem?_eq_getElem hka) (Nat.mul_one _)))) rfl ?_
   refine RL.q (Y.assign rfl) rfl ?_
   refine RL.nil ?_
   refine hK8 _ _ _ ?_
   refine CW.kp [3, 5, 6, 7, 8] rfl ?_
   refine CW.seq fun K9 hK9 => ?_
   refine CW.region ?_
   refine RL.q (Y.move rfl) rfl ?_
   refine RL.q (Y.move rfl) rfl ?_
   refine RL.q (Y.neq rfl rfl) rfl ?_
   refine RL.nil ?_
   refine hK9 _ _ _ ?_
   refine CW.kp [3, 5, 6, 7, 8, 14] rfl ?_
   refine CW.ite rfl (fun h2 => ?_) (fun h2 => ?_)
   ·refine CW.seq fun K10 hK10 => ?_
    refine CW.region ?_
    refine RL.q (Y.move rfl) rfl ?_
    refine RL.q (Y.assign rfl) rfl ?_
    refine RL.nil ?_
    refine hK10 _ _ _ ?_
    refine CW.kp [2] rfl ?_
    refine CW.ret ?_
    rw [orI_hit hka hF0 h2]
    exact ⟨_, rfl, Turn.drop ⟨rfl, rfl, rfl⟩ SB⟩
   refine CW.skip ?_
   refine hK7 _ _ _ ?_
   refine CW.region ?_
   refine RL.q (Y.add rfl rfl OM) rfl ?_
   refine RL.q (Y.move rfl) rfl ?_
   refine RL.nil ?_
   refine ⟨l.length - (k + 1), [(8, _)], ?_, (KP [8, 3, 6, 7]), ?_⟩
   · omega
   · exact Turn.drop ⟨[], rfl, hs, k + 1, rfl, by omega, rfl, rfl, rfl, all_step (p := fun x => ¬ x ≠ 0) hF0 hka h2⟩ SB
  refine CW.exit ?_
  refine hK3 _ _ _ ?_
  refine CW.seq fun K11 hK11 => ?_
  refine CW.region ?_
  refine RL.q (Y.move rfl) rfl ?_
  refine RL.q (Y.assign rfl) rfl ?_
  refine RL.nil ?_
  refine hK11 _ _ _ ?_
  refine CW.kp [2] rfl ?_
  refine CW.ret ?_
  rw [orI_miss fun j hj => hF0 j hj OM]
  exact ⟨_, rfl, Turn.drop ⟨rfl, rfl, rfl⟩ SB⟩

theorem cmpVs_ok (N : Nat) (ih : ∀ (w0 : World) (M : Mem) (Γ : List As) (a : Val) (usa : List Value) (b : Val) (usb : List Value), a.size < N → Kn w0 M Γ (RdL M a.enc usa) → Kn w0 M Γ (RdL M b.enc usb) → CallOk Try.prog w0 M Γ 31 #[.agg usa.toArray, .agg usb.toArray] (Is M Γ (vint (cmpV a b))))
    (w0 : World) (M : Mem) (Γ : List As) (xs ys : List Val) (u v : Value) (hs : ∀ a ∈ xs, a.size < N) (hu : Kn w0 M Γ (Rd M (.sl xs.length 3 (xs.flatMap Val.enc)) u)) (hv : Kn w0 M Γ (Rd M (.sl ys.length 3 (ys.flatMap Val.enc)) v)) :
    CallOk Try.prog w0 M Γ 56 #[u, v, .func (.func 31) #[] #[]] (Is M Γ (vint (cmpVs xs ys))) := by
  refine CallOk.kn hu fun hu => ?_
  refine CallOk.kn hv fun hv => ?_
  obtain ⟨a1, c1, rfl, hc1, hlim1, hlen1⟩ := hu.slice
  obtain ⟨a2, c2, rfl, hc2, hlim2, hlen2⟩ := hv.slice
  refine enter (f := 56) Try.func56 rfl Try.ntmps56 rfl rfl fun w1 hw1 => ?_
  refine CW.addRd hu ?_
  refine CW.addRd hv ?_
  refine CW.seq fun K1 hK1 => ?_
  refine CW.region ?_
  refine RL.q (Y.assign rfl) rfl ?_
  refine RL.nil ?_
  refine hK1 _ _ _ ?_
  refine CW.kp [0, 1, 2] rfl ?_
  refine CW.seq fun K2 hK2 => ?_
  refine CW.seq fun K3 hK3 => ?_
  refine CW.region ?_
  refine RL.q (Y.move rfl) rfl ?_
  refine RL.q (Y.len rfl Try.underlying51) rfl ?_
  refine RL.q (Y.move rfl) rfl ?_
  refine RL.nil ?_
  refine hK3 _ _ _ ?_
  refine CW.kp [0, 1, 2, 11, 12, 13] rfl ?_
  refine CW.block ?_
  -- LOOP 1: live [0, 1, 2, 11, 12, 13] changed [13]
  refine CW.kp [13, 0, 1, 2, 11, 12] rfl ?_
  refine CW.loopF (fun m Lc M1 Γc => ∃ k : Nat, m = xs.length - k ∧ k ≤ xs.length ∧ Lc = [(13, vint k)] ∧ Γc = [] ∧ M1 = M ∧ k ≤ ys.length ∧ ∀ j (hj : j < xs.length) (hj2 : j < ys.length), j < k → cmpV xs[j] ys[j] = 0) (xs.length) [(13, _)] _ rfl rfl ⟨0, rfl, Nat.zero_le _, rfl, rfl, rfl, Nat.zero_le _, fun _ _ _ h => absurd h (Nat.not_lt_zero _)⟩ ?_
  rintro m Lc M Γc hsub ⟨k, rfl, hk, rfl, rfl, rfl, hF0, hF1⟩
  refine CW.seq fun K4 hK4 => ?_
  refine CW.region ?_
  refine RL.q (Y.lss rfl rfl) rfl ?_
  refine RL.nil ?_
  refine hK4 _ _ _ ?_
  refine CW.kp [0, 1, 2, 11, 12, 13, 14] rfl ?_
  refine CW.seq fun K5 hK5 => ?_
  refine CW.ite rfl (fun h1 => ?_) (fun h1 => ?_)
  ·have hka : k < xs.length := by omega
   refine CW.skip ?_
   refine hK5 _ _ _ ?_
   refine CW.seq fun K6 hK6 => ?_
   refine CW.block ?_
   refine CW.seq fun K7 hK7 => ?_
   refine CW.region ?_
   refine RL.q (Y.move rfl) rfl ?_
   refine RL.q (Y.index _ rfl rfl rfl AO slice51 SM) rfl ?_
   refine RL.loadAgg rfl rfl MM (Eq.trans (flat_take Val.enc_len _ _ _ (List.getElem?_eq_getElem AO)) (Val.enc_eq _)) (by rfl) agg53 rfl fun us17 hul17 hur17 => ?_
   refine RL.alloc _ zero53 rfl rfl fun b8 => ?_
   refine RL.q (Y.assign rfl) rfl ?_
   refine RL.storeRds 3 rfl rfl RP MM EL (by first | exact Kn.lenRds MM EL | exact Kn.lenLit rfl) size53 ?_
   refine RL.nil ?_
   refine hK7 _ _ _ ?_
   refine CW.kp [0, 1, 2, 7, 8, 11, 12, 13] rfl ?_
   refine CW.seq fun K8 hK8 => ?_
   refine CW.seq fun K9 hK9 => ?_
   refine CW.region ?_
   refine RL.q (Y.move rfl) rfl ?_
   refine RL.q (Y.move rfl) rfl ?_
   refine RL.q (Y.len rfl Try.underlying51) rfl ?_
   refine RL.q (Y.geq rfl rfl) rfl ?_
   refine RL.nil ?_
   refine hK9 _ _ _ ?_
   refine CW.kp [0, 1, 2, 7, 8, 11, 12, 13, 21] rfl ?_
   refine CW.ite rfl (fun h2 => ?_) (fun h2 => ?_)
   ·refine CW.seq fun K10 hK10 => ?_
    refine CW.region ?_
    refine RL.q (Y.assign rfl) rfl ?_
    refine RL.nil ?_
    refine hK10 _ _ _ ?_
    refine CW.kp [6] rfl ?_
    refine CW.ret ?_
    rw [cmpVs_long OM (fun j hj hj2 => hF1 j hj hj2 OM)]
    exact ⟨_, rfl, Turn.drop ⟨rfl, rfl, rfl⟩ SB⟩
   have hkb : k < ys.length := by omega
   refine CW.skip ?_
   refine hK8 _ _ _ ?_
   refine CW.seq fun K11 hK11 => ?_
   refine CW.region ?_
   refine RL.q (Y.move rfl) rfl ?_
   refine RL.q (Y.move rfl) rfl ?_
   refine RL.q (Y.index _ rfl rfl rfl AO slice51 SM) rfl ?_
   refine RL.loadAgg rfl rfl MM (Eq.trans (flat_take Val.enc_len _ _ _ (List.getElem?_eq_getElem AO)) (Val.enc_eq _)) (by rfl) agg53 rfl fun us25 hul25 hur25 => ?_
   refine RL.alloc _ zero53 rfl rfl fun b9 => ?_
   refine RL.storeRds 3 rfl rfl RP MM EL (by first | exact Kn.lenRds MM EL | exact Kn.lenLit rfl) size53 ?_
   refine RL.nil ?_
   refine hK11 _ _ _ ?_
   refine CW.kp [0, 1, 2, 8, 9, 11, 12, 13] rfl ?_
   refine CW.seq fun K12 hK12 => ?_
   refine CW.region ?_
   refine RL.q (Y.move rfl) rfl ?_
   refine RL.q (Y.loadAllR rfl MM MM EL agg53) rfl ?_
   refine RL.q (Y.loadAllR rfl MM MM EL agg53) rfl ?_
   refine RL.callfv rfl func31 rfl rfl rfl (by simpa using ih _ _ _ xs[k] _ ys[k] _ (hs _ (List.getElem_mem hka)) (by first | exact Kn.val MM | fail) (by first | exact Kn.val MM | fail)) ?_
   refine RL.q (Y.assign rfl) rfl ?_
   refine RL.nil ?_
   refine hK12 _ _ _ ?_
   refine CW.kp [0, 1, 2, 10, 11, 12, 13] rfl ?_
   refine CW.seq fun K13 hK13 => ?_
   refine CW.region ?_
   refine RL.q (Y.move rfl) rfl ?_
   refine RL.q (Y.neq rfl rfl) rfl ?_
   refine RL.nil ?_
   refine hK13 _ _ _ ?_
   refine CW.kp [0, 1, 2, 10, 11, 12, 13, 31] rfl ?_
   refine CW.ite rfl (fun h3 => ?_) (fun h3 => ?_)
   ·refine CW.seq fun K14 hK14 => ?_
    refine CW.region ?_
    refine RL.q (Y.move rfl) rfl ?_
    refine RL.q (Y.assign rfl) rfl ?_
    refine RL.nil ?_
    refine hK14 _ _ _ ?_
    refine CW.kp [6] rfl ?_
    refine CW.ret ?_
    rw [cmpVs_hit hka hkb (fun j hj hj2 hlt => hF1 j hj hj2 hlt) h3]
    exact ⟨_, rfl, Turn.drop ⟨rfl, rfl, rfl⟩ SB⟩
   refine CW.skip ?_
   refine hK6 _ _ _ ?_
   refine CW.region ?_
   refine RL.q (Y.add rfl rfl OM) rfl ?_
   refine RL.q (Y.move rfl) rfl ?_
   refine RL.nil ?_
   refine ⟨xs.length - (k + 1), [(13, _)], ?_, (KP [13, 0, 1, 2, 11, 12]), ?_⟩
   · omega
   · exact Turn.drop ⟨[], rfl, hsub, k + 1, rfl, by omega, rfl, rfl, rfl, by omega, fun j hj hj2 hlt => by by_cases e : j = k; subst e; exact Decidable.not_not.1 h3; exact hF1 j hj hj2 OM⟩ SB
  refine CW.exit ?_
  refine hK2 _ _ _ ?_
  refine CW.seq fun K15 hK15 => ?_
  refine CW.seq fun K16 hK16 => ?_
  refine CW.region ?_
  refine RL.q (Y.move rfl) rfl ?_
  refine RL.q (Y.len rfl Try.underlying51) rfl ?_
  refine RL.q (Y.move rfl) rfl ?_
  refine RL.q (Y.len rfl Try.underlying51) rfl ?_
  refine RL.q (Y.lss rfl rfl) rfl ?_
  refine RL.nil ?_
  refine hK16 _ _ _ ?_
  refine CW.kp [38] rfl ?_
  refine CW.ite rfl (fun h4 => ?_) (fun h4 => ?_)
  ·refine CW.seq fun K17 hK17 => ?_
   refine CW.region ?_
   refine RL.q (Y.assign rfl) rfl ?_
   refine RL.nil ?_
   refine hK17 _ _ _ ?_
   refine CW.kp [6] rfl ?_
   refine CW.ret ?_
   rw [cmpVs_short OM (fun j hj hj2 => hF1 j hj hj2 OM)]
   exact ⟨_, rfl, Turn.drop ⟨rfl, rfl, rfl⟩ SB⟩
  refine CW.skip ?_
  refine hK15 _ _ _ ?_
  refine CW.seq fun K18 hK18 => ?_
  refine CW.region ?_
  refine RL.q (Y.assign rfl) rfl ?_
  refine RL.nil ?_
  refine hK18 _ _ _ ?_
  refine CW.kp [6] rfl ?_
  refine CW.ret ?_
  rw [cmpVs_zero OM (fun j hj hj2 => hF1 j hj hj2 OM)]
  exact ⟨_, rfl, Turn.drop ⟨rfl, rfl, rfl⟩ SB⟩

theorem cmpV_ok (N : Nat) : ∀ (w0 : World) (M : Mem) (Γ : List As) (a : Val) (usa : List Value) (b : Val) (usb : List Value) , a.size = N → Kn w0 M Γ (RdL M a.enc usa) → Kn w0 M Γ (RdL M b.enc usb) → 
    CallOk Try.prog w0 M Γ 31 #[.agg usa.toArray, .agg usb.toArray] (Is M Γ (vint (cmpV a b))) := by
  induction N using Nat.strongRecOn
  rename_i N ih
  intro w0 M Γ a usa b usb hN ha hb 
  refine CallOk.kn ha fun ha => ?_
  rw [Val.enc_eq] at ha
  refine CallOk.kn hb fun hb => ?_
  rw [Val.enc_eq] at hb
  refine enter (f := 31) Try.func31 rfl Try.ntmps31 rfl rfl fun w1 hw1 => ?_
  refine CW.addRds ha ?_
  refine CW.addRds hb ?_
  refine CW.seq fun K1 hK1 => ?_
  refine CW.region ?_
  refine RL.box _ rfl rfl rfl fun b2 => ?_
  refine RL.box _ rfl rfl rfl fun b3 => ?_
  refine RL.q (Y.assign rfl) rfl ?_
  refine RL.nil ?_
  refine hK1 _ _ _ ?_
  refine CW.kp [2, 3] rfl ?_
  refine CW.seq fun K2 hK2 => ?_
  refine CW.seq fun K3 hK3 => ?_
  refine CW.regionH mix _ _ (fun _ hw => hw) ?_
  refine HL.take 0 rfl KR KR KR rfl (Y.field rfl field53_0) rfl ?_
  refine HL.take 1 rfl KR KR KR rfl (Y.loadOwnV rfl MM MM (by rfl) flat3) rfl ?_
  refine HL.take 2 rfl KR KR KR rfl (Y.field rfl field53_0) rfl ?_
  refine HL.take 3 rfl KR KR KR rfl (Y.loadOwnV rfl MM MM (by rfl) flat3) rfl ?_
  refine HL.take 5 rfl KR KR KR rfl (Y.field rfl field53_1) rfl ?_
  refine HL.take 6 rfl KR KR KR rfl (Y.loadOwnV rfl MM MM (by rfl) flat3) rfl ?_
  refine HL.take 7 rfl KR KR KR rfl (Y.field rfl field53_1) rfl ?_
  refine HL.take 8 rfl KR KR KR rfl (Y.loadOwnV rfl MM MM (by rfl) flat3) rfl ?_
  refine HL.take 10 rfl KR KR KR rfl (Y.field rfl field53_2) rfl ?_
  refine HL.loadOwnSl 11 rfl KR KR KR rfl rfl MM MM (by rfl) flat51 rfl fun a17 c17 hu17 hc17 hl17 => ?_
  refine HL.take 12 rfl KR KR KR rfl (Y.len rfl Try.underlying51) rfl ?_
  refine HL.take 13 rfl KR KR KR rfl (Y.field rfl field53_2) rfl ?_
  refine HL.loadOwnSl 14 rfl KR KR KR rfl rfl MM MM (by rfl) flat51 rfl fun a20 c20 hu20 hc20 hl20 => ?_
  refine HL.take 15 rfl KR KR KR rfl (Y.len rfl Try.underlying51) rfl ?_
  refine HL.step 4 rfl KR ?_
  refine RL.callv rfl func55 rfl rfl (by exact cmpI_ok _ _ _ _ _) ?_
  refine RL.nil ⟨keep_same SB, ?_⟩
  refine HL.step 9 rfl KR ?_
  refine RL.callv rfl func55 rfl rfl (by exact cmpI_ok _ _ _ _ _) ?_
  refine RL.nil ⟨keep_same SB, ?_⟩
  refine HL.step 16 rfl KR ?_
  refine RL.callv rfl func55 rfl rfl (by exact cmpI_ok _ _ _ _ _) ?_
  refine RL.nil ⟨keep_same SB, ?_⟩
  refine HL.step 17 rfl KR ?_
  refine RL.buildSlice (ints [cmpI a.kind b.kind, cmpI a.n b.n, cmpI a.kids.length b.kids.length]) elem22 rfl (by decide) (fill3 (out := [vint (cmpI a.kind b.kind)]) (out' := [vint (cmpI a.n b.n)]) (out'' := [vint (cmpI a.kids.length b.kids.length)]) rfl rfl rfl rfl rfl rfl) rfl fun b23 => ?_
  refine RL.nil ⟨keep_same SB, ?_⟩
  refine HL.step 18 rfl KR ?_
  refine RL.callv rfl func54 rfl rfl (by exact or_ok _ _ _ [cmpI a.kind b.kind, cmpI a.n b.n, cmpI a.kids.length b.kids.length] _ (CellsK.own MM) (by simp)) ?_
  refine RL.nil ⟨keep_same SB, ?_⟩
  refine HL.take 19 rfl KR KR KR rfl (Y.assign rfl) rfl ?_
  refine HL.done KR ?_
  refine hK3 _ _ _ ?_
  refine CW.kp [2, 3, 5] rfl ?_
  refine CW.seq fun K4 hK4 => ?_
  refine CW.region ?_
  refine RL.q (Y.move rfl) rfl ?_
  refine RL.q (Y.neq rfl rfl) rfl ?_
  refine RL.nil ?_
  refine hK4 _ _ _ ?_
  refine CW.kp [2, 3, 5, 26] rfl ?_
  refine CW.ite rfl (fun h1 => ?_) (fun h1 => ?_)
  ·refine CW.seq fun K5 hK5 => ?_
   refine CW.region ?_
   refine RL.q (Y.move rfl) rfl ?_
   refine RL.q (Y.assign rfl) rfl ?_
   refine RL.nil ?_
   refine hK5 _ _ _ ?_
   refine CW.kp [4] rfl ?_
   refine CW.ret ?_
   rw [show orI [cmpI a.kind b.kind, cmpI a.n b.n, cmpI a.kids.length b.kids.length] = cmpV a b from by rw [cmpV_or, if_pos h1]]
   exact ⟨_, rfl, Turn.drop ⟨rfl, rfl, rfl⟩ SB⟩
  refine CW.skip ?_
  refine hK2 _ _ _ ?_
  refine CW.seq fun K6 hK6 => ?_
  refine CW.region ?_
  refine RL.q (Y.field rfl field53_2) rfl ?_
  refine RL.loadOwnSl rfl rfl MM MM (by rfl) flat51 rfl fun a29 c29 hu29 hc29 hl29 => ?_
  refine RL.q (Y.field rfl field53_2) rfl ?_
  refine RL.loadOwnSl rfl rfl MM MM (by rfl) flat51 rfl fun a31 c31 hu31 hc31 hl31 => ?_
  refine RL.callv rfl func56 rfl rfl (by exact cmpVs_ok N (fun w0 M Γ x us y vs hx => ih _ hx w0 M Γ x us y vs rfl) _ _ _ a.kids b.kids _ _ (fun x hx => hN ▸ Val.size_kid hx) KK KK) ?_
  refine RL.q (Y.assign rfl) rfl ?_
  refine RL.nil ?_
  refine hK6 _ _ _ ?_
  refine CW.kp [4] rfl ?_
  refine CW.ret ?_
  rw [show cmpVs a.kids b.kids = cmpV a b from by rw [cmpV_or, if_neg h1]]
  exact ⟨_, rfl, Turn.drop ⟨rfl, rfl, rfl⟩ SB⟩

theorem rcmpV_ok (N : Nat) : ∀ (w0 : World) (M : Mem) (Γ : List As) (a : Val) (usa : List Value) (b : Val) (usb : List Value) , a.size = N → Kn w0 M Γ (RdL M a.enc usa) → Kn w0 M Γ (RdL M b.enc usb) → 
    CallOk Try.prog w0 M Γ 32 #[.agg usa.toArray, .agg usb.toArray] (Is M Γ (vint (cmpV a b))) := by
  induction N using Nat.strongRecOn
  rename_i N ih
  intro w0 M Γ a usa b usb hN ha hb 
  have hla : (head3 a).length = 3 := rfl
  have hlb : (head3 b).length = 3 := rfl
  refine CallOk.kn ha fun ha => ?_
  rw [Val.enc_eq] at ha
  refine CallOk.kn hb fun hb => ?_
  rw [Val.enc_eq] at hb
  refine enter (f := 32) Try.func32 rfl Try.ntmps32 rfl rfl fun w1 hw1 => ?_
  refine CW.addRds ha ?_
  refine CW.addRds hb ?_
  refine CW.seq fun K1 hK1 => ?_
  refine CW.region ?_
  refine RL.box _ rfl rfl rfl fun b2 => ?_
  refine RL.box _ rfl rfl rfl fun b3 => ?_
  refine RL.q (Y.assign rfl) rfl ?_
  refine RL.nil ?_
  refine hK1 _ _ _ ?_
  refine CW.kp [2, 3] rfl ?_
  refine CW.seq fun K2 hK2 => ?_
  refine CW.region ?_
  refine RL.q (Y.field rfl field53_0) rfl ?_
  refine RL.q (Y.loadOwnV rfl MM MM (by rfl) flat3) rfl ?_
  refine RL.q (Y.field rfl field53_1) rfl ?_
  refine RL.q (Y.loadOwnV rfl MM MM (by rfl) flat3) rfl ?_
  refine RL.q (Y.field rfl field53_2) rfl ?_
  refine RL.loadOwnSl rfl rfl MM MM (by rfl) flat51 rfl fun a15 c15 hu15 hc15 hl15 => ?_
  refine RL.q (Y.len rfl Try.underlying51) rfl ?_
  refine RL.buildSlice (ints (head3 a)) elem22 rfl (by decide) (fill3 (out := [vint a.kind]) (out' := [vint a.n]) (out'' := [vint a.kids.length]) rfl rfl rfl rfl rfl rfl) rfl fun b17 => ?_
  refine RL.q (Y.assign rfl) rfl ?_
  refine RL.nil ?_
  refine hK2 _ _ _ ?_
  refine CW.kp [2, 3, 5] rfl ?_
  refine CW.seq fun K3 hK3 => ?_
  refine CW.region ?_
  refine RL.q (Y.field rfl field53_0) rfl ?_
  refine RL.q (Y.loadOwnV rfl MM MM (by rfl) flat3) rfl ?_
  refine RL.q (Y.field rfl field53_1) rfl ?_
  refine RL.q (Y.loadOwnV rfl MM MM (by rfl) flat3) rfl ?_
  refine RL.q (Y.field rfl field53_2) rfl ?_
  refine RL.loadOwnSl rfl rfl MM MM (by rfl) flat51 rfl fun a23 c23 hu23 hc23 hl23 => ?_
  refine RL.q (Y.len rfl Try.underlying51) rfl ?_
  refine RL.buildSlice (ints (head3 b)) elem22 rfl (by decide) (fill3 (out := [vint b.kind]) (out' := [vint b.n]) (out'' := [vint b.kids.length]) rfl rfl rfl rfl rfl rfl) rfl fun b25 => ?_
  refine RL.q (Y.assign rfl) rfl ?_
  refine RL.nil ?_
  refine hK3 _ _ _ ?_
  refine CW.kp [2, 3, 5, 6] rfl ?_
  refine CW.seq fun K4 hK4 => ?_
  refine CW.seq fun K5 hK5 => ?_
  refine CW.region ?_
  refine RL.q (Y.assign rfl) rfl ?_
  refine RL.nil ?_
  refine hK5 _ _ _ ?_
  refine CW.kp [2, 3, 5, 6, 7] rfl ?_
  refine CW.block ?_
  -- LOOP 1: live [2, 3, 5, 6, 7] changed [7]
  refine CW.kp [7, 2, 3, 5, 6] rfl ?_
  refine CW.loopF (fun m Lc M1 Γc => ∃ k : Nat, m = 3 - k ∧ k ≤ 3 ∧ Lc = [(7, vint k)] ∧ Γc = [] ∧ M1 = M ∧ ∀ j (hj : j < (head3 a).length), j < k → (head3 a)[j] = (head3 b)[j]) (3) [(7, _)] _ rfl rfl ⟨0, rfl, Nat.zero_le _, rfl, rfl, rfl, fun _ _ h => absurd h (Nat.not_lt_zero _)⟩ ?_
  rintro m Lc M Γc hs ⟨k, rfl, hk, rfl, rfl, rfl, hF0⟩
  refine CW.seq fun K6 hK6 => ?_
  refine CW.seq fun K7 hK7 => ?_
  refine CW.region ?_
  refine RL.q (Y.move rfl) rfl ?_
  refine RL.q (Y.lss rfl rfl) rfl ?_
  refine RL.nil ?_
  refine hK7 _ _ _ ?_
  refine CW.kp [2, 3, 5, 6, 7, 27] rfl ?_
  refine CW.ite rfl (fun h1 => ?_) (fun h1 => ?_)
  ·have h3k : k < 3 := by omega
   have hka : k < (head3 a).length := by omega
   have hkb : k < (head3 b).length := by omega
   refine CW.skip ?_
   refine hK6 _ _ _ ?_
   refine CW.seq fun K8 hK8 => ?_
   refine CW.block ?_
   refine CW.seq fun K9 hK9 => ?_
   refine CW.seq fun K10 hK10 => ?_
   refine CW.regionQ mix KR ?_
   refine QL.q (Y.move rfl) rfl ?_
   refine QL.q (Y.move rfl) rfl ?_
   refine QL.q (Y.index k rfl rfl rfl h3k slice22 (fun _ _ => rfl)) rfl ?_
   refine QL.q (Y.loadOwn rfl MM (ints_get (List.getElem?_eq_getElem hka) (Nat.mul_one _)) flat3) rfl ?_
   refine QL.q (Y.move rfl) rfl ?_
   refine QL.q (Y.move rfl) rfl ?_
   refine QL.q (Y.index k rfl rfl rfl h3k slice22 (fun _ _ => rfl)) rfl ?_
   refine QL.q (Y.loadOwn rfl MM (ints_get (List.getElem?_eq_getElem hkb) (Nat.mul_one _)) flat3) rfl ?_
   refine QL.q (Y.lss rfl rfl) rfl ?_
   refine QL.nil ?_
   refine hK10 _ _ _ ?_
   refine CW.kp [2, 3, 5, 6, 7, 38] rfl ?_
   refine CW.ite rfl (fun h2 => ?_) (fun h2 => ?_)
   ·refine CW.seq fun K11 hK11 => ?_
    refine CW.region ?_
    refine RL.q (Y.assign rfl) rfl ?_
    refine RL.nil ?_
    refine hK11 _ _ _ ?_
    refine CW.kp [4] rfl ?_
    refine CW.ret ?_
    rw [cmpV_head h3k hF0 (-1) (by decide) (cmpI_lt h2)]
    exact ⟨_, rfl, Turn.drop ⟨rfl, rfl, rfl⟩ SB⟩
   refine CW.skip ?_
   refine hK9 _ _ _ ?_
   refine CW.seq fun K12 hK12 => ?_
   refine CW.regionQ mix KR ?_
   refine QL.q (Y.move rfl) rfl ?_
   refine QL.q (Y.move rfl) rfl ?_
   refine QL.q (Y.index k rfl rfl rfl h3k slice22 (fun _ _ => rfl)) rfl ?_
   refine QL.q (Y.loadOwn rfl MM (ints_get (List.getElem?_eq_getElem hka) (Nat.mul_one _)) flat3) rfl ?_
   refine QL.q (Y.move rfl) rfl ?_
   refine QL.q (Y.move rfl) rfl ?_
   refine QL.q (Y.index k rfl rfl rfl h3k slice22 (fun _ _ => rfl)) rfl ?_
   refine QL.q (Y.loadOwn rfl MM (ints_get (List.getElem?_eq_getElem hkb) (Nat.mul_one _)) flat3) rfl ?_
   refine QL.q (Y.gtr rfl rfl) rfl ?_
   refine QL.nil ?_
   refine hK12 _ _ _ ?_
   refine CW.kp [2, 3, 5, 6, 7, 47] rfl ?_
   refine CW.ite rfl (fun h3 => ?_) (fun h3 => ?_)
   ·refine CW.seq fun K13 hK13 => ?_
    refine CW.region ?_
    refine RL.q (Y.assign rfl) rfl ?_
    refine RL.nil ?_
    refine hK13 _ _ _ ?_
    refine CW.kp [4] rfl ?_
    refine CW.ret ?_
    rw [cmpV_head h3k hF0 1 (by decide) (cmpI_gt h3)]
    exact ⟨_, rfl, Turn.drop ⟨rfl, rfl, rfl⟩ SB⟩
   refine CW.skip ?_
   refine hK8 _ _ _ ?_
   refine CW.region ?_
   refine RL.q (Y.move rfl) rfl ?_
   refine RL.q (Y.add rfl rfl OM) rfl ?_
   refine RL.q (Y.assign rfl) rfl ?_
   refine RL.nil ?_
   refine ⟨3 - (k + 1), [(7, _)], ?_, (KP [7, 2, 3, 5, 6]), ?_⟩
   · omega
   · exact Turn.drop ⟨[], rfl, hs, k + 1, rfl, by omega, rfl, rfl, rfl, fun j hj hlt => by by_cases e : j = k; subst e; omega; exact hF0 j hj OM⟩ SB
  refine CW.exit ?_
  refine hK4 _ _ _ ?_
  refine CW.seq fun K14 hK14 => ?_
  refine CW.seq fun K15 hK15 => ?_
  have hh := head3_eq (fun j hj _ => hF0 j hj OM)
  refine CW.region ?_
  refine RL.q (Y.assign rfl) rfl ?_
  refine RL.nil ?_
  refine hK15 _ _ _ ?_
  refine CW.kp [2, 3, 8] rfl ?_
  refine CW.block ?_
  -- LOOP 2: live [2, 3, 8] changed [8]
  refine CW.kp [8, 2, 3] rfl ?_
  refine CW.loopF (fun m Lc M1 Γc => ∃ k : Nat, m = a.kids.length - k ∧ k ≤ a.kids.length ∧ Lc = [(8, vint k)] ∧ Γc = [] ∧ M1 = M ∧ ∀ j (hj : j < a.kids.length) (hj2 : j < b.kids.length), j < k → cmpV a.kids[j] b.kids[j] = 0) (a.kids.length) [(8, _)] _ rfl rfl ⟨0, rfl, Nat.zero_le _, rfl, rfl, rfl, fun _ _ _ h => absurd h (Nat.not_lt_zero _)⟩ ?_
  rintro m Lc M Γc hs2 ⟨k, rfl, hk, rfl, rfl, rfl, hF0⟩
  refine CW.seq fun K16 hK16 => ?_
  refine CW.seq fun K17 hK17 => ?_
  refine CW.region ?_
  refine RL.q (Y.move rfl) rfl ?_
  refine RL.q (Y.field rfl field53_2) rfl ?_
  refine RL.loadOwnSl rfl rfl MM MM (by rfl) flat51 rfl fun a50 c50 hu50 hc50 hl50 => ?_
  refine RL.q (Y.len rfl Try.underlying51) rfl ?_
  refine RL.q (Y.lss rfl rfl) rfl ?_
  refine RL.nil ?_
  refine hK17 _ _ _ ?_
  refine CW.kp [2, 3, 8, 52] rfl ?_
  refine CW.ite rfl (fun h4 => ?_) (fun h4 => ?_)
  ·have hkc : k < a.kids.length := by omega
   have hkd : k < b.kids.length := by omega
   refine CW.skip ?_
   refine hK16 _ _ _ ?_
   refine CW.seq fun K18 hK18 => ?_
   refine CW.block ?_
   refine CW.seq fun K19 hK19 => ?_
   refine CW.regionQ mix KR ?_
   refine QL.q (Y.field rfl field53_2) rfl ?_
   refine QL.loadOwnSl rfl rfl MM MM (by rfl) flat51 rfl fun a56 c56 hu56 hc56 hl56 => ?_
   refine QL.q (Y.move rfl) rfl ?_
   refine QL.q (Y.index _ rfl rfl rfl AO slice51 SM) rfl ?_
   refine QL.loadAgg rfl rfl MM (Eq.trans (flat_take Val.enc_len _ _ _ (List.getElem?_eq_getElem AO)) (Val.enc_eq _)) (by rfl) agg53 rfl fun us59 hul59 hur59 => ?_
   refine QL.q (Y.field rfl field53_2) rfl ?_
   refine QL.loadOwnSl rfl rfl MM MM (by rfl) flat51 rfl fun a61 c61 hu61 hc61 hl61 => ?_
   refine QL.q (Y.move rfl) rfl ?_
   refine QL.q (Y.index _ rfl rfl rfl AO slice51 SM) rfl ?_
   refine QL.loadAgg rfl rfl MM (Eq.trans (flat_take Val.enc_len _ _ _ (List.getElem?_eq_getElem AO)) (Val.enc_eq _)) (by rfl) agg53 rfl fun us64 hul64 hur64 => ?_
   refine QL.callv rfl func32 rfl rfl (by exact fun _ hC => ih _ (by rw [← hN]; exact Val.size_kid (List.getElem_mem hkc)) _ _ _ a.kids[k] _ b.kids[k] _ rfl (Kn.via hC KK) (Kn.via hC KK)) ?_
   refine QL.q (Y.assign rfl) rfl ?_
   refine QL.nil ?_
   refine hK19 _ _ _ ?_
   refine CW.kp [2, 3, 8, 9] rfl ?_
   refine CW.seq fun K20 hK20 => ?_
   refine CW.region ?_
   refine RL.q (Y.move rfl) rfl ?_
   refine RL.q (Y.neq rfl rfl) rfl ?_
   refine RL.nil ?_
   refine hK20 _ _ _ ?_
   refine CW.kp [2, 3, 8, 9, 67] rfl ?_
   refine CW.ite rfl (fun h5 => ?_) (fun h5 => ?_)
   ·refine CW.seq fun K21 hK21 => ?_
    refine CW.region ?_
    refine RL.q (Y.move rfl) rfl ?_
    refine RL.q (Y.assign rfl) rfl ?_
    refine RL.nil ?_
    refine hK21 _ _ _ ?_
    refine CW.kp [4] rfl ?_
    refine CW.ret ?_
    rw [cmpV_kids hh, cmpVs_hit hkc hkd (fun j hj hj2 hlt => hF0 j hj hj2 hlt) h5]
    exact ⟨_, rfl, Turn.drop ⟨rfl, rfl, rfl⟩ SB⟩
   refine CW.skip ?_
   refine hK18 _ _ _ ?_
   refine CW.region ?_
   refine RL.q (Y.move rfl) rfl ?_
   refine RL.q (Y.add rfl rfl OM) rfl ?_
   refine RL.q (Y.assign rfl) rfl ?_
   refine RL.nil ?_
   refine ⟨a.kids.length - (k + 1), [(8, _)], ?_, (KP [8, 2, 3]), ?_⟩
   · omega
   · exact Turn.drop ⟨[], rfl, hs2, k + 1, rfl, by omega, rfl, rfl, rfl, fun j hj hj2 hlt => by by_cases e : j = k; subst e; exact Decidable.not_not.1 h5; exact hF0 j hj hj2 OM⟩ SB
  refine CW.exit ?_
  refine hK14 _ _ _ ?_
  refine CW.seq fun K22 hK22 => ?_
  refine CW.region ?_
  refine RL.q (Y.assign rfl) rfl ?_
  refine RL.nil ?_
  refine hK22 _ _ _ ?_
  refine CW.kp [4] rfl ?_
  refine CW.ret ?_
  rw [cmpV_kids hh, cmpVs_zero hh.2.2 (fun j hj hj2 => hF0 j hj hj2 OM)]
  exact ⟨_, rfl, Turn.drop ⟨rfl, rfl, rfl⟩ SB⟩

theorem same_ok (w0 : World) (M : Mem) (Γ : List As) (a : Val) (usa : List Value) (b : Val) (usb : List Value)  (ha : Kn w0 M Γ (RdL M a.enc usa)) (hb : Kn w0 M Γ (RdL M b.enc usb))  :
    CallOk Try.prog w0 M Γ 35 #[.agg usa.toArray, .agg usb.toArray] (Is M Γ (.bool (decide (cmpV a b = 0)))) := by
  refine CallOk.kn ha fun ha => ?_
  rw [Val.enc_eq] at ha
  refine CallOk.kn hb fun hb => ?_
  rw [Val.enc_eq] at hb
  refine enter (f := 35) Try.func35 rfl Try.ntmps35 rfl rfl fun w1 hw1 => ?_
  refine CW.addRds ha ?_
  refine CW.addRds hb ?_
  refine CW.seq fun K1 hK1 => ?_
  refine CW.region ?_
  refine RL.box _ rfl rfl rfl fun b2 => ?_
  refine RL.box _ rfl rfl rfl fun b3 => ?_
  refine RL.q (Y.assign rfl) rfl ?_
  refine RL.nil ?_
  refine hK1 _ _ _ ?_
  refine CW.kp [2, 3] rfl ?_
  refine CW.seq fun K2 hK2 => ?_
  refine CW.region ?_
  refine RL.q (Y.loadAllR rfl MM MM EL agg53) rfl ?_
  refine RL.q (Y.loadAllR rfl MM MM EL agg53) rfl ?_
  refine RL.callv rfl func32 rfl rfl (by exact rcmpV_ok _ _ _ _ a _ b _ rfl KK KK) ?_
  refine RL.q (Y.eql rfl rfl) rfl ?_
  refine RL.q (Y.assign rfl) rfl ?_
  refine RL.nil ?_
  refine hK2 _ _ _ ?_
  refine CW.kp [4] rfl ?_
  refine CW.ret ?_
  exact ⟨_, rfl, Turn.drop ⟨rfl, rfl, rfl⟩ SB⟩
end Go.Proofs.Ytfgkhhfkodlbpaa
