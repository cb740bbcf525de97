/- THE WALKS, 26: encodings of numbers, by the reference. Printed by m04E.py. -/
import Derived.Test.YtfgkhhfkodlbpaaVz
import Derived.Test.YtfgkhhfkodlbpaaPureB
import Derived.Test.YtfgkhhfkodlbpaaXeY
namespace Go.Proofs.Ytfgkhhfkodlbpaa
open Xe

theorem rint_ok (w0 : World) (M : Mem) (Γ : List As) (n : Int)   (hn : InI n) :
    CallOk Try.prog w0 M Γ 59 #[vint n] (Gives M Γ fun M' u => Rd M' (dbytes (encI n)) u) := by
  have hml := mag_lt hn
  obtain ⟨K, hK⟩ : ∃ K, K = nd (mag n) := ⟨_, rfl⟩
  have hK8 : K ≤ 8 := by rw [hK]; exact nd_le OM
  have hnI := hn
  unfold InI at hnI
  refine enter (f := 59) Try.func59 rfl Try.ntmps59 rfl rfl fun w1 hw1 => ?_
  refine CW.seq fun K1 hK1 => ?_
  refine CW.region ?_
  refine RL.q (Y.assign rfl) rfl ?_
  refine RL.nil ?_
  refine hK1 _ _ _ ?_
  refine CW.kp [0] rfl ?_
  refine CW.seq fun K2 hK2 => ?_
  refine CW.region ?_
  refine RL.q (Y.move rfl) rfl ?_
  refine RL.q (Y.assign rfl) rfl ?_
  refine RL.nil ?_
  refine hK2 _ _ _ ?_
  refine CW.kp [0, 3] rfl ?_
  refine CW.cut (fun L' M' Γ' => Keep L' [(0, vint n), (3, vint (mag n : Nat))] ∧ M' = M ∧ ∀ w, St w0 M Γ' w → St w0 M Γ w) ?_ ?_
  ·refine CW.seq fun K3 hK3 => ?_
   refine CW.region ?_
   refine RL.q (Y.move rfl) rfl ?_
   refine RL.q (Y.lss rfl rfl) rfl ?_
   refine RL.nil ?_
   refine hK3 _ _ _ ?_
   refine CW.kp [0, 3, 11] rfl ?_
   refine CW.ite rfl (fun h1 => ?_) (fun h1 => ?_)
   ·refine CW.region ?_
    refine RL.q (Y.move rfl) rfl ?_
    refine RL.q (Y.sub rfl rfl OM) rfl ?_
    refine RL.q (Y.assign rfl) rfl ?_
    refine RL.nil ?_
    show (fun L' M' Γ' => Keep L' [(0, vint n), (3, vint (mag n : Nat))] ∧ M' = M ∧ ∀ w, St w0 M Γ' w → St w0 M Γ w) _ _ _
    exact ⟨Keep.cons 0 rfl (Keep.cons 3 (by first | (rw [show ((mag n : Nat) : Int) = -1 - n from by unfold mag; rw [if_pos h1]; omega]; rfl) | (rw [show ((mag n : Nat) : Int) = n from by unfold mag; rw [if_neg h1]; omega]; rfl)) (Keep.nil _)), rfl, fun _ hw => hw⟩
   refine CW.skip ?_
   show (fun L' M' Γ' => Keep L' [(0, vint n), (3, vint (mag n : Nat))] ∧ M' = M ∧ ∀ w, St w0 M Γ' w → St w0 M Γ w) _ _ _
   exact ⟨Keep.cons 0 rfl (Keep.cons 3 (by first | (rw [show ((mag n : Nat) : Int) = -1 - n from by unfold mag; rw [if_pos h1]; omega]; rfl) | (rw [show ((mag n : Nat) : Int) = n from by unfold mag; rw [if_neg h1]; omega]; rfl)) (Keep.nil _)), rfl, fun _ hw => hw⟩
  rintro _ M Γ2 ⟨hk2, rfl, hG2⟩
  refine CW.pre ?_ hk2 hG2
  refine CW.seq fun K4 hK4 => ?_
  refine CW.region ?_
  refine RL.q (Y.assign rfl) rfl ?_
  refine RL.nil ?_
  refine hK4 _ _ _ ?_
  refine CW.kp [0, 3, 4] rfl ?_
  refine CW.seq fun K5 hK5 => ?_
  refine CW.block ?_
  -- LOOP 1: live [0, 3, 4] changed [3, 4]
  refine CW.kp [3, 4, 0] rfl ?_
  refine CW.accNil 5 1 ?_
  refine CW.loopF (fun mm Lc M1 Γc => ∃ (j : Nat) (ua : Option Addr) (ca : Nat), mm = K - j ∧ j ≤ K ∧ Lc = [(3, vint ((mag n / 256 ^ j : Nat) : Int)), (4, .slice ua j ca)] ∧ Γc = [.acc (.slice ua j ca) 5 1 j (byteV (digs (mag n) j))] ∧ M1 = M) K [(3, _), (4, _)] [_] rfl rfl ⟨0, none, 0, rfl, Nat.zero_le _, by simp, rfl, rfl⟩ ?_
  rintro mm Lc M Γc hs ⟨j, ua, ca, rfl, hjk, rfl, rfl, rfl⟩
  refine CW.seq fun K6 hK6 => ?_
  refine CW.seq fun K7 hK7 => ?_
  refine CW.region ?_
  refine RL.q (Y.move rfl) rfl ?_
  refine RL.q (Y.gtr rfl rfl) rfl ?_
  refine RL.nil ?_
  refine hK7 _ _ _ ?_
  refine CW.kp [0, 3, 4, 15] rfl ?_
  refine CW.ite rfl (fun h2 => ?_) (fun h2 => ?_)
  ·have hj : j < K := by rw [hK]; exact (nd_iff j (mag n)).1 OM
   refine CW.skip ?_
   refine hK6 _ _ _ ?_
   refine CW.block ?_
   refine CW.seq fun K8 hK8 => ?_
   refine CW.region ?_
   refine RL.q (Y.move rfl) rfl ?_
   refine RL.q (Y.move rfl) rfl ?_
   refine RL.q (Y.remN (k := 256) rfl rfl (by decide)) rfl ?_
   refine RL.q (Y.convTo (r := (((mag n / 256 ^ j % 256) : Nat) : Int)) KR KR rfl (by rw [wrap_u8]; omega)) rfl ?_
   refine RL.buildSlice [vbyte (mag n / 256 ^ j % 256)] elem69 rfl (by decide) (fill1 rfl rfl) rfl fun b20 => ?_
   refine RL.append elem69 rfl rfl PK (SrcOk.own (sz := 1) (m := 1) MM rfl (bytes_one [(mag n / 256 ^ j % 256)])) OM (by unfold lim; omega) rfl fun a21 c21 hc21 => ?_
   refine RL.q (Y.assign rfl) rfl ?_
   refine RL.nil ?_
   refine hK8 _ _ _ ?_
   refine CW.kp [0, 3, 4] rfl ?_
   refine CW.region ?_
   refine RL.q (Y.move rfl) rfl ?_
   refine RL.q (Y.quoN (k := 256) rfl rfl (by decide) (Nat.lt_of_le_of_lt (Nat.div_le_self _ _) hml)) rfl ?_
   refine RL.q (Y.assign rfl) rfl ?_
   refine RL.nil ?_
   refine ⟨K - (j + 1), [(3, _), (4, _)], ?_, (KP [3, 4, 0]), ?_⟩
   · omega
   · exact Turn.drop ⟨[.acc (.slice a21 (j + 1) c21) 5 1 (j + 1) (byteV (digs (mag n) j) ++ byteV [(mag n / 256 ^ j % 256)])], rfl, hs, j + 1, a21, c21, rfl, by omega, by rw [Nat.pow_succ, ← Nat.div_div_eq_div_mul] <;> rfl, by rw [show byteV (digs (mag n) (j + 1)) = byteV (digs (mag n) j) ++ byteV [(mag n / 256 ^ j % 256)] from by rw [digs_succ]; exact List.map_append] <;> rfl, rfl⟩ SB
  have hjn : ¬ j < nd (mag n) := fun h => by have := (nd_iff j (mag n)).2 h; omega
  obtain rfl : K = j := by omega
  refine CW.exit ?_
  refine hK5 _ _ _ ?_
  refine CW.seq fun K9 hK9 => ?_
  refine CW.region ?_
  refine RL.q (Y.move rfl) rfl ?_
  refine RL.q (Y.len rfl Try.underlying69) rfl ?_
  refine RL.q (Y.assign rfl) rfl ?_
  refine RL.nil ?_
  refine hK9 _ _ _ ?_
  refine CW.kp [0, 4, 5] rfl ?_
  refine CW.seq fun K10 hK10 => ?_
  refine CW.region ?_
  refine RL.q (Y.assign rfl) rfl ?_
  refine RL.nil ?_
  refine hK10 _ _ _ ?_
  refine CW.kp [0, 4, 5, 6] rfl ?_
  refine CW.cut (fun L' M' Γ' => ∃ (a6 : Option Addr) (c6 : Nat), Keep L' [(0, vint n), (4, .slice ua K ca), (6, .slice a6 1 c6), (5, vint (K : Nat))] ∧ M' = M ∧ ∀ w, St w0 M Γ' w → St w0 M (.acc (.slice a6 1 c6) 5 1 1 (byteV (encP n K 0)) :: .acc (.slice ua K ca) 5 1 K (byteV (digs (mag n) K)) :: Γ) w) ?_ ?_
  ·refine CW.seq fun K11 hK11 => ?_
   refine CW.region ?_
   refine RL.q (Y.move rfl) rfl ?_
   refine RL.q (Y.geq rfl rfl) rfl ?_
   refine RL.nil ?_
   refine hK11 _ _ _ ?_
   refine CW.kp [0, 4, 5, 6, 27] rfl ?_
   refine CW.ite rfl (fun h3 => ?_) (fun h3 => ?_)
   ·refine CW.accNil 5 1 ?_
    refine CW.region ?_
    refine RL.q (Y.move rfl) rfl ?_
    refine RL.q (Y.move rfl) rfl ?_
    refine RL.q (Y.add rfl rfl OM) rfl ?_
    refine RL.q (Y.convTo (r := ((flip8 (sgn n) (128 + K) : Nat) : Int)) KR KR rfl (by rw [wrap_u8, show sgn n = 0 from if_neg OM, flip8_z]; omega)) rfl ?_
    refine RL.buildSlice [vbyte (flip8 (sgn n) (128 + K))] elem69 rfl (by decide) (fill1 rfl rfl) rfl fun b32 => ?_
    refine RL.append elem69 rfl rfl PK (SrcOk.own (sz := 1) (m := 1) MM rfl (bytes_one [flip8 (sgn n) (128 + K)])) OM (by unfold lim; omega) rfl fun a33 c33 hc33 => ?_
    refine RL.q (Y.assign rfl) rfl ?_
    refine RL.nil ?_
    show (fun L' M' Γ' => ∃ (a6 : Option Addr) (c6 : Nat), Keep L' [(0, vint n), (4, .slice ua K ca), (6, .slice a6 1 c6), (5, vint (K : Nat))] ∧ M' = M ∧ ∀ w, St w0 M Γ' w → St w0 M (.acc (.slice a6 1 c6) 5 1 1 (byteV (encP n K 0)) :: .acc (.slice ua K ca) 5 1 K (byteV (digs (mag n) K)) :: Γ) w) _ _ _
    exact ⟨a33, c33, (by repeat (first | exact Keep.nil _ | refine Keep.cons _ rfl ?_)), rfl, fun _ hw => hw.sub SB⟩
   refine CW.accNil 5 1 ?_
   refine CW.region ?_
   refine RL.q (Y.move rfl) rfl ?_
   refine RL.q (Y.move rfl) rfl ?_
   refine RL.q (Y.sub rfl rfl OM) rfl ?_
   refine RL.q (Y.convTo (r := ((flip8 (sgn n) (128 + K) : Nat) : Int)) KR KR rfl (by rw [wrap_u8, show sgn n = 255 from if_pos OM, flip8_255 OM]; omega)) rfl ?_
   refine RL.buildSlice [vbyte (flip8 (sgn n) (128 + K))] elem69 rfl (by decide) (fill1 rfl rfl) rfl fun b38 => ?_
   refine RL.append elem69 rfl rfl PK (SrcOk.own (sz := 1) (m := 1) MM rfl (bytes_one [flip8 (sgn n) (128 + K)])) OM (by unfold lim; omega) rfl fun a39 c39 hc39 => ?_
   refine RL.q (Y.assign rfl) rfl ?_
   refine RL.nil ?_
   show (fun L' M' Γ' => ∃ (a6 : Option Addr) (c6 : Nat), Keep L' [(0, vint n), (4, .slice ua K ca), (6, .slice a6 1 c6), (5, vint (K : Nat))] ∧ M' = M ∧ ∀ w, St w0 M Γ' w → St w0 M (.acc (.slice a6 1 c6) 5 1 1 (byteV (encP n K 0)) :: .acc (.slice ua K ca) 5 1 K (byteV (digs (mag n) K)) :: Γ) w) _ _ _
   exact ⟨a39, c39, (by repeat (first | exact Keep.nil _ | refine Keep.cons _ rfl ?_)), rfl, fun _ hw => hw.sub SB⟩
  rintro _ M Γ3 ⟨a6, c6, hk3, rfl, hG3⟩
  refine CW.pre ?_ hk3 hG3
  refine CW.seq fun K12 hK12 => ?_
  refine CW.seq fun K13 hK13 => ?_
  refine CW.region ?_
  refine RL.q (Y.move rfl) rfl ?_
  refine RL.q (Y.sub rfl rfl OM) rfl ?_
  refine RL.q (Y.assign rfl) rfl ?_
  refine RL.nil ?_
  refine hK13 _ _ _ ?_
  refine CW.kp [0, 4, 6, 7] rfl ?_
  refine CW.block ?_
  -- LOOP 2: live [0, 4, 6, 7] changed [6, 7]
  refine CW.kp [6, 7, 0, 4] rfl ?_
  refine CW.loopF (fun m Lc M1 Γc => ∃ (r : Nat) (ub : Option Addr) (cb : Nat), m = K - r ∧ r ≤ K ∧ Lc = [(6, .slice ub (1 + r) cb), (7, vint ((K : Int) - 1 - r))] ∧ Γc = [.acc (.slice ub (1 + r) cb) 5 1 (1 + r) (byteV (encP n K r))] ∧ M1 = M) K [(6, _), (7, _)] [_] rfl rfl ⟨0, a6, c6, rfl, Nat.zero_le _, by simp, rfl, rfl⟩ ?_
  rintro m Lc M Γc hs2 ⟨r, ub, cb, rfl, hr, rfl, rfl, rfl⟩
  refine CW.seq fun K14 hK14 => ?_
  refine CW.seq fun K15 hK15 => ?_
  refine CW.region ?_
  refine RL.q (Y.move rfl) rfl ?_
  refine RL.q (Y.geq rfl rfl) rfl ?_
  refine RL.nil ?_
  refine hK15 _ _ _ ?_
  refine CW.kp [0, 4, 6, 7, 43] rfl ?_
  refine CW.ite rfl (fun h4 => ?_) (fun h4 => ?_)
  ·have hdc : (byteV (digs (mag n) K))[(K - 1 - r) * 1]? = some (vbyte (mag n / 256 ^ (K - 1 - r) % 256)) := by rw [Nat.mul_one, byteV, List.getElem?_map, digs_get OM]; rfl
   refine CW.skip ?_
   refine hK14 _ _ _ ?_
   refine CW.seq fun K16 hK16 => ?_
   refine CW.block ?_
   refine CW.seq fun K17 hK17 => ?_
   refine CW.region ?_
   refine RL.q (Y.move rfl) rfl ?_
   refine RL.q (Y.move rfl) rfl ?_
   refine RL.q (Y.index (K - 1 - r) rfl rfl OM OM slice69 (fun _ hw => (hw.acc_cell MM hdc).1)) rfl ?_
   refine RL.q (Y.loadAcc rfl MM hdc flat5) rfl ?_
   refine RL.q (Y.assign rfl) rfl ?_
   refine RL.nil ?_
   refine hK17 _ _ _ ?_
   refine CW.kp [0, 4, 6, 7, 8] rfl ?_
   refine CW.seq fun K18 hK18 => ?_
   refine CW.seq fun K19 hK19 => ?_
   refine CW.region ?_
   refine RL.q (Y.move rfl) rfl ?_
   refine RL.q (Y.lss rfl rfl) rfl ?_
   refine RL.nil ?_
   refine hK19 _ _ _ ?_
   refine CW.kp [0, 4, 6, 7, 8, 51] rfl ?_
   refine CW.ite rfl (fun h5 => ?_) (fun h5 => ?_)
   ·refine CW.region ?_
    refine RL.q (Y.move rfl) rfl ?_
    refine RL.q (Y.sub8 (m := 255) rfl rfl OM (by decide)) rfl ?_
    refine RL.q (Y.assign rfl) rfl ?_
    refine RL.nil ?_
    refine hK18 _ _ _ ?_
    refine CW.kp [0, 4, 6, 7, 8] rfl ?_
    have hdj : 255 - (mag n / 256 ^ (K - 1 - r) % 256) = digitJ n K r := by rw [digitJ_eq, show sgn n = 255 from if_pos h5, flip8_255 (Nat.mod_lt _ (by decide))]
    rw [hdj]
    refine CW.region ?_
    refine RL.q (Y.move rfl) rfl ?_
    refine RL.q (Y.move rfl) rfl ?_
    refine RL.buildSlice [vbyte (digitJ n K r)] elem69 rfl (by decide) (fill1 rfl rfl) rfl fun b56 => ?_
    refine RL.append elem69 rfl rfl PK (SrcOk.own (sz := 1) (m := 1) MM rfl (bytes_one [digitJ n K r])) OM (by unfold lim; omega) rfl fun a57 c57 hc57 => ?_
    refine RL.q (Y.assign rfl) rfl ?_
    refine RL.nil ?_
    refine hK16 _ _ _ ?_
    refine CW.kp [0, 4, 6, 7] rfl ?_
    refine CW.region ?_
    refine RL.q (Y.move rfl) rfl ?_
    refine RL.q (Y.sub rfl rfl OM) rfl ?_
    refine RL.q (Y.assign rfl) rfl ?_
    refine RL.nil ?_
    refine ⟨K - (r + 1), [(6, _), (7, _)], ?_, (KP [6, 7, 0, 4]), ?_⟩
    · omega
    · exact Turn.drop ⟨[.acc (.slice a57 (1 + r + 1) c57) 5 1 (1 + r + 1) (byteV (encP n K r) ++ byteV [digitJ n K r])], rfl, hs2, r + 1, a57, c57, rfl, by omega, by rw [show ((K : Int) - 1 - r - 1) = (K : Int) - 1 - ((r + 1 : Nat) : Int) from by omega] <;> rfl, by rw [show byteV (encP n K (r + 1)) = byteV (encP n K r) ++ byteV [digitJ n K r] from by rw [encP_succ]; exact List.map_append] <;> rfl, rfl⟩ SB
   have hdj : (mag n / 256 ^ (K - 1 - r) % 256) = digitJ n K r := by rw [digitJ_eq, show sgn n = 0 from if_neg h5, flip8_z]
   rw [hdj]
   refine CW.skip ?_
   refine hK18 _ _ _ ?_
   refine CW.region ?_
   refine RL.q (Y.move rfl) rfl ?_
   refine RL.q (Y.move rfl) rfl ?_
   refine RL.buildSlice [vbyte (digitJ n K r)] elem69 rfl (by decide) (fill1 rfl rfl) rfl fun b56 => ?_
   refine RL.append elem69 rfl rfl PK (SrcOk.own (sz := 1) (m := 1) MM rfl (bytes_one [digitJ n K r])) OM (by unfold lim; omega) rfl fun a57 c57 hc57 => ?_
   refine RL.q (Y.assign rfl) rfl ?_
   refine RL.nil ?_
   refine hK16 _ _ _ ?_
   refine CW.kp [0, 4, 6, 7] rfl ?_
   refine CW.region ?_
   refine RL.q (Y.move rfl) rfl ?_
   refine RL.q (Y.sub rfl rfl OM) rfl ?_
   refine RL.q (Y.assign rfl) rfl ?_
   refine RL.nil ?_
   refine ⟨K - (r + 1), [(6, _), (7, _)], ?_, (KP [6, 7, 0, 4]), ?_⟩
   · omega
   · exact Turn.drop ⟨[.acc (.slice a57 (1 + r + 1) c57) 5 1 (1 + r + 1) (byteV (encP n K r) ++ byteV [digitJ n K r])], rfl, hs2, r + 1, a57, c57, rfl, by omega, by rw [show ((K : Int) - 1 - r - 1) = (K : Int) - 1 - ((r + 1 : Nat) : Int) from by omega] <;> rfl, by rw [show byteV (encP n K (r + 1)) = byteV (encP n K r) ++ byteV [digitJ n K r] from by rw [encP_succ]; exact List.map_append] <;> rfl, rfl⟩ SB
  refine CW.exit ?_
  refine hK12 _ _ _ ?_
  refine CW.seq fun K20 hK20 => ?_
  refine CW.region ?_
  refine RL.q (Y.move rfl) rfl ?_
  refine RL.q (Y.assign rfl) rfl ?_
  refine RL.nil ?_
  refine hK20 _ _ _ ?_
  refine CW.kp [2] rfl ?_
  refine CW.ret ?_
  obtain rfl : K = r := by omega
  have he : encI n = encP n K K := by rw [encI, ← hK]
  exact ⟨_, rfl, Turn.sealAcc (ds := (encP n K K).map dbyte) PK (bytes_rd _) (by unfold lim; omega) SB fun M2 hs3 hr2 => ⟨hs3, rfl, by rw [dbytes, he, encP_len]; exact hr2⟩⟩

theorem sameB_ok (w0 : World) (M : Mem) (Γ : List As) (x : List Nat) (ux : Value) (y : List Nat) (uy : Value)  (hx : Kn w0 M Γ (Rd M (dbytes x) ux)) (hy : Kn w0 M Γ (Rd M (dbytes y) uy))  :
    CallOk Try.prog w0 M Γ 73 #[ux, uy] (Is M Γ (.bool (decide (x = y)))) := by
  refine CallOk.kn hx fun hx => ?_
  obtain ⟨ax, cx, rfl, hcx, hlimx, hlenx⟩ := hx.slice
  refine CallOk.kn hy fun hy => ?_
  obtain ⟨ay, cy, rfl, hcy, hlimy, hleny⟩ := hy.slice
  refine enter (f := 73) Try.func73 rfl Try.ntmps73 rfl rfl fun w1 hw1 => ?_
  refine CW.addRd hx ?_
  refine CW.addRd hy ?_
  refine CW.seq fun K1 hK1 => ?_
  refine CW.region ?_
  refine RL.q (Y.assign rfl) rfl ?_
  refine RL.nil ?_
  refine hK1 _ _ _ ?_
  refine CW.kp [0, 1] rfl ?_
  refine CW.seq fun K2 hK2 => ?_
  refine CW.seq fun K3 hK3 => ?_
  refine CW.region ?_
  refine RL.q (Y.move rfl) rfl ?_
  refine RL.q (Y.len rfl Try.underlying69) rfl ?_
  refine RL.q (Y.move rfl) rfl ?_
  refine RL.q (Y.len rfl Try.underlying69) rfl ?_
  refine RL.q (Y.neq rfl rfl) rfl ?_
  refine RL.nil ?_
  refine hK3 _ _ _ ?_
  refine CW.kp [0, 1, 10] rfl ?_
  refine CW.ite rfl (fun h1 => ?_) (fun h1 => ?_)
  ·refine CW.seq fun K4 hK4 => ?_
   refine CW.region ?_
   refine RL.q (Y.assign rfl) rfl ?_
   refine RL.nil ?_
   refine hK4 _ _ _ ?_
   refine CW.kp [4] rfl ?_
   refine CW.ret ?_
   exact ⟨_, rfl, Turn.drop ⟨(vbF (fun h => h1 (by rw [h]))), rfl, rfl⟩ SB⟩
  refine CW.skip ?_
  refine hK2 _ _ _ ?_
  refine CW.seq fun K5 hK5 => ?_
  refine CW.seq fun K6 hK6 => ?_
  refine CW.region ?_
  refine RL.q (Y.assign rfl) rfl ?_
  refine RL.nil ?_
  refine hK6 _ _ _ ?_
  refine CW.kp [0, 1, 5] rfl ?_
  refine CW.block ?_
  -- LOOP 1: live [0, 1, 5] changed [5]
  refine CW.kp [5, 0, 1] rfl ?_
  refine CW.loopF (fun m Lc M1 Γc => ∃ k : Nat, m = x.length - k ∧ k ≤ x.length ∧ Lc = [(5, vint k)] ∧ Γc = [] ∧ M1 = M ∧ ∀ j (hj : j < x.length) (hj2 : j < y.length), j < k → x[j] = y[j]) (x.length) [(5, _)] _ rfl rfl ⟨0, rfl, Nat.zero_le _, rfl, rfl, rfl, fun _ _ _ h => absurd h (Nat.not_lt_zero _)⟩ ?_
  rintro m Lc M Γc hs ⟨k, rfl, hk, rfl, rfl, rfl, hF0⟩
  refine CW.seq fun K7 hK7 => ?_
  refine CW.seq fun K8 hK8 => ?_
  refine CW.region ?_
  refine RL.q (Y.move rfl) rfl ?_
  refine RL.q (Y.move rfl) rfl ?_
  refine RL.q (Y.len rfl Try.underlying69) rfl ?_
  refine RL.q (Y.lss rfl rfl) rfl ?_
  refine RL.nil ?_
  refine hK8 _ _ _ ?_
  refine CW.kp [0, 1, 5, 14] rfl ?_
  refine CW.ite rfl (fun h2 => ?_) (fun h2 => ?_)
  ·have hka : k < x.length := by omega
   have hkb : k < y.length := by omega
   refine CW.skip ?_
   refine hK7 _ _ _ ?_
   refine CW.seq fun K9 hK9 => ?_
   refine CW.block ?_
   refine CW.seq fun K10 hK10 => ?_
   refine CW.regionQ mix KR ?_
   refine QL.q (Y.move rfl) rfl ?_
   refine QL.q (Y.move rfl) rfl ?_
   refine QL.q (Y.index _ rfl rfl rfl AO slice69 SM) rfl ?_
   refine QL.q (Y.loadRd rfl MM (dbyte_get (List.getElem?_eq_getElem AO)) flat5) rfl ?_
   refine QL.q (Y.move rfl) rfl ?_
   refine QL.q (Y.move rfl) rfl ?_
   refine QL.q (Y.index _ rfl rfl rfl AO slice69 SM) rfl ?_
   refine QL.q (Y.loadRd rfl MM (dbyte_get (List.getElem?_eq_getElem AO)) flat5) rfl ?_
   refine QL.q (Y.neqK rfl rfl) rfl ?_
   refine QL.nil ?_
   refine hK10 _ _ _ ?_
   refine CW.kp [0, 1, 5, 25] rfl ?_
   refine CW.ite rfl (fun h3 => ?_) (fun h3 => ?_)
   ·refine CW.seq fun K11 hK11 => ?_
    refine CW.region ?_
    refine RL.q (Y.assign rfl) rfl ?_
    refine RL.nil ?_
    refine hK11 _ _ _ ?_
    refine CW.kp [4] rfl ?_
    refine CW.ret ?_
    exact ⟨_, rfl, Turn.drop ⟨(vbF (fun h => h3 (by subst h; rfl))), rfl, rfl⟩ SB⟩
   refine CW.skip ?_
   refine hK9 _ _ _ ?_
   refine CW.region ?_
   refine RL.q (Y.move rfl) rfl ?_
   refine RL.q (Y.add rfl rfl OM) rfl ?_
   refine RL.q (Y.assign rfl) rfl ?_
   refine RL.nil ?_
   refine ⟨x.length - (k + 1), [(5, _)], ?_, (KP [5, 0, 1]), ?_⟩
   · omega
   · exact Turn.drop ⟨[], rfl, hs, k + 1, rfl, by omega, rfl, rfl, rfl, fun j hj hj2 hlt => by by_cases e : j = k; subst e; exact OM; exact hF0 j hj hj2 OM⟩ SB
  refine CW.exit ?_
  refine hK5 _ _ _ ?_
  refine CW.seq fun K12 hK12 => ?_
  refine CW.region ?_
  refine RL.q (Y.assign rfl) rfl ?_
  refine RL.nil ?_
  refine hK12 _ _ _ ?_
  refine CW.kp [4] rfl ?_
  refine CW.ret ?_
  exact ⟨_, rfl, Turn.drop ⟨(vbT (List.ext_getElem OM (fun j q1 q2 => hF0 j q1 q2 OM))), rfl, rfl⟩ SB⟩

theorem takeB_rd {M : Mem} {b : List Nat} {a : Option Addr} {c : Nat} (h : Rd M (dbytes b) (.slice a b.length c)) (m : Nat) (hm : m ≤ b.length) : Rd M (dbytes (b.take m)) (.slice a m c) := by
  have hc : b.length ≤ c := by obtain ⟨_, _, h1, h2, _⟩ := h.slice; simp only [Value.slice.injEq] at h1; omega
  have h2 := Rd.cut h 0 m c (Nat.zero_le _) OM (Nat.le_refl _) hm
  rw [cut0, Nat.zero_mul, List.drop_zero, Nat.sub_zero] at h2
  have hl : (b.take m).length = m := by rw [List.length_take]; omega
  rw [dbytes, hl, List.map_take]
  simpa using h2
theorem takeB_sl {M : Mem} {b : List Nat} {a : Option Addr} {c : Nat} (h : Rd M (dbytes b) (.slice a b.length c)) (m : Nat) (hm : m ≤ b.length) : Rd M (.sl m 1 ((b.take m).map dbyte)) (.slice a m c) := by
  have h2 := takeB_rd h m hm
  rwa [dbytes, show (b.take m).length = m by rw [List.length_take]; omega] at h2

theorem fewB_ok (w0 : World) (M : Mem) (Γ : List As) (b : List Nat) (ub : Value) (n : Nat)  (hb : Kn w0 M Γ (Rd M (dbytes b) ub)) (hn : n ≤ 1000) :
    CallOk Try.prog w0 M Γ 38 #[ub, vint (n : Nat)] (Gives M Γ fun M' u => Rd M' (dbytes (b.take n)) u) := by
  refine CallOk.kn hb fun hb => ?_
  obtain ⟨ab, cb, rfl, hcb, hlimb, hlenb⟩ := hb.slice
  refine enter (f := 38) Try.func38 rfl Try.ntmps38 rfl rfl fun w1 hw1 => ?_
  refine CW.addRd hb ?_
  refine CW.addRd (takeB_sl hb (min b.length n) OM) ?_
  refine CW.seq fun K1 hK1 => ?_
  refine CW.region ?_
  refine RL.q (Y.assign rfl) rfl ?_
  refine RL.nil ?_
  refine hK1 _ _ _ ?_
  refine CW.kp [0, 1] rfl ?_
  refine CW.seq fun K2 hK2 => ?_
  refine CW.region ?_
  refine RL.q (Y.assign rfl) rfl ?_
  refine RL.nil ?_
  refine hK2 _ _ _ ?_
  refine CW.kp [0, 1, 5] rfl ?_
  refine CW.seq fun K3 hK3 => ?_
  refine CW.accNil 5 1 ?_
  refine CW.region ?_
  refine RL.q (Y.move rfl) rfl ?_
  refine RL.q (Y.move rfl) rfl ?_
  refine RL.q (Y.move rfl) rfl ?_
  refine RL.q (Y.len rfl Try.underlying69) rfl ?_
  refine RL.q (Y.move rfl) rfl ?_
  refine RL.q (Y.min2 rfl rfl) rfl ?_
  refine RL.q (Y.slice0 (min b.length n) cb rfl ⟨_, rfl, by omega⟩ rfl (by simp) OM OM slice69) rfl ?_
  refine RL.appendRd elem69 rfl rfl PK MM OM (by unfold lim; omega) rfl fun a13 c13 n13 hc13 hn13 => ?_
  refine RL.q (Y.assign rfl) rfl ?_
  refine RL.nil ?_
  refine hK3 _ _ _ ?_
  refine CW.kp [4] rfl ?_
  refine CW.ret ?_
  have e : b.take (min b.length n) = b.take n := by rcases Nat.le_total b.length n with h | h; rw [Nat.min_eq_left h, List.take_length, List.take_of_length_le h]; rw [Nat.min_eq_right h]
  exact ⟨_, rfl, Turn.sealAcc (ds := (b.take n).map dbyte) PK (by simpa [e] using hn13) (by unfold lim; omega) SB fun M2 hs3 hr2 => ⟨hs3, rfl, by rw [dbytes, show (b.take n).length = 0 + min b.length n from by rw [List.length_take]; omega]; simpa using hr2⟩⟩
end Go.Proofs.Ytfgkhhfkodlbpaa
