/- THE WALKS, 11: encodings of numbers, by the program. Printed by m04k.py. -/
import Derived.Test.YtfgkhhfkodlbpaaVj
import Derived.Test.YtfgkhhfkodlbpaaPureA
namespace Go.Proofs.Ytfgkhhfkodlbpaa
open Xe

theorem int_ok (w0 : World) (M : Mem) (Γ : List As) (n : Int)   (hn : InI n) :
    CallOk Try.prog w0 M Γ 61 #[vint n] (Gives M Γ fun M' u => Rd M' (dbytes (encI n)) u) := by
  have hml := mag_lt hn
  refine enter (f := 61) Try.func61 rfl Try.ntmps61 rfl rfl fun w1 hw1 => ?_
  refine CW.seq fun K1 hK1 => ?_
  refine CW.region ?_
  refine RL.q (Y.assign rfl) rfl ?_
  refine RL.nil ?_
  refine hK1 _ _ _ ?_
  refine CW.kp [0] rfl ?_
  refine CW.scope ?_
  refine CW.seq fun K2 hK2 => ?_
  refine CW.region ?_
  refine RL.q (Y.move rfl) rfl ?_
  refine RL.q (Y.convTo (r := (((n % 18446744073709551616).toNat : Nat) : Int)) KR KR rfl (by rw [wrap_u64']; omega)) rfl ?_
  refine RL.q (Y.assign rfl) rfl ?_
  refine RL.q (v := vbyte 0) (Y.assign rfl) rfl ?_
  refine RL.nil ?_
  refine hK2 _ _ _ ?_
  refine CW.kp [0, 3, 4] rfl ?_
  refine CW.seq fun K3 hK3 => ?_
  refine CW.seq fun K4 hK4 => ?_
  refine CW.region ?_
  refine RL.q (Y.move rfl) rfl ?_
  refine RL.q (Y.lss rfl rfl) rfl ?_
  refine RL.nil ?_
  refine hK4 _ _ _ ?_
  refine CW.kp [3, 4, 11] rfl ?_
  refine CW.ite rfl (fun h1 => ?_) (fun h1 => ?_)
  ·refine CW.region ?_
   refine RL.q (Y.move rfl) rfl ?_
   refine RL.q (Y.not64 rfl OM) rfl ?_
   refine RL.q (Y.assign rfl) rfl ?_
   refine RL.q (v := vbyte 255) (Y.assign rfl) rfl ?_
   refine RL.nil ?_
   refine hK3 _ _ _ ?_
   refine CW.kp [3, 4] rfl ?_
   refine CW.keep (L' := [(3, vword (mag n)), (4, vbyte (sgn n))]) (Keep.cons 3 (by rw [← mag_ng hn h1]; rfl) (Keep.cons 4 (by rw [show sgn n = 255 from if_pos h1]; rfl) (Keep.nil _))) ?_
   refine CW.seq fun K5 hK5 => ?_
   refine CW.region ?_
   refine RL.q (Y.assign rfl) rfl ?_
   refine RL.nil ?_
   refine hK5 _ _ _ ?_
   refine CW.kp [3, 4, 5] rfl ?_
   refine CW.seq fun K6 hK6 => ?_
   refine CW.label ?_
   refine hK6 _ _ _ ?_
   refine CW.seq fun K7 hK7 => ?_
   refine CW.block ?_
   -- LOOP 1: live [3, 4, 5] changed [5]
   refine CW.kp [5, 3, 4] rfl ?_
   refine CW.loopF (fun j Lc M1 Γc => j ≤ 8 ∧ Lc = [(5, vint j)] ∧ Γc = [] ∧ M1 = M ∧ mag n < 256 ^ j) 8 [(5, _)] [] rfl rfl ⟨by omega, rfl, rfl, rfl, by omega⟩ ?_
   rintro j Lc M Γc hs ⟨hj, rfl, rfl, rfl, hF⟩
   refine CW.seq fun K8 hK8 => ?_
   refine CW.seq fun K9 hK9 => ?_
   refine CW.region ?_
   refine RL.q (Y.move rfl) rfl ?_
   refine RL.q (Y.gtr rfl rfl) rfl ?_
   refine RL.nil ?_
   refine hK9 _ _ _ ?_
   refine CW.kp [3, 4, 5, 15] rfl ?_
   refine CW.ite rfl (fun h2 => ?_) (fun h2 => ?_)
   ·refine CW.skip ?_
    refine hK8 _ _ _ ?_
    refine CW.block ?_
    refine CW.seq fun K10 hK10 => ?_
    refine CW.seq fun K11 hK11 => ?_
    refine CW.region ?_
    refine RL.q (Y.move rfl) rfl ?_
    refine RL.q (Y.move rfl) rfl ?_
    refine RL.q (Y.sub rfl rfl OM) rfl ?_
    refine RL.q (Y.mul rfl rfl OM) rfl ?_
    refine RL.q (Y.shrN (8 * (j - 1)) rfl rfl OM OM) rfl ?_
    refine RL.q (Y.gtrK rfl rfl) rfl ?_
    refine RL.nil ?_
    refine hK11 _ _ _ ?_
    refine CW.kp [3, 4, 5, 21] rfl ?_
    refine CW.ite rfl (fun h3 => ?_) (fun h3 => ?_)
    ·refine CW.exit ?_
     refine hK7 _ _ _ ?_
     refine CW.seq fun K12 hK12 => ?_
     have hk : nd (mag n) = j := nd_eq hF (by first | exact .inl OM | exact .inr OM)
     refine CW.region ?_
     refine RL.q (Y.move rfl) rfl ?_
     refine RL.q (Y.add rfl rfl OM) rfl ?_
     refine RL.q (Y.convTo (r := ((128 + j : Nat) : Int)) KR KR rfl (by rw [wrap_u8]; omega)) rfl ?_
     refine RL.q (Y.move rfl) rfl ?_
     refine RL.q (Y.xor8 rfl rfl OM (sgn_or n)) rfl ?_
     refine RL.buildSlice [vbyte (flip8 (sgn n) (128 + j))] elem69 rfl (by decide) (fill1 rfl rfl) rfl fun b29 => ?_
     refine RL.ownAcc (k := 1) (sz := 1) PK rfl (by decide) ?_
     refine RL.q (Y.assign rfl) rfl ?_
     refine RL.nil ?_
     refine hK12 _ _ _ ?_
     refine CW.kp [3, 4, 5, 6] rfl ?_
     refine CW.seq fun K13 hK13 => ?_
     refine CW.seq fun K14 hK14 => ?_
     refine CW.region ?_
     refine RL.q (Y.move rfl) rfl ?_
     refine RL.q (Y.sub rfl rfl OM) rfl ?_
     refine RL.q (Y.assign rfl) rfl ?_
     refine RL.nil ?_
     refine hK14 _ _ _ ?_
     refine CW.kp [3, 4, 6, 7] rfl ?_
     refine CW.block ?_
     -- LOOP 2: live [3, 4, 6, 7] changed [6, 7]
     refine CW.kp [6, 7, 3, 4] rfl ?_
     refine CW.loopF (fun m Lc M1 Γc => ∃ (r : Nat) (ua : Option Addr) (ca : Nat), m = j - r ∧ r ≤ j ∧ Lc = [(6, .slice ua (1 + r) ca), (7, vint ((j : Int) - 1 - r))] ∧ Γc = [.acc (.slice ua (1 + r) ca) 5 1 (1 + r) (byteV (encP n j r))] ∧ M1 = M) j [(6, _), (7, _)] [_] rfl rfl ⟨0, some ⟨b29, 0, none⟩, 1, rfl, Nat.zero_le _, by simp, rfl, rfl⟩ ?_
     rintro m Lc M Γc hs2 ⟨r, ua, ca, rfl, hr, rfl, rfl, rfl⟩
     refine CW.seq fun K15 hK15 => ?_
     refine CW.seq fun K16 hK16 => ?_
     refine CW.region ?_
     refine RL.q (Y.move rfl) rfl ?_
     refine RL.q (Y.geq rfl rfl) rfl ?_
     refine RL.nil ?_
     refine hK16 _ _ _ ?_
     refine CW.kp [3, 4, 6, 7, 33] rfl ?_
     refine CW.ite rfl (fun h4 => ?_) (fun h4 => ?_)
     ·have hrj : r < j := by omega
      refine CW.skip ?_
      refine hK15 _ _ _ ?_
      refine CW.seq fun K17 hK17 => ?_
      refine CW.block ?_
      refine CW.region ?_
      refine RL.q (Y.move rfl) rfl ?_
      refine RL.q (Y.move rfl) rfl ?_
      refine RL.q (Y.move rfl) rfl ?_
      refine RL.q (Y.mul rfl rfl OM) rfl ?_
      refine RL.q (Y.shrN (8 * (j - 1 - r)) rfl rfl OM OM) rfl ?_
      refine RL.q (Y.convTo (r := ((mag n / 2 ^ (8 * (j - 1 - r)) % 256 : Nat) : Int)) KR KR rfl (by rw [wrap_u8]; omega)) rfl ?_
      refine RL.q (Y.move rfl) rfl ?_
      refine RL.q (Y.xor8 rfl rfl OM (sgn_or n)) rfl ?_
      refine RL.buildSlice [vbyte (digitJ n j r)] elem69 rfl (by decide) (fill1 rfl rfl) rfl fun b44 => ?_
      refine RL.append elem69 rfl rfl PK (SrcOk.own (sz := 1) (m := 1) MM rfl (bytes_one [digitJ n j r])) OM (by unfold lim; omega) rfl fun a45 c45 hc45 => ?_
      refine RL.q (Y.assign rfl) rfl ?_
      refine RL.nil ?_
      refine hK17 _ _ _ ?_
      refine CW.kp [3, 4, 6, 7] rfl ?_
      refine CW.region ?_
      refine RL.q (Y.move rfl) rfl ?_
      refine RL.q (Y.sub rfl rfl OM) rfl ?_
      refine RL.q (Y.assign rfl) rfl ?_
      refine RL.nil ?_
      refine ⟨j - (r + 1), [(6, _), (7, _)], ?_, (KP [6, 7, 3, 4]), ?_⟩
      · omega
      · exact Turn.drop ⟨[.acc (.slice a45 (1 + r + 1) c45) 5 1 (1 + r + 1) (byteV (encP n j r) ++ byteV [digitJ n j r])], rfl, hs2, r + 1, a45, c45, rfl, by omega, by rw [show ((j : Int) - 1 - r - 1) = (j : Int) - 1 - ((r + 1 : Nat) : Int) from by omega] <;> rfl, by rw [show byteV (encP n j (r + 1)) = byteV (encP n j r) ++ byteV [digitJ n j r] from by rw [encP_succ]; exact List.map_append] <;> rfl, rfl⟩ SB
     refine CW.exit ?_
     refine hK13 _ _ _ ?_
     refine CW.seq fun K18 hK18 => ?_
     refine CW.region ?_
     refine RL.q (Y.move rfl) rfl ?_
     refine RL.q (Y.assign rfl) rfl ?_
     refine RL.nil ?_
     refine hK18 _ _ _ ?_
     refine CW.kp [2] rfl ?_
     refine CW.ret ?_
     obtain rfl : r = j := by omega
     have he : encI n = encP n r r := by rw [encI, hk]
     exact ⟨_, rfl, Turn.sealAcc (ds := (encP n r r).map dbyte) PK (bytes_rd _) (by unfold lim; omega) SB fun M2 hs3 hr2 => ⟨hs3, rfl, by rw [dbytes, he, encP_len]; exact hr2⟩⟩
    refine CW.skip ?_
    refine hK10 _ _ _ ?_
    refine CW.region ?_
    refine RL.q (Y.move rfl) rfl ?_
    refine RL.q (Y.sub rfl rfl OM) rfl ?_
    refine RL.q (Y.assign rfl) rfl ?_
    refine RL.nil ?_
    refine ⟨j - 1, [(5, _)], ?_, (KP [5, 3, 4]), ?_⟩
    · omega
    · exact Turn.drop ⟨[], rfl, hs, by omega, by rw [show ((j : Int) - 1) = ((j - 1 : Nat) : Int) from by omega], rfl, rfl, lt_pow_pred OM OM⟩ SB
   refine CW.exit ?_
   refine hK7 _ _ _ ?_
   refine CW.seq fun K19 hK19 => ?_
   have hk : nd (mag n) = j := nd_eq hF (by first | exact .inl OM | exact .inr OM)
   refine CW.region ?_
   refine RL.q (Y.move rfl) rfl ?_
   refine RL.q (Y.add rfl rfl OM) rfl ?_
   refine RL.q (Y.convTo (r := ((128 + j : Nat) : Int)) KR KR rfl (by rw [wrap_u8]; omega)) rfl ?_
   refine RL.q (Y.move rfl) rfl ?_
   refine RL.q (Y.xor8 rfl rfl OM (sgn_or n)) rfl ?_
   refine RL.buildSlice [vbyte (flip8 (sgn n) (128 + j))] elem69 rfl (by decide) (fill1 rfl rfl) rfl fun b29 => ?_
   refine RL.ownAcc (k := 1) (sz := 1) PK rfl (by decide) ?_
   refine RL.q (Y.assign rfl) rfl ?_
   refine RL.nil ?_
   refine hK19 _ _ _ ?_
   refine CW.kp [3, 4, 5, 6] rfl ?_
   refine CW.seq fun K20 hK20 => ?_
   refine CW.seq fun K21 hK21 => ?_
   refine CW.region ?_
   refine RL.q (Y.move rfl) rfl ?_
   refine RL.q (Y.sub rfl rfl OM) rfl ?_
   refine RL.q (Y.assign rfl) rfl ?_
   refine RL.nil ?_
   refine hK21 _ _ _ ?_
   refine CW.kp [3, 4, 6, 7] rfl ?_
   refine CW.block ?_
   -- LOOP 2: live [3, 4, 6, 7] changed [6, 7]
   refine CW.kp [6, 7, 3, 4] rfl ?_
   refine CW.loopF (fun m Lc M1 Γc => ∃ (r : Nat) (ua : Option Addr) (ca : Nat), m = j - r ∧ r ≤ j ∧ Lc = [(6, .slice ua (1 + r) ca), (7, vint ((j : Int) - 1 - r))] ∧ Γc = [.acc (.slice ua (1 + r) ca) 5 1 (1 + r) (byteV (encP n j r))] ∧ M1 = M) j [(6, _), (7, _)] [_] rfl rfl ⟨0, some ⟨b29, 0, none⟩, 1, rfl, Nat.zero_le _, by simp, rfl, rfl⟩ ?_
   rintro m Lc M Γc hs2 ⟨r, ua, ca, rfl, hr, rfl, rfl, rfl⟩
   refine CW.seq fun K22 hK22 => ?_
   refine CW.seq fun K23 hK23 => ?_
   refine CW.region ?_
   refine RL.q (Y.move rfl) rfl ?_
   refine RL.q (Y.geq rfl rfl) rfl ?_
   refine RL.nil ?_
   refine hK23 _ _ _ ?_
   refine CW.kp [3, 4, 6, 7, 33] rfl ?_
   refine CW.ite rfl (fun h4 => ?_) (fun h4 => ?_)
   ·have hrj : r < j := by omega
    refine CW.skip ?_
    refine hK22 _ _ _ ?_
    refine CW.seq fun K24 hK24 => ?_
    refine CW.block ?_
    refine CW.region ?_
    refine RL.q (Y.move rfl) rfl ?_
    refine RL.q (Y.move rfl) rfl ?_
    refine RL.q (Y.move rfl) rfl ?_
    refine RL.q (Y.mul rfl rfl OM) rfl ?_
    refine RL.q (Y.shrN (8 * (j - 1 - r)) rfl rfl OM OM) rfl ?_
    refine RL.q (Y.convTo (r := ((mag n / 2 ^ (8 * (j - 1 - r)) % 256 : Nat) : Int)) KR KR rfl (by rw [wrap_u8]; omega)) rfl ?_
    refine RL.q (Y.move rfl) rfl ?_
    refine RL.q (Y.xor8 rfl rfl OM (sgn_or n)) rfl ?_
    refine RL.buildSlice [vbyte (digitJ n j r)] elem69 rfl (by decide) (fill1 rfl rfl) rfl fun b44 => ?_
    refine RL.append elem69 rfl rfl PK (SrcOk.own (sz := 1) (m := 1) MM rfl (bytes_one [digitJ n j r])) OM (by unfold lim; omega) rfl fun a45 c45 hc45 => ?_
    refine RL.q (Y.assign rfl) rfl ?_
    refine RL.nil ?_
    refine hK24 _ _ _ ?_
    refine CW.kp [3, 4, 6, 7] rfl ?_
    refine CW.region ?_
    refine RL.q (Y.move rfl) rfl ?_
    refine RL.q (Y.sub rfl rfl OM) rfl ?_
    refine RL.q (Y.assign rfl) rfl ?_
    refine RL.nil ?_
    refine ⟨j - (r + 1), [(6, _), (7, _)], ?_, (KP [6, 7, 3, 4]), ?_⟩
    · omega
    · exact Turn.drop ⟨[.acc (.slice a45 (1 + r + 1) c45) 5 1 (1 + r + 1) (byteV (encP n j r) ++ byteV [digitJ n j r])], rfl, hs2, r + 1, a45, c45, rfl, by omega, by rw [show ((j : Int) - 1 - r - 1) = (j : Int) - 1 - ((r + 1 : Nat) : Int) from by omega] <;> rfl, by rw [show byteV (encP n j (r + 1)) = byteV (encP n j r) ++ byteV [digitJ n j r] from by rw [encP_succ]; exact List.map_append] <;> rfl, rfl⟩ SB
   refine CW.exit ?_
   refine hK20 _ _ _ ?_
   refine CW.seq fun K25 hK25 => ?_
   refine CW.region ?_
   refine RL.q (Y.move rfl) rfl ?_
   refine RL.q (Y.assign rfl) rfl ?_
   refine RL.nil ?_
   refine hK25 _ _ _ ?_
   refine CW.kp [2] rfl ?_
   refine CW.ret ?_
   obtain rfl : r = j := by omega
   have he : encI n = encP n r r := by rw [encI, hk]
   exact ⟨_, rfl, Turn.sealAcc (ds := (encP n r r).map dbyte) PK (bytes_rd _) (by unfold lim; omega) SB fun M2 hs3 hr2 => ⟨hs3, rfl, by rw [dbytes, he, encP_len]; exact hr2⟩⟩
  refine CW.keep (L' := [(3, vword (mag n)), (4, vbyte (sgn n))]) (Keep.cons 3 (by rw [← mag_nn hn h1]; rfl) (Keep.cons 4 (by rw [show sgn n = 0 from if_neg h1]; rfl) (Keep.nil _))) ?_
  refine CW.skip ?_
  refine hK3 _ _ _ ?_
  refine CW.seq fun K26 hK26 => ?_
  refine CW.region ?_
  refine RL.q (Y.assign rfl) rfl ?_
  refine RL.nil ?_
  refine hK26 _ _ _ ?_
  refine CW.kp [3, 4, 5] rfl ?_
  refine CW.seq fun K27 hK27 => ?_
  refine CW.label ?_
  refine hK27 _ _ _ ?_
  refine CW.seq fun K28 hK28 => ?_
  refine CW.block ?_
  -- LOOP 1: live [3, 4, 5] changed [5]
  refine CW.kp [5, 3, 4] rfl ?_
  refine CW.loopF (fun j Lc M1 Γc => j ≤ 8 ∧ Lc = [(5, vint j)] ∧ Γc = [] ∧ M1 = M ∧ mag n < 256 ^ j) 8 [(5, _)] [] rfl rfl ⟨by omega, rfl, rfl, rfl, by omega⟩ ?_
  rintro j Lc M Γc hs ⟨hj, rfl, rfl, rfl, hF⟩
  refine CW.seq fun K29 hK29 => ?_
  refine CW.seq fun K30 hK30 => ?_
  refine CW.region ?_
  refine RL.q (Y.move rfl) rfl ?_
  refine RL.q (Y.gtr rfl rfl) rfl ?_
  refine RL.nil ?_
  refine hK30 _ _ _ ?_
  refine CW.kp [3, 4, 5, 15] rfl ?_
  refine CW.ite rfl (fun h2 => ?_) (fun h2 => ?_)
  ·refine CW.skip ?_
   refine hK29 _ _ _ ?_
   refine CW.block ?_
   refine CW.seq fun K31 hK31 => ?_
   refine CW.seq fun K32 hK32 => ?_
   refine CW.region ?_
   refine RL.q (Y.move rfl) rfl ?_
   refine RL.q (Y.move rfl) rfl ?_
   refine RL.q (Y.sub rfl rfl OM) rfl ?_
   refine RL.q (Y.mul rfl rfl OM) rfl ?_
   refine RL.q (Y.shrN (8 * (j - 1)) rfl rfl OM OM) rfl ?_
   refine RL.q (Y.gtrK rfl rfl) rfl ?_
   refine RL.nil ?_
   refine hK32 _ _ _ ?_
   refine CW.kp [3, 4, 5, 21] rfl ?_
   refine CW.ite rfl (fun h3 => ?_) (fun h3 => ?_)
   ·refine CW.exit ?_
    refine hK28 _ _ _ ?_
    refine CW.seq fun K33 hK33 => ?_
    have hk : nd (mag n) = j := nd_eq hF (by first | exact .inl OM | exact .inr OM)
    refine CW.region ?_
    refine RL.q (Y.move rfl) rfl ?_
    refine RL.q (Y.add rfl rfl OM) rfl ?_
    refine RL.q (Y.convTo (r := ((128 + j : Nat) : Int)) KR KR rfl (by rw [wrap_u8]; omega)) rfl ?_
    refine RL.q (Y.move rfl) rfl ?_
    refine RL.q (Y.xor8 rfl rfl OM (sgn_or n)) rfl ?_
    refine RL.buildSlice [vbyte (flip8 (sgn n) (128 + j))] elem69 rfl (by decide) (fill1 rfl rfl) rfl fun b29 => ?_
    refine RL.ownAcc (k := 1) (sz := 1) PK rfl (by decide) ?_
    refine RL.q (Y.assign rfl) rfl ?_
    refine RL.nil ?_
    refine hK33 _ _ _ ?_
    refine CW.kp [3, 4, 5, 6] rfl ?_
    refine CW.seq fun K34 hK34 => ?_
    refine CW.seq fun K35 hK35 => ?_
    refine CW.region ?_
    refine RL.q (Y.move rfl) rfl ?_
    refine RL.q (Y.sub rfl rfl OM) rfl ?_
    refine RL.q (Y.assign rfl) rfl ?_
    refine RL.nil ?_
    refine hK35 _ _ _ ?_
    refine CW.kp [3, 4, 6, 7] rfl ?_
    refine CW.block ?_
    -- LOOP 2: live [3, 4, 6, 7] changed [6, 7]
    refine CW.kp [6, 7, 3, 4] rfl ?_
    refine CW.loopF (fun m Lc M1 Γc => ∃ (r : Nat) (ua : Option Addr) (ca : Nat), m = j - r ∧ r ≤ j ∧ Lc = [(6, .slice ua (1 + r) ca), (7, vint ((j : Int) - 1 - r))] ∧ Γc = [.acc (.slice ua (1 + r) ca) 5 1 (1 + r) (byteV (encP n j r))] ∧ M1 = M) j [(6, _), (7, _)] [_] rfl rfl ⟨0, some ⟨b29, 0, none⟩, 1, rfl, Nat.zero_le _, by simp, rfl, rfl⟩ ?_
    rintro m Lc M Γc hs2 ⟨r, ua, ca, rfl, hr, rfl, rfl, rfl⟩
    refine CW.seq fun K36 hK36 => ?_
    refine CW.seq fun K37 hK37 => ?_
    refine CW.region ?_
    refine RL.q (Y.move rfl) rfl ?_
    refine RL.q (Y.geq rfl rfl) rfl ?_
    refine RL.nil ?_
    refine hK37 _ _ _ ?_
    refine CW.kp [3, 4, 6, 7, 33] rfl ?_
    refine CW.ite rfl (fun h4 => ?_) (fun h4 => ?_)
    ·have hrj : r < j := by omega
     refine CW.skip ?_
     refine hK36 _ _ _ ?_
     refine CW.seq fun K38 hK38 => ?_
     refine CW.block ?_
     refine CW.region ?_
     refine RL.q (Y.move rfl) rfl ?_
     refine RL.q (Y.move rfl) rfl ?_
     refine RL.q (Y.move rfl) rfl ?_
     refine RL.q (Y.mul rfl rfl OM) rfl ?_
     refine RL.q (Y.shrN (8 * (j - 1 - r)) rfl rfl OM OM) rfl ?_
     refine RL.q (Y.convTo (r := ((mag n / 2 ^ (8 * (j - 1 - r)) % 256 : Nat) : Int)) KR KR rfl (by rw [wrap_u8]; omega)) rfl ?_
     refine RL.q (Y.move rfl) rfl ?_
     refine RL.q (Y.xor8 rfl rfl OM (sgn_or n)) rfl ?_
     refine RL.buildSlice [vbyte (digitJ n j r)] elem69 rfl (by decide) (fill1 rfl rfl) rfl fun b44 => ?_
     refine RL.append elem69 rfl rfl PK (SrcOk.own (sz := 1) (m := 1) MM rfl (bytes_one [digitJ n j r])) OM (by unfold lim; omega) rfl fun a45 c45 hc45 => ?_
     refine RL.q (Y.assign rfl) rfl ?_
     refine RL.nil ?_
     refine hK38 _ _ _ ?_
     refine CW.kp [3, 4, 6, 7] rfl ?_
     refine CW.region ?_
     refine RL.q (Y.move rfl) rfl ?_
     refine RL.q (Y.sub rfl rfl OM) rfl ?_
     refine RL.q (Y.assign rfl) rfl ?_
     refine RL.nil ?_
     refine ⟨j - (r + 1), [(6, _), (7, _)], ?_, (KP [6, 7, 3, 4]), ?_⟩
     · omega
     · exact Turn.drop ⟨[.acc (.slice a45 (1 + r + 1) c45) 5 1 (1 + r + 1) (byteV (encP n j r) ++ byteV [digitJ n j r])], rfl, hs2, r + 1, a45, c45, rfl, by omega, by rw [show ((j : Int) - 1 - r - 1) = (j : Int) - 1 - ((r + 1 : Nat) : Int) from by omega] <;> rfl, by rw [show byteV (encP n j (r + 1)) = byteV (encP n j r) ++ byteV [digitJ n j r] from by rw [encP_succ]; exact List.map_append] <;> rfl, rfl⟩ SB
    refine CW.exit ?_
    refine hK34 _ _ _ ?_
    refine CW.seq fun K39 hK39 => ?_
    refine CW.region ?_
    refine RL.q (Y.move rfl) rfl ?_
    refine RL.q (Y.assign rfl) rfl ?_
    refine RL.nil ?_
    refine hK39 _ _ _ ?_
    refine CW.kp [2] rfl ?_
    refine CW.ret ?_
    obtain rfl : r = j := by omega
    have he : encI n = encP n r r := by rw [encI, hk]
    exact ⟨_, rfl, Turn.sealAcc (ds := (encP n r r).map dbyte) PK (bytes_rd _) (by unfold lim; omega) SB fun M2 hs3 hr2 => ⟨hs3, rfl, by rw [dbytes, he, encP_len]; exact hr2⟩⟩
   refine CW.skip ?_
   refine hK31 _ _ _ ?_
   refine CW.region ?_
   refine RL.q (Y.move rfl) rfl ?_
   refine RL.q (Y.sub rfl rfl OM) rfl ?_
   refine RL.q (Y.assign rfl) rfl ?_
   refine RL.nil ?_
   refine ⟨j - 1, [(5, _)], ?_, (KP [5, 3, 4]), ?_⟩
   · omega
   · exact Turn.drop ⟨[], rfl, hs, by omega, by rw [show ((j : Int) - 1) = ((j - 1 : Nat) : Int) from by omega], rfl, rfl, lt_pow_pred OM OM⟩ SB
  refine CW.exit ?_
  refine hK28 _ _ _ ?_
  refine CW.seq fun K40 hK40 => ?_
  have hk : nd (mag n) = j := nd_eq hF (by first | exact .inl OM | exact .inr OM)
  refine CW.region ?_
  refine RL.q (Y.move rfl) rfl ?_
  refine RL.q (Y.add rfl rfl OM) rfl ?_
  refine RL.q (Y.convTo (r := ((128 + j : Nat) : Int)) KR KR rfl (by rw [wrap_u8]; omega)) rfl ?_
  refine RL.q (Y.move rfl) rfl ?_
  refine RL.q (Y.xor8 rfl rfl OM (sgn_or n)) rfl ?_
  refine RL.buildSlice [vbyte (flip8 (sgn n) (128 + j))] elem69 rfl (by decide) (fill1 rfl rfl) rfl fun b29 => ?_
  refine RL.ownAcc (k := 1) (sz := 1) PK rfl (by decide) ?_
  refine RL.q (Y.assign rfl) rfl ?_
  refine RL.nil ?_
  refine hK40 _ _ _ ?_
  refine CW.kp [3, 4, 5, 6] rfl ?_
  refine CW.seq fun K41 hK41 => ?_
  refine CW.seq fun K42 hK42 => ?_
  refine CW.region ?_
  refine RL.q (Y.move rfl) rfl ?_
  refine RL.q (Y.sub rfl rfl OM) rfl ?_
  refine RL.q (Y.assign rfl) rfl ?_
  refine RL.nil ?_
  refine hK42 _ _ _ ?_
  refine CW.kp [3, 4, 6, 7] rfl ?_
  refine CW.block ?_
  -- LOOP 2: live [3, 4, 6, 7] changed [6, 7]
  refine CW.kp [6, 7, 3, 4] rfl ?_
  refine CW.loopF (fun m Lc M1 Γc => ∃ (r : Nat) (ua : Option Addr) (ca : Nat), m = j - r ∧ r ≤ j ∧ Lc = [(6, .slice ua (1 + r) ca), (7, vint ((j : Int) - 1 - r))] ∧ Γc = [.acc (.slice ua (1 + r) ca) 5 1 (1 + r) (byteV (encP n j r))] ∧ M1 = M) j [(6, _), (7, _)] [_] rfl rfl ⟨0, some ⟨b29, 0, none⟩, 1, rfl, Nat.zero_le _, by simp, rfl, rfl⟩ ?_
  rintro m Lc M Γc hs2 ⟨r, ua, ca, rfl, hr, rfl, rfl, rfl⟩
  refine CW.seq fun K43 hK43 => ?_
  refine CW.seq fun K44 hK44 => ?_
  refine CW.region ?_
  refine RL.q (Y.move rfl) rfl ?_
  refine RL.q (Y.geq rfl rfl) rfl ?_
  refine RL.nil ?_
  refine hK44 _ _ _ ?_
  refine CW.kp [3, 4, 6, 7, 33] rfl ?_
  refine CW.ite rfl (fun h4 => ?_) (fun h4 => ?_)
  ·have hrj : r < j := by omega
   refine CW.skip ?_
   refine hK43 _ _ _ ?_
   refine CW.seq fun K45 hK45 => ?_
   refine CW.block ?_
   refine CW.region ?_
   refine RL.q (Y.move rfl) rfl ?_
   refine RL.q (Y.move rfl) rfl ?_
   refine RL.q (Y.move rfl) rfl ?_
   refine RL.q (Y.mul rfl rfl OM) rfl ?_
   refine RL.q (Y.shrN (8 * (j - 1 - r)) rfl rfl OM OM) rfl ?_
   refine RL.q (Y.convTo (r := ((mag n / 2 ^ (8 * (j - 1 - r)) % 256 : Nat) : Int)) KR KR rfl (by rw [wrap_u8]; omega)) rfl ?_
   refine RL.q (Y.move rfl) rfl ?_
   refine RL.q (Y.xor8 rfl rfl OM (sgn_or n)) rfl ?_
   refine RL.buildSlice [vbyte (digitJ n j r)] elem69 rfl (by decide) (fill1 rfl rfl) rfl fun b44 => ?_
   refine RL.append elem69 rfl rfl PK (SrcOk.own (sz := 1) (m := 1) MM rfl (bytes_one [digitJ n j r])) OM (by unfold lim; omega) rfl fun a45 c45 hc45 => ?_
   refine RL.q (Y.assign rfl) rfl ?_
   refine RL.nil ?_
   refine hK45 _ _ _ ?_
   refine CW.kp [3, 4, 6, 7] rfl ?_
   refine CW.region ?_
   refine RL.q (Y.move rfl) rfl ?_
   refine RL.q (Y.sub rfl rfl OM) rfl ?_
   refine RL.q (Y.assign rfl) rfl ?_
   refine RL.nil ?_
   refine ⟨j - (r + 1), [(6, _), (7, _)], ?_, (KP [6, 7, 3, 4]), ?_⟩
   · omega
   · exact Turn.drop ⟨[.acc (.slice a45 (1 + r + 1) c45) 5 1 (1 + r + 1) (byteV (encP n j r) ++ byteV [digitJ n j r])], rfl, hs2, r + 1, a45, c45, rfl, by omega, by rw [show ((j : Int) - 1 - r - 1) = (j : Int) - 1 - ((r + 1 : Nat) : Int) from by omega] <;> rfl, by rw [show byteV (encP n j (r + 1)) = byteV (encP n j r) ++ byteV [digitJ n j r] from by rw [encP_succ]; exact List.map_append] <;> rfl, rfl⟩ SB
  refine CW.exit ?_
  refine hK41 _ _ _ ?_
  refine CW.seq fun K46 hK46 => ?_
  refine CW.region ?_
  refine RL.q (Y.move rfl) rfl ?_
  refine RL.q (Y.assign rfl) rfl ?_
  refine RL.nil ?_
  refine hK46 _ _ _ ?_
  refine CW.kp [2] rfl ?_
  refine CW.ret ?_
  obtain rfl : r = j := by omega
  have he : encI n = encP n r r := by rw [encI, hk]
  exact ⟨_, rfl, Turn.sealAcc (ds := (encP n r r).map dbyte) PK (bytes_rd _) (by unfold lim; omega) SB fun M2 hs3 hr2 => ⟨hs3, rfl, by rw [dbytes, he, encP_len]; exact hr2⟩⟩
end Go.Proofs.Ytfgkhhfkodlbpaa
