/- THE WALKS, 14: reading numbers, by the program. Printed by m04n.py. -/
import Derived.Test.YtfgkhhfkodlbpaaVm
namespace Go.Proofs.Ytfgkhhfkodlbpaa
open Xe

theorem getI_ok (w0 : World) (M : Mem) (Γ : List As) (b : List Nat) (ub : Value)  (hb : Kn w0 M Γ (Rd M (dbytes b) ub)) (h256 : ∀ x ∈ b, x < 256) :
    CallOk Try.prog w0 M Γ 63 #[ub] (Is M Γ (.tuple #[vint (getI b).1, vint (getI b).2.1, vint (getI b).2.2])) := by
  refine CallOk.kn hb fun hb => ?_
  obtain ⟨ab, cb, rfl, hcb, hlimb, hlenb⟩ := hb.slice
  refine enter3 (f := 63) Try.func63 rfl Try.ntmps63 rfl rfl fun w1 hw1 => ?_
  refine CW.addRd hb ?_
  refine CW.seq fun K1 hK1 => ?_
  refine CW.region ?_
  refine RL.q (Y.assign rfl) rfl ?_
  refine RL.q (Y.assign rfl) rfl ?_
  refine RL.q (Y.assign rfl) rfl ?_
  refine RL.nil ?_
  refine hK1 _ _ _ ?_
  refine CW.kp [0] rfl ?_
  refine CW.seq fun K2 hK2 => ?_
  refine CW.seq fun K3 hK3 => ?_
  refine CW.region ?_
  refine RL.q (Y.move rfl) rfl ?_
  refine RL.q (Y.len rfl Try.underlying69) rfl ?_
  refine RL.q (Y.eql rfl rfl) rfl ?_
  refine RL.nil ?_
  refine hK3 _ _ _ ?_
  refine CW.kp [0, 12] rfl ?_
  refine CW.ite rfl (fun h1 => ?_) (fun h1 => ?_)
  ·refine CW.seq fun K4 hK4 => ?_
   refine CW.region ?_
   refine RL.q (Y.assign rfl) rfl ?_
   refine RL.q (Y.assign rfl) rfl ?_
   refine RL.q (Y.assign rfl) rfl ?_
   refine RL.nil ?_
   refine hK4 _ _ _ ?_
   refine CW.kp [2, 3, 4] rfl ?_
   refine CW.ret ?_
   obtain rfl : b = [] := List.eq_nil_of_length_eq_zero OM
   exact ⟨_, _, _, rfl, rfl, rfl, Turn.drop ⟨rfl, rfl, rfl⟩ SB⟩
  obtain ⟨h0, t, rfl⟩ : ∃ h t, b = h :: t := by
    cases b with
    | nil => simp at h1
    | cons x xs => exact ⟨x, xs, rfl⟩
  have hh0 := h256 h0 (List.mem_cons_self ..)
  have hfl := flip8_lt (f := flipOf h0) hh0
  have hkg := kOf_ge hh0
  have hln : (h0 :: t).length = t.length + 1 := rfl
  refine CW.skip ?_
  refine hK2 _ _ _ ?_
  refine CW.seq fun K5 hK5 => ?_
  refine CW.region ?_
  refine RL.q (v := vbyte 0) (Y.assign rfl) rfl ?_
  refine RL.nil ?_
  refine hK5 _ _ _ ?_
  refine CW.kp [0, 5] rfl ?_
  refine CW.seq fun K6 hK6 => ?_
  refine CW.seq fun K7 hK7 => ?_
  refine CW.region ?_
  refine RL.q (Y.move rfl) rfl ?_
  refine RL.q (Y.index 0 rfl rfl rfl AO slice69 SM) rfl ?_
  refine RL.q (Y.loadRd (v := vbyte h0) rfl MM rfl flat5) rfl ?_
  refine RL.q (Y.lssK rfl rfl) rfl ?_
  refine RL.nil ?_
  refine hK7 _ _ _ ?_
  refine CW.kp [0, 5, 16] rfl ?_
  refine CW.ite rfl (fun h2 => ?_) (fun h2 => ?_)
  ·refine CW.region ?_
   refine RL.q (v := vbyte 255) (Y.assign rfl) rfl ?_
   refine RL.nil ?_
   refine hK6 _ _ _ ?_
   refine CW.kp [0, 5] rfl ?_
   refine CW.keep (L' := [(0, .slice ab (h0 :: t).length cb), (5, vbyte (flipOf h0))]) (Keep.cons 0 rfl (Keep.cons 5 (by rw [show flipOf h0 = 255 from if_pos OM]; rfl) (Keep.nil _))) ?_
   refine CW.seq fun K8 hK8 => ?_
   refine CW.region ?_
   refine RL.q (Y.move rfl) rfl ?_
   refine RL.q (Y.index 0 rfl rfl rfl AO slice69 SM) rfl ?_
   refine RL.q (Y.loadRd (v := vbyte h0) rfl MM rfl flat5) rfl ?_
   refine RL.q (Y.move rfl) rfl ?_
   refine RL.q (Y.xor8 rfl rfl hh0 (flipOf_or h0)) rfl ?_
   refine RL.q (Y.convTo (r := ((flip8 (flipOf h0) h0 : Nat) : Int)) KR KR rfl (Y.wrap_in ⟨by omega, by omega⟩)) rfl ?_
   refine RL.q (Y.sub rfl rfl OM) rfl ?_
   refine RL.q (Y.assign rfl) rfl ?_
   refine RL.nil ?_
   refine hK8 _ _ _ ?_
   refine CW.kp [0, 5, 6] rfl ?_
   rw [show ((flip8 (flipOf h0) h0 : Nat) : Int) - 128 = ((kOf h0 : Nat) : Int) from by unfold kOf; omega]
   refine CW.seq fun K9 hK9 => ?_
   refine CW.block ?_
   refine CW.seq fun K10 hK10 => ?_
   refine CW.region ?_
   refine RL.q (Y.move rfl) rfl ?_
   refine RL.q (Y.gtr rfl rfl) rfl ?_
   refine RL.q (Y.assign rfl) rfl ?_
   refine RL.nil ?_
   refine hK10 _ _ _ ?_
   refine CW.kp [0, 5, 6, 24] rfl ?_
   refine CW.ite rfl (fun h3 => ?_) (fun h3 => ?_)
   ·refine CW.seq fun K11 hK11 => ?_
    refine CW.region ?_
    refine RL.q (Y.assign rfl) rfl ?_
    refine RL.q (Y.assign rfl) rfl ?_
    refine RL.q (Y.assign rfl) rfl ?_
    refine RL.nil ?_
    refine hK11 _ _ _ ?_
    refine CW.kp [2, 3, 4] rfl ?_
    refine CW.ret ?_
    have e : getI (h0 :: t) = (0, 0, 2) := by rw [getI, if_pos OM]
    rw [e]
    exact ⟨_, _, _, rfl, rfl, rfl, Turn.drop ⟨rfl, rfl, rfl⟩ SB⟩
   refine CW.seq fun K12 hK12 => ?_
   refine CW.region ?_
   refine RL.q (Y.move rfl) rfl ?_
   refine RL.q (Y.len rfl Try.underlying69) rfl ?_
   refine RL.q (Y.move rfl) rfl ?_
   refine RL.q (Y.leq rfl rfl) rfl ?_
   refine RL.q (Y.assign rfl) rfl ?_
   refine RL.nil ?_
   refine hK12 _ _ _ ?_
   refine CW.kp [0, 5, 6, 27] rfl ?_
   refine CW.ite rfl (fun h4 => ?_) (fun h4 => ?_)
   ·refine CW.seq fun K13 hK13 => ?_
    refine CW.region ?_
    refine RL.q (Y.assign rfl) rfl ?_
    refine RL.q (Y.assign rfl) rfl ?_
    refine RL.q (Y.assign rfl) rfl ?_
    refine RL.nil ?_
    refine hK13 _ _ _ ?_
    refine CW.kp [2, 3, 4] rfl ?_
    refine CW.ret ?_
    have e : getI (h0 :: t) = (0, 0, 3) := by rw [getI, if_neg OM, if_pos OM]
    rw [e]
    exact ⟨_, _, _, rfl, rfl, rfl, Turn.drop ⟨rfl, rfl, rfl⟩ SB⟩
   have hkt : kOf h0 ≤ t.length := by omega
   refine CW.seq fun K14 hK14 => ?_
   have hh1 : 0 < kOf h0 → ((h0 :: t).map dbyte)[1 * 1]? = some (dbyte (t.headD 0)) ∧ t.headD 0 < 256 := by
     intro hp
     cases t with
     | nil => simp at hkt; omega
     | cons x xs => exact ⟨rfl, h256 x (List.mem_cons_of_mem _ (List.mem_cons_self ..))⟩
   refine CW.region ?_
   refine RL.q (Y.move rfl) rfl ?_
   refine RL.qs (Y.gtr rfl rfl) rfl (fun g34 => ?_) (fun g34 => ?_)
   ·refine RL.q (Y.move rfl) rfl ?_
    refine RL.qg WG (Y.move rfl) rfl ?_
    refine RL.qg WG (Y.index 1 rfl rfl rfl OM slice69 (fun _ hw => hw.rd_some MM OM)) rfl ?_
    refine RL.qg WG (Y.loadRd (v := vbyte (t.headD 0)) rfl MM (hh1 OM).1 flat5) rfl ?_
    refine RL.qg WG (Y.move rfl) rfl ?_
    refine RL.qg WG (Y.xor8 rfl rfl (hh1 OM).2 (flipOf_or h0)) rfl ?_
    refine RL.qg WG (Y.eqlK rfl rfl) rfl ?_
    refine RL.q (Y.pickT rfl rfl) rfl ?_
    refine RL.q (Y.assign rfl) rfl ?_
    refine RL.nil ?_
    refine hK14 _ _ _ ?_
    refine CW.kp [0, 5, 6, 32] rfl ?_
    refine CW.ite rfl (fun h5 => ?_) (fun h5 => ?_)
    ·refine CW.seq fun K15 hK15 => ?_
     refine CW.region ?_
     refine RL.q (Y.assign rfl) rfl ?_
     refine RL.q (Y.assign rfl) rfl ?_
     refine RL.q (Y.assign rfl) rfl ?_
     refine RL.nil ?_
     refine hK15 _ _ _ ?_
     refine CW.kp [2, 3, 4] rfl ?_
     refine CW.ret ?_
     have e : getI (h0 :: t) = (0, 0, 2) := by rw [getI, if_neg OM, if_neg OM, if_pos ⟨by omega, by omega⟩]
     rw [e]
     exact ⟨_, _, _, rfl, rfl, rfl, Turn.drop ⟨rfl, rfl, rfl⟩ SB⟩
    refine CW.skip ?_
    refine hK9 _ _ _ ?_
    refine CW.seq fun K16 hK16 => ?_
    refine CW.region ?_
    refine RL.q (v := vword (wordOf (flipOf h0) [])) (Y.assign rfl) rfl ?_
    refine RL.nil ?_
    refine hK16 _ _ _ ?_
    refine CW.kp [0, 5, 6, 7] rfl ?_
    refine CW.seq fun K17 hK17 => ?_
    refine CW.seq fun K18 hK18 => ?_
    have hcut : Rd M (dbytes (t.take (kOf h0))) (cutV ab 1 (kOf h0 + 1) cb 1) := by
      have h := Rd.cut hb 1 (kOf h0 + 1) cb OM OM (Nat.le_refl _) OM
      have hl : (t.take (kOf h0)).length = kOf h0 := by rw [List.length_take]; omega
      rw [dbytes, hl, List.map_take]
      simpa using h
    refine CW.region ?_
    refine RL.q (Y.move rfl) rfl ?_
    refine RL.q (Y.move rfl) rfl ?_
    refine RL.q (Y.add rfl rfl OM) rfl ?_
    refine RL.q (Y.slice 1 (kOf h0 + 1) cb rfl ⟨1, rfl, rfl⟩ ⟨_, rfl, by omega⟩ rfl (by simp) OM OM OM slice69) rfl ?_
    have hk8 : kOf h0 ≤ 8 := by omega
    have hLk : (t.take (kOf h0)).length = kOf h0 := by rw [List.length_take]; omega
    have hL256 : ∀ c ∈ t.take (kOf h0), c < 256 := fun c hc => h256 c (List.mem_cons_of_mem _ (List.mem_of_mem_take hc))
    have hget : getI (h0 :: t) = if 9223372036854775808 ≤ wordOf (flipOf h0) (t.take (kOf h0)) then (0, 0, 2) else (if h0 < 128 then -1 - (wordOf (flipOf h0) (t.take (kOf h0)) : Int) else (wordOf (flipOf h0) (t.take (kOf h0)) : Int), (kOf h0 : Int) + 1, 0) := by
      rw [getI, if_neg OM, if_neg OM, if_neg (fun h => by first | omega | (have := h.1; omega) | (have := h.2; omega))]
    obtain ⟨L, hL⟩ : ∃ L, L = t.take (kOf h0) := ⟨_, rfl⟩
    rw [← hL] at hcut hLk hL256 hget
    obtain ⟨a46, c46, hu46, hc46, hl46, _⟩ := hcut.slice
    rw [hu46] at hcut ⊢
    refine RL.addRd hcut ?_
    refine RL.q (Y.len rfl Try.underlying69) rfl ?_
    refine RL.q (Y.move rfl) rfl ?_
    refine RL.nil ?_
    refine hK18 _ _ _ ?_
    refine CW.kp [5, 6, 7, 46, 47, 48] rfl ?_
    refine CW.block ?_
    -- LOOP 1: live [5, 6, 7, 46, 47, 48] changed [7, 48]
    refine CW.kp [7, 48, 5, 6, 46, 47] rfl ?_
    refine CW.loopF (fun m Lc M1 Γc => ∃ k : Nat, m = L.length - k ∧ k ≤ L.length ∧ Lc = [(7, vword (wordOf (flipOf h0) (L.take k))), (48, vint k)] ∧ Γc = [] ∧ M1 = M) (L.length) [(7, _), (48, _)] _ rfl rfl ⟨0, rfl, Nat.zero_le _, rfl, rfl, rfl⟩ ?_
    rintro m Lc M Γc hs ⟨k, rfl, hk, rfl, rfl, rfl⟩
    refine CW.seq fun K19 hK19 => ?_
    refine CW.region ?_
    refine RL.q (Y.lss rfl rfl) rfl ?_
    refine RL.nil ?_
    refine hK19 _ _ _ ?_
    refine CW.kp [5, 6, 7, 46, 47, 48, 49] rfl ?_
    refine CW.seq fun K20 hK20 => ?_
    refine CW.ite rfl (fun h6 => ?_) (fun h6 => ?_)
    ·have hka : k < L.length := by omega
     have hck := hL256 _ (List.getElem_mem hka)
     have hfk := flip8_lt (f := flipOf h0) hck
     have hwk : wordOf (flipOf h0) (L.take k) < 72057594037927936 := by
       have h := wordOf_lt (flipOf h0) (L.take k) fun c hc => hL256 c (List.mem_of_mem_take hc)
       refine Nat.lt_of_lt_of_le h ?_
       rw [show (72057594037927936 : Nat) = 256 ^ 7 from rfl]
       exact Nat.pow_le_pow_right OM (by rw [List.length_take]; omega)
     refine CW.skip ?_
     refine hK20 _ _ _ ?_
     refine CW.seq fun K21 hK21 => ?_
     refine CW.block ?_
     refine CW.seq fun K22 hK22 => ?_
     refine CW.region ?_
     refine RL.q (Y.index _ rfl rfl rfl AO slice69 SM) rfl ?_
     refine RL.q (Y.loadRd rfl MM (dbyte_get (List.getElem?_eq_getElem AO)) flat5) rfl ?_
     refine RL.q (Y.assign rfl) rfl ?_
     refine RL.nil ?_
     refine hK22 _ _ _ ?_
     refine CW.kp [5, 6, 7, 9, 46, 47, 48] rfl ?_
     refine CW.region ?_
     refine RL.q (Y.move rfl) rfl ?_
     refine RL.q (Y.shl8 rfl rfl) rfl ?_
     refine RL.q (Y.move rfl) rfl ?_
     refine RL.q (Y.move rfl) rfl ?_
     refine RL.q (Y.xor8 rfl rfl hck (flipOf_or h0)) rfl ?_
     refine RL.q (Y.convTo (r := ((flip8 (flipOf h0) L[k] : Nat) : Int)) KR KR rfl (by rw [wrap_u64']; omega)) rfl ?_
     refine RL.q (Y.or8 rfl rfl OM OM hfk) rfl ?_
     refine RL.q (Y.assign rfl) rfl ?_
     refine RL.nil ?_
     refine hK21 _ _ _ ?_
     refine CW.kp [5, 6, 7, 46, 47, 48] rfl ?_
     refine CW.region ?_
     refine RL.q (Y.add rfl rfl OM) rfl ?_
     refine RL.q (Y.move rfl) rfl ?_
     refine RL.nil ?_
     refine ⟨L.length - (k + 1), [(7, _), (48, _)], ?_, (KP [7, 48, 5, 6, 46, 47]), ?_⟩
     · omega
     · exact Turn.drop ⟨[], rfl, hs, k + 1, rfl, by omega, by rw [List.take_succ_eq_append_getElem hka, wordOf_snoc, Nat.mod_eq_of_lt OM] <;> rfl, rfl, rfl⟩ SB
    refine CW.exit ?_
    refine hK17 _ _ _ ?_
    refine CW.seq fun K23 hK23 => ?_
    refine CW.seq fun K24 hK24 => ?_
    obtain rfl : k = L.length := by omega
    rw [List.take_length]
    have hwl := wordOf_lt (flipOf h0) L hL256
    have hwl2 : wordOf (flipOf h0) L < 18446744073709551616 := Nat.lt_of_lt_of_le hwl (by rw [hLk]; exact Nat.pow_le_pow_right (n := 256) OM hk8)
    refine CW.region ?_
    refine RL.q (Y.move rfl) rfl ?_
    refine RL.q (Y.shrN 63 rfl rfl rfl OM) rfl ?_
    refine RL.q (Y.gtrK rfl rfl) rfl ?_
    refine RL.nil ?_
    refine hK24 _ _ _ ?_
    refine CW.kp [5, 6, 7, 62] rfl ?_
    refine CW.ite rfl (fun h7 => ?_) (fun h7 => ?_)
    ·refine CW.seq fun K25 hK25 => ?_
     refine CW.region ?_
     refine RL.q (Y.assign rfl) rfl ?_
     refine RL.q (Y.assign rfl) rfl ?_
     refine RL.q (Y.assign rfl) rfl ?_
     refine RL.nil ?_
     refine hK25 _ _ _ ?_
     refine CW.kp [2, 3, 4] rfl ?_
     refine CW.ret ?_
     have e : getI (h0 :: t) = (0, 0, 2) := by rw [hget, if_pos OM]
     rw [e]
     exact ⟨_, _, _, rfl, rfl, rfl, Turn.drop ⟨rfl, rfl, rfl⟩ SB⟩
    refine CW.skip ?_
    refine hK23 _ _ _ ?_
    refine CW.seq fun K26 hK26 => ?_
    refine CW.seq fun K27 hK27 => ?_
    refine CW.region ?_
    refine RL.q (Y.move rfl) rfl ?_
    refine RL.q (Y.gtrK rfl rfl) rfl ?_
    refine RL.nil ?_
    refine hK27 _ _ _ ?_
    refine CW.kp [6, 7, 64] rfl ?_
    refine CW.ite rfl (fun h8 => ?_) (fun h8 => ?_)
    ·refine CW.region ?_
     refine RL.q (Y.move rfl) rfl ?_
     refine RL.q (Y.not64 rfl hwl2) rfl ?_
     refine RL.q (Y.assign rfl) rfl ?_
     refine RL.nil ?_
     refine hK26 _ _ _ ?_
     refine CW.kp [6, 7] rfl ?_
     refine CW.seq fun K28 hK28 => ?_
     refine CW.region ?_
     refine RL.q (Y.move rfl) rfl ?_
     refine RL.q (Y.convTo (r := (if (0 : Int) < (flipOf h0 : Int) then -1 - ((wordOf (flipOf h0) L) : Int) else ((wordOf (flipOf h0) L) : Int))) KR KR rfl (by first | (show w64 _ = _; rw [if_pos h8, w64_eq]; omega) | (show w64 _ = _; rw [if_neg h8, w64_eq]; omega))) rfl ?_
     refine RL.q (Y.move rfl) rfl ?_
     refine RL.q (Y.add rfl rfl OM) rfl ?_
     refine RL.q (Y.assign rfl) rfl ?_
     refine RL.q (Y.assign rfl) rfl ?_
     refine RL.q (Y.assign rfl) rfl ?_
     refine RL.nil ?_
     refine hK28 _ _ _ ?_
     refine CW.kp [2, 3, 4] rfl ?_
     refine CW.ret ?_
     have hlt : ¬ 9223372036854775808 ≤ wordOf (flipOf h0) L := by omega
     rw [hget, if_neg hlt]
     rw [show (if h0 < 128 then -1 - (wordOf (flipOf h0) L : Int) else (wordOf (flipOf h0) L : Int)) = (if (0 : Int) < (flipOf h0 : Int) then -1 - (wordOf (flipOf h0) L : Int) else (wordOf (flipOf h0) L : Int)) from by simp only [flipOf_pos]]
     exact ⟨_, _, _, rfl, rfl, rfl, Turn.drop ⟨rfl, rfl, rfl⟩ SB⟩
    refine CW.skip ?_
    refine hK26 _ _ _ ?_
    refine CW.seq fun K29 hK29 => ?_
    refine CW.region ?_
    refine RL.q (Y.move rfl) rfl ?_
    refine RL.q (Y.convTo (r := (if (0 : Int) < (flipOf h0 : Int) then -1 - ((wordOf (flipOf h0) L) : Int) else ((wordOf (flipOf h0) L) : Int))) KR KR rfl (by first | (show w64 _ = _; rw [if_pos h8, w64_eq]; omega) | (show w64 _ = _; rw [if_neg h8, w64_eq]; omega))) rfl ?_
    refine RL.q (Y.move rfl) rfl ?_
    refine RL.q (Y.add rfl rfl OM) rfl ?_
    refine RL.q (Y.assign rfl) rfl ?_
    refine RL.q (Y.assign rfl) rfl ?_
    refine RL.q (Y.assign rfl) rfl ?_
    refine RL.nil ?_
    refine hK29 _ _ _ ?_
    refine CW.kp [2, 3, 4] rfl ?_
    refine CW.ret ?_
    have hlt : ¬ 9223372036854775808 ≤ wordOf (flipOf h0) L := by omega
    rw [hget, if_neg hlt]
    rw [show (if h0 < 128 then -1 - (wordOf (flipOf h0) L : Int) else (wordOf (flipOf h0) L : Int)) = (if (0 : Int) < (flipOf h0 : Int) then -1 - (wordOf (flipOf h0) L : Int) else (wordOf (flipOf h0) L : Int)) from by simp only [flipOf_pos]]
    exact ⟨_, _, _, rfl, rfl, rfl, Turn.drop ⟨rfl, rfl, rfl⟩ SB⟩
   refine RL.q (Y.move rfl) rfl ?_
   refine RL.no WG rfl ?_
   refine RL.no WG rfl ?_
   refine RL.no WG rfl ?_
   refine RL.no WG rfl ?_
   refine RL.no WG rfl ?_
   refine RL.no WG rfl ?_
   refine RL.q (Y.pickF rfl rfl) rfl ?_
   refine RL.q (Y.assign rfl) rfl ?_
   refine RL.nil ?_
   refine hK14 _ _ _ ?_
   refine CW.kp [0, 5, 6, 32] rfl ?_
   refine CW.no rfl ?_
   refine CW.skip ?_
   refine hK9 _ _ _ ?_
   refine CW.seq fun K30 hK30 => ?_
   refine CW.region ?_
   refine RL.q (v := vword (wordOf (flipOf h0) [])) (Y.assign rfl) rfl ?_
   refine RL.nil ?_
   refine hK30 _ _ _ ?_
   refine CW.kp [0, 5, 6, 7] rfl ?_
   refine CW.seq fun K31 hK31 => ?_
   refine CW.seq fun K32 hK32 => ?_
   have hcut : Rd M (dbytes (t.take (kOf h0))) (cutV ab 1 (kOf h0 + 1) cb 1) := by
     have h := Rd.cut hb 1 (kOf h0 + 1) cb OM OM (Nat.le_refl _) OM
     have hl : (t.take (kOf h0)).length = kOf h0 := by rw [List.length_take]; omega
     rw [dbytes, hl, List.map_take]
     simpa using h
   refine CW.region ?_
   refine RL.q (Y.move rfl) rfl ?_
   refine RL.q (Y.move rfl) rfl ?_
   refine RL.q (Y.add rfl rfl OM) rfl ?_
   refine RL.q (Y.slice 1 (kOf h0 + 1) cb rfl ⟨1, rfl, rfl⟩ ⟨_, rfl, by omega⟩ rfl (by simp) OM OM OM slice69) rfl ?_
   have hk8 : kOf h0 ≤ 8 := by omega
   have hLk : (t.take (kOf h0)).length = kOf h0 := by rw [List.length_take]; omega
   have hL256 : ∀ c ∈ t.take (kOf h0), c < 256 := fun c hc => h256 c (List.mem_cons_of_mem _ (List.mem_of_mem_take hc))
   have hget : getI (h0 :: t) = if 9223372036854775808 ≤ wordOf (flipOf h0) (t.take (kOf h0)) then (0, 0, 2) else (if h0 < 128 then -1 - (wordOf (flipOf h0) (t.take (kOf h0)) : Int) else (wordOf (flipOf h0) (t.take (kOf h0)) : Int), (kOf h0 : Int) + 1, 0) := by
     rw [getI, if_neg OM, if_neg OM, if_neg (fun h => by first | omega | (have := h.1; omega) | (have := h.2; omega))]
   obtain ⟨L, hL⟩ : ∃ L, L = t.take (kOf h0) := ⟨_, rfl⟩
   rw [← hL] at hcut hLk hL256 hget
   obtain ⟨a46, c46, hu46, hc46, hl46, _⟩ := hcut.slice
   rw [hu46] at hcut ⊢
   refine RL.addRd hcut ?_
   refine RL.q (Y.len rfl Try.underlying69) rfl ?_
   refine RL.q (Y.move rfl) rfl ?_
   refine RL.nil ?_
   refine hK32 _ _ _ ?_
   refine CW.kp [5, 6, 7, 46, 47, 48] rfl ?_
   refine CW.block ?_
   -- LOOP 1: live [5, 6, 7, 46, 47, 48] changed [7, 48]
   refine CW.kp [7, 48, 5, 6, 46, 47] rfl ?_
   refine CW.loopF (fun m Lc M1 Γc => ∃ k : Nat, m = L.length - k ∧ k ≤ L.length ∧ Lc = [(7, vword (wordOf (flipOf h0) (L.take k))), (48, vint k)] ∧ Γc = [] ∧ M1 = M) (L.length) [(7, _), (48, _)] _ rfl rfl ⟨0, rfl, Nat.zero_le _, rfl, rfl, rfl⟩ ?_
   rintro m Lc M Γc hs ⟨k, rfl, hk, rfl, rfl, rfl⟩
   refine CW.seq fun K33 hK33 => ?_
   refine CW.region ?_
   refine RL.q (Y.lss rfl rfl) rfl ?_
   refine RL.nil ?_
   refine hK33 _ _ _ ?_
   refine CW.kp [5, 6, 7, 46, 47, 48, 49] rfl ?_
   refine CW.seq fun K34 hK34 => ?_
   refine CW.ite rfl (fun h6 => ?_) (fun h6 => ?_)
   ·have hka : k < L.length := by omega
    have hck := hL256 _ (List.getElem_mem hka)
    have hfk := flip8_lt (f := flipOf h0) hck
    have hwk : wordOf (flipOf h0) (L.take k) < 72057594037927936 := by
      have h := wordOf_lt (flipOf h0) (L.take k) fun c hc => hL256 c (List.mem_of_mem_take hc)
      refine Nat.lt_of_lt_of_le h ?_
      rw [show (72057594037927936 : Nat) = 256 ^ 7 from rfl]
      exact Nat.pow_le_pow_right OM (by rw [List.length_take]; omega)
    refine CW.skip ?_
    refine hK34 _ _ _ ?_
    refine CW.seq fun K35 hK35 => ?_
    refine CW.block ?_
    refine CW.seq fun K36 hK36 => ?_
    refine CW.region ?_
    refine RL.q (Y.index _ rfl rfl rfl AO slice69 SM) rfl ?_
    refine RL.q (Y.loadRd rfl MM (dbyte_get (List.getElem?_eq_getElem AO)) flat5) rfl ?_
    refine RL.q (Y.assign rfl) rfl ?_
    refine RL.nil ?_
    refine hK36 _ _ _ ?_
    refine CW.kp [5, 6, 7, 9, 46, 47, 48] rfl ?_
    refine CW.region ?_
    refine RL.q (Y.move rfl) rfl ?_
    refine RL.q (Y.shl8 rfl rfl) rfl ?_
    refine RL.q (Y.move rfl) rfl ?_
    refine RL.q (Y.move rfl) rfl ?_
    refine RL.q (Y.xor8 rfl rfl hck (flipOf_or h0)) rfl ?_
    refine RL.q (Y.convTo (r := ((flip8 (flipOf h0) L[k] : Nat) : Int)) KR KR rfl (by rw [wrap_u64']; omega)) rfl ?_
    refine RL.q (Y.or8 rfl rfl OM OM hfk) rfl ?_
    refine RL.q (Y.assign rfl) rfl ?_
    refine RL.nil ?_
    refine hK35 _ _ _ ?_
    refine CW.kp [5, 6, 7, 46, 47, 48] rfl ?_
    refine CW.region ?_
    refine RL.q (Y.add rfl rfl OM) rfl ?_
    refine RL.q (Y.move rfl) rfl ?_
    refine RL.nil ?_
    refine ⟨L.length - (k + 1), [(7, _), (48, _)], ?_, (KP [7, 48, 5, 6, 46, 47]), ?_⟩
    · omega
    · exact Turn.drop ⟨[], rfl, hs, k + 1, rfl, by omega, by rw [List.take_succ_eq_append_getElem hka, wordOf_snoc, Nat.mod_eq_of_lt OM] <;> rfl, rfl, rfl⟩ SB
   refine CW.exit ?_
   refine hK31 _ _ _ ?_
   refine CW.seq fun K37 hK37 => ?_
   refine CW.seq fun K38 hK38 => ?_
   obtain rfl : k = L.length := by omega
   rw [List.take_length]
   have hwl := wordOf_lt (flipOf h0) L hL256
   have hwl2 : wordOf (flipOf h0) L < 18446744073709551616 := Nat.lt_of_lt_of_le hwl (by rw [hLk]; exact Nat.pow_le_pow_right (n := 256) OM hk8)
   refine CW.region ?_
   refine RL.q (Y.move rfl) rfl ?_
   refine RL.q (Y.shrN 63 rfl rfl rfl OM) rfl ?_
   refine RL.q (Y.gtrK rfl rfl) rfl ?_
   refine RL.nil ?_
   refine hK38 _ _ _ ?_
   refine CW.kp [5, 6, 7, 62] rfl ?_
   refine CW.ite rfl (fun h7 => ?_) (fun h7 => ?_)
   ·refine CW.seq fun K39 hK39 => ?_
    refine CW.region ?_
    refine RL.q (Y.assign rfl) rfl ?_
    refine RL.q (Y.assign rfl) rfl ?_
    refine RL.q (Y.assign rfl) rfl ?_
    refine RL.nil ?_
    refine hK39 _ _ _ ?_
    refine CW.kp [2, 3, 4] rfl ?_
    refine CW.ret ?_
    have e : getI (h0 :: t) = (0, 0, 2) := by rw [hget, if_pos OM]
    rw [e]
    exact ⟨_, _, _, rfl, rfl, rfl, Turn.drop ⟨rfl, rfl, rfl⟩ SB⟩
   refine CW.skip ?_
   refine hK37 _ _ _ ?_
   refine CW.seq fun K40 hK40 => ?_
   refine CW.seq fun K41 hK41 => ?_
   refine CW.region ?_
   refine RL.q (Y.move rfl) rfl ?_
   refine RL.q (Y.gtrK rfl rfl) rfl ?_
   refine RL.nil ?_
   refine hK41 _ _ _ ?_
   refine CW.kp [6, 7, 64] rfl ?_
   refine CW.ite rfl (fun h8 => ?_) (fun h8 => ?_)
   ·refine CW.region ?_
    refine RL.q (Y.move rfl) rfl ?_
    refine RL.q (Y.not64 rfl hwl2) rfl ?_
    refine RL.q (Y.assign rfl) rfl ?_
    refine RL.nil ?_
    refine hK40 _ _ _ ?_
    refine CW.kp [6, 7] rfl ?_
    refine CW.seq fun K42 hK42 => ?_
    refine CW.region ?_
    refine RL.q (Y.move rfl) rfl ?_
    refine RL.q (Y.convTo (r := (if (0 : Int) < (flipOf h0 : Int) then -1 - ((wordOf (flipOf h0) L) : Int) else ((wordOf (flipOf h0) L) : Int))) KR KR rfl (by first | (show w64 _ = _; rw [if_pos h8, w64_eq]; omega) | (show w64 _ = _; rw [if_neg h8, w64_eq]; omega))) rfl ?_
    refine RL.q (Y.move rfl) rfl ?_
    refine RL.q (Y.add rfl rfl OM) rfl ?_
    refine RL.q (Y.assign rfl) rfl ?_
    refine RL.q (Y.assign rfl) rfl ?_
    refine RL.q (Y.assign rfl) rfl ?_
    refine RL.nil ?_
    refine hK42 _ _ _ ?_
    refine CW.kp [2, 3, 4] rfl ?_
    refine CW.ret ?_
    have hlt : ¬ 9223372036854775808 ≤ wordOf (flipOf h0) L := by omega
    rw [hget, if_neg hlt]
    rw [show (if h0 < 128 then -1 - (wordOf (flipOf h0) L : Int) else (wordOf (flipOf h0) L : Int)) = (if (0 : Int) < (flipOf h0 : Int) then -1 - (wordOf (flipOf h0) L : Int) else (wordOf (flipOf h0) L : Int)) from by simp only [flipOf_pos]]
    exact ⟨_, _, _, rfl, rfl, rfl, Turn.drop ⟨rfl, rfl, rfl⟩ SB⟩
   refine CW.skip ?_
   refine hK40 _ _ _ ?_
   refine CW.seq fun K43 hK43 => ?_
   refine CW.region ?_
   refine RL.q (Y.move rfl) rfl ?_
   refine RL.q (Y.convTo (r := (if (0 : Int) < (flipOf h0 : Int) then -1 - ((wordOf (flipOf h0) L) : Int) else ((wordOf (flipOf h0) L) : Int))) KR KR rfl (by first | (show w64 _ = _; rw [if_pos h8, w64_eq]; omega) | (show w64 _ = _; rw [if_neg h8, w64_eq]; omega))) rfl ?_
   refine RL.q (Y.move rfl) rfl ?_
   refine RL.q (Y.add rfl rfl OM) rfl ?_
   refine RL.q (Y.assign rfl) rfl ?_
   refine RL.q (Y.assign rfl) rfl ?_
   refine RL.q (Y.assign rfl) rfl ?_
   refine RL.nil ?_
   refine hK43 _ _ _ ?_
   refine CW.kp [2, 3, 4] rfl ?_
   refine CW.ret ?_
   have hlt : ¬ 9223372036854775808 ≤ wordOf (flipOf h0) L := by omega
   rw [hget, if_neg hlt]
   rw [show (if h0 < 128 then -1 - (wordOf (flipOf h0) L : Int) else (wordOf (flipOf h0) L : Int)) = (if (0 : Int) < (flipOf h0 : Int) then -1 - (wordOf (flipOf h0) L : Int) else (wordOf (flipOf h0) L : Int)) from by simp only [flipOf_pos]]
   exact ⟨_, _, _, rfl, rfl, rfl, Turn.drop ⟨rfl, rfl, rfl⟩ SB⟩
  refine CW.keep (L' := [(0, .slice ab (h0 :: t).length cb), (5, vbyte (flipOf h0))]) (Keep.cons 0 rfl (Keep.cons 5 (by rw [show flipOf h0 = 0 from if_neg OM]; rfl) (Keep.nil _))) ?_
  refine CW.skip ?_
  refine hK6 _ _ _ ?_
  refine CW.seq fun K44 hK44 => ?_
  refine CW.region ?_
  refine RL.q (Y.move rfl) rfl ?_
  refine RL.q (Y.index 0 rfl rfl rfl AO slice69 SM) rfl ?_
  refine RL.q (Y.loadRd (v := vbyte h0) rfl MM rfl flat5) rfl ?_
  refine RL.q (Y.move rfl) rfl ?_
  refine RL.q (Y.xor8 rfl rfl hh0 (flipOf_or h0)) rfl ?_
  refine RL.q (Y.convTo (r := ((flip8 (flipOf h0) h0 : Nat) : Int)) KR KR rfl (Y.wrap_in ⟨by omega, by omega⟩)) rfl ?_
  refine RL.q (Y.sub rfl rfl OM) rfl ?_
  refine RL.q (Y.assign rfl) rfl ?_
  refine RL.nil ?_
  refine hK44 _ _ _ ?_
  refine CW.kp [0, 5, 6] rfl ?_
  rw [show ((flip8 (flipOf h0) h0 : Nat) : Int) - 128 = ((kOf h0 : Nat) : Int) from by unfold kOf; omega]
  refine CW.seq fun K45 hK45 => ?_
  refine CW.block ?_
  refine CW.seq fun K46 hK46 => ?_
  refine CW.region ?_
  refine RL.q (Y.move rfl) rfl ?_
  refine RL.q (Y.gtr rfl rfl) rfl ?_
  refine RL.q (Y.assign rfl) rfl ?_
  refine RL.nil ?_
  refine hK46 _ _ _ ?_
  refine CW.kp [0, 5, 6, 24] rfl ?_
  refine CW.ite rfl (fun h3 => ?_) (fun h3 => ?_)
  ·refine CW.seq fun K47 hK47 => ?_
   refine CW.region ?_
   refine RL.q (Y.assign rfl) rfl ?_
   refine RL.q (Y.assign rfl) rfl ?_
   refine RL.q (Y.assign rfl) rfl ?_
   refine RL.nil ?_
   refine hK47 _ _ _ ?_
   refine CW.kp [2, 3, 4] rfl ?_
   refine CW.ret ?_
   have e : getI (h0 :: t) = (0, 0, 2) := by rw [getI, if_pos OM]
   rw [e]
   exact ⟨_, _, _, rfl, rfl, rfl, Turn.drop ⟨rfl, rfl, rfl⟩ SB⟩
  refine CW.seq fun K48 hK48 => ?_
  refine CW.region ?_
  refine RL.q (Y.move rfl) rfl ?_
  refine RL.q (Y.len rfl Try.underlying69) rfl ?_
  refine RL.q (Y.move rfl) rfl ?_
  refine RL.q (Y.leq rfl rfl) rfl ?_
  refine RL.q (Y.assign rfl) rfl ?_
  refine RL.nil ?_
  refine hK48 _ _ _ ?_
  refine CW.kp [0, 5, 6, 27] rfl ?_
  refine CW.ite rfl (fun h4 => ?_) (fun h4 => ?_)
  ·refine CW.seq fun K49 hK49 => ?_
   refine CW.region ?_
   refine RL.q (Y.assign rfl) rfl ?_
   refine RL.q (Y.assign rfl) rfl ?_
   refine RL.q (Y.assign rfl) rfl ?_
   refine RL.nil ?_
   refine hK49 _ _ _ ?_
   refine CW.kp [2, 3, 4] rfl ?_
   refine CW.ret ?_
   have e : getI (h0 :: t) = (0, 0, 3) := by rw [getI, if_neg OM, if_pos OM]
   rw [e]
   exact ⟨_, _, _, rfl, rfl, rfl, Turn.drop ⟨rfl, rfl, rfl⟩ SB⟩
  have hkt : kOf h0 ≤ t.length := by omega
  refine CW.seq fun K50 hK50 => ?_
  have hh1 : 0 < kOf h0 → ((h0 :: t).map dbyte)[1 * 1]? = some (dbyte (t.headD 0)) ∧ t.headD 0 < 256 := by
    intro hp
    cases t with
    | nil => simp at hkt; omega
    | cons x xs => exact ⟨rfl, h256 x (List.mem_cons_of_mem _ (List.mem_cons_self ..))⟩
  refine CW.region ?_
  refine RL.q (Y.move rfl) rfl ?_
  refine RL.qs (Y.gtr rfl rfl) rfl (fun g34 => ?_) (fun g34 => ?_)
  ·refine RL.q (Y.move rfl) rfl ?_
   refine RL.qg WG (Y.move rfl) rfl ?_
   refine RL.qg WG (Y.index 1 rfl rfl rfl OM slice69 (fun _ hw => hw.rd_some MM OM)) rfl ?_
   refine RL.qg WG (Y.loadRd (v := vbyte (t.headD 0)) rfl MM (hh1 OM).1 flat5) rfl ?_
   refine RL.qg WG (Y.move rfl) rfl ?_
   refine RL.qg WG (Y.xor8 rfl rfl (hh1 OM).2 (flipOf_or h0)) rfl ?_
   refine RL.qg WG (Y.eqlK rfl rfl) rfl ?_
   refine RL.q (Y.pickT rfl rfl) rfl ?_
   refine RL.q (Y.assign rfl) rfl ?_
   refine RL.nil ?_
   refine hK50 _ _ _ ?_
   refine CW.kp [0, 5, 6, 32] rfl ?_
   refine CW.ite rfl (fun h5 => ?_) (fun h5 => ?_)
   ·refine CW.seq fun K51 hK51 => ?_
    refine CW.region ?_
    refine RL.q (Y.assign rfl) rfl ?_
    refine RL.q (Y.assign rfl) rfl ?_
    refine RL.q (Y.assign rfl) rfl ?_
    refine RL.nil ?_
    refine hK51 _ _ _ ?_
    refine CW.kp [2, 3, 4] rfl ?_
    refine CW.ret ?_
    have e : getI (h0 :: t) = (0, 0, 2) := by rw [getI, if_neg OM, if_neg OM, if_pos ⟨by omega, by omega⟩]
    rw [e]
    exact ⟨_, _, _, rfl, rfl, rfl, Turn.drop ⟨rfl, rfl, rfl⟩ SB⟩
   refine CW.skip ?_
   refine hK45 _ _ _ ?_
   refine CW.seq fun K52 hK52 => ?_
   refine CW.region ?_
   refine RL.q (v := vword (wordOf (flipOf h0) [])) (Y.assign rfl) rfl ?_
   refine RL.nil ?_
   refine hK52 _ _ _ ?_
   refine CW.kp [0, 5, 6, 7] rfl ?_
   refine CW.seq fun K53 hK53 => ?_
   refine CW.seq fun K54 hK54 => ?_
   have hcut : Rd M (dbytes (t.take (kOf h0))) (cutV ab 1 (kOf h0 + 1) cb 1) := by
     have h := Rd.cut hb 1 (kOf h0 + 1) cb OM OM (Nat.le_refl _) OM
     have hl : (t.take (kOf h0)).length = kOf h0 := by rw [List.length_take]; omega
     rw [dbytes, hl, List.map_take]
     simpa using h
   refine CW.region ?_
   refine RL.q (Y.move rfl) rfl ?_
   refine RL.q (Y.move rfl) rfl ?_
   refine RL.q (Y.add rfl rfl OM) rfl ?_
   refine RL.q (Y.slice 1 (kOf h0 + 1) cb rfl ⟨1, rfl, rfl⟩ ⟨_, rfl, by omega⟩ rfl (by simp) OM OM OM slice69) rfl ?_
   have hk8 : kOf h0 ≤ 8 := by omega
   have hLk : (t.take (kOf h0)).length = kOf h0 := by rw [List.length_take]; omega
   have hL256 : ∀ c ∈ t.take (kOf h0), c < 256 := fun c hc => h256 c (List.mem_cons_of_mem _ (List.mem_of_mem_take hc))
   have hget : getI (h0 :: t) = if 9223372036854775808 ≤ wordOf (flipOf h0) (t.take (kOf h0)) then (0, 0, 2) else (if h0 < 128 then -1 - (wordOf (flipOf h0) (t.take (kOf h0)) : Int) else (wordOf (flipOf h0) (t.take (kOf h0)) : Int), (kOf h0 : Int) + 1, 0) := by
     rw [getI, if_neg OM, if_neg OM, if_neg (fun h => by first | omega | (have := h.1; omega) | (have := h.2; omega))]
   obtain ⟨L, hL⟩ : ∃ L, L = t.take (kOf h0) := ⟨_, rfl⟩
   rw [← hL] at hcut hLk hL256 hget
   obtain ⟨a46, c46, hu46, hc46, hl46, _⟩ := hcut.slice
   rw [hu46] at hcut ⊢
   refine RL.addRd hcut ?_
   refine RL.q (Y.len rfl Try.underlying69) rfl ?_
   refine RL.q (Y.move rfl) rfl ?_
   refine RL.nil ?_
   refine hK54 _ _ _ ?_
   refine CW.kp [5, 6, 7, 46, 47, 48] rfl ?_
   refine CW.block ?_
   -- LOOP 1: live [5, 6, 7, 46, 47, 48] changed [7, 48]
   refine CW.kp [7, 48, 5, 6, 46, 47] rfl ?_
   refine CW.loopF (fun m Lc M1 Γc => ∃ k : Nat, m = L.length - k ∧ k ≤ L.length ∧ Lc = [(7, vword (wordOf (flipOf h0) (L.take k))), (48, vint k)] ∧ Γc = [] ∧ M1 = M) (L.length) [(7, _), (48, _)] _ rfl rfl ⟨0, rfl, Nat.zero_le _, rfl, rfl, rfl⟩ ?_
   rintro m Lc M Γc hs ⟨k, rfl, hk, rfl, rfl, rfl⟩
   refine CW.seq fun K55 hK55 => ?_
   refine CW.region ?_
   refine RL.q (Y.lss rfl rfl) rfl ?_
   refine RL.nil ?_
   refine hK55 _ _ _ ?_
   refine CW.kp [5, 6, 7, 46, 47, 48, 49] rfl ?_
   refine CW.seq fun K56 hK56 => ?_
   refine CW.ite rfl (fun h6 => ?_) (fun h6 => ?_)
   ·have hka : k < L.length := by omega
    have hck := hL256 _ (List.getElem_mem hka)
    have hfk := flip8_lt (f := flipOf h0) hck
    have hwk : wordOf (flipOf h0) (L.take k) < 72057594037927936 := by
      have h := wordOf_lt (flipOf h0) (L.take k) fun c hc => hL256 c (List.mem_of_mem_take hc)
      refine Nat.lt_of_lt_of_le h ?_
      rw [show (72057594037927936 : Nat) = 256 ^ 7 from rfl]
      exact Nat.pow_le_pow_right OM (by rw [List.length_take]; omega)
    refine CW.skip ?_
    refine hK56 _ _ _ ?_
    refine CW.seq fun K57 hK57 => ?_
    refine CW.block ?_
    refine CW.seq fun K58 hK58 => ?_
    refine CW.region ?_
    refine RL.q (Y.index _ rfl rfl rfl AO slice69 SM) rfl ?_
    refine RL.q (Y.loadRd rfl MM (dbyte_get (List.getElem?_eq_getElem AO)) flat5) rfl ?_
    refine RL.q (Y.assign rfl) rfl ?_
    refine RL.nil ?_
    refine hK58 _ _ _ ?_
    refine CW.kp [5, 6, 7, 9, 46, 47, 48] rfl ?_
    refine CW.region ?_
    refine RL.q (Y.move rfl) rfl ?_
    refine RL.q (Y.shl8 rfl rfl) rfl ?_
    refine RL.q (Y.move rfl) rfl ?_
    refine RL.q (Y.move rfl) rfl ?_
    refine RL.q (Y.xor8 rfl rfl hck (flipOf_or h0)) rfl ?_
    refine RL.q (Y.convTo (r := ((flip8 (flipOf h0) L[k] : Nat) : Int)) KR KR rfl (by rw [wrap_u64']; omega)) rfl ?_
    refine RL.q (Y.or8 rfl rfl OM OM hfk) rfl ?_
    refine RL.q (Y.assign rfl) rfl ?_
    refine RL.nil ?_
    refine hK57 _ _ _ ?_
    refine CW.kp [5, 6, 7, 46, 47, 48] rfl ?_
    refine CW.region ?_
    refine RL.q (Y.add rfl rfl OM) rfl ?_
    refine RL.q (Y.move rfl) rfl ?_
    refine RL.nil ?_
    refine ⟨L.length - (k + 1), [(7, _), (48, _)], ?_, (KP [7, 48, 5, 6, 46, 47]), ?_⟩
    · omega
    · exact Turn.drop ⟨[], rfl, hs, k + 1, rfl, by omega, by rw [List.take_succ_eq_append_getElem hka, wordOf_snoc, Nat.mod_eq_of_lt OM] <;> rfl, rfl, rfl⟩ SB
   refine CW.exit ?_
   refine hK53 _ _ _ ?_
   refine CW.seq fun K59 hK59 => ?_
   refine CW.seq fun K60 hK60 => ?_
   obtain rfl : k = L.length := by omega
   rw [List.take_length]
   have hwl := wordOf_lt (flipOf h0) L hL256
   have hwl2 : wordOf (flipOf h0) L < 18446744073709551616 := Nat.lt_of_lt_of_le hwl (by rw [hLk]; exact Nat.pow_le_pow_right (n := 256) OM hk8)
   refine CW.region ?_
   refine RL.q (Y.move rfl) rfl ?_
   refine RL.q (Y.shrN 63 rfl rfl rfl OM) rfl ?_
   refine RL.q (Y.gtrK rfl rfl) rfl ?_
   refine RL.nil ?_
   refine hK60 _ _ _ ?_
   refine CW.kp [5, 6, 7, 62] rfl ?_
   refine CW.ite rfl (fun h7 => ?_) (fun h7 => ?_)
   ·refine CW.seq fun K61 hK61 => ?_
    refine CW.region ?_
    refine RL.q (Y.assign rfl) rfl ?_
    refine RL.q (Y.assign rfl) rfl ?_
    refine RL.q (Y.assign rfl) rfl ?_
    refine RL.nil ?_
    refine hK61 _ _ _ ?_
    refine CW.kp [2, 3, 4] rfl ?_
    refine CW.ret ?_
    have e : getI (h0 :: t) = (0, 0, 2) := by rw [hget, if_pos OM]
    rw [e]
    exact ⟨_, _, _, rfl, rfl, rfl, Turn.drop ⟨rfl, rfl, rfl⟩ SB⟩
   refine CW.skip ?_
   refine hK59 _ _ _ ?_
   refine CW.seq fun K62 hK62 => ?_
   refine CW.seq fun K63 hK63 => ?_
   refine CW.region ?_
   refine RL.q (Y.move rfl) rfl ?_
   refine RL.q (Y.gtrK rfl rfl) rfl ?_
   refine RL.nil ?_
   refine hK63 _ _ _ ?_
   refine CW.kp [6, 7, 64] rfl ?_
   refine CW.ite rfl (fun h8 => ?_) (fun h8 => ?_)
   ·refine CW.region ?_
    refine RL.q (Y.move rfl) rfl ?_
    refine RL.q (Y.not64 rfl hwl2) rfl ?_
    refine RL.q (Y.assign rfl) rfl ?_
    refine RL.nil ?_
    refine hK62 _ _ _ ?_
    refine CW.kp [6, 7] rfl ?_
    refine CW.seq fun K64 hK64 => ?_
    refine CW.region ?_
    refine RL.q (Y.move rfl) rfl ?_
    refine RL.q (Y.convTo (r := (if (0 : Int) < (flipOf h0 : Int) then -1 - ((wordOf (flipOf h0) L) : Int) else ((wordOf (flipOf h0) L) : Int))) KR KR rfl (by first | (show w64 _ = _; rw [if_pos h8, w64_eq]; omega) | (show w64 _ = _; rw [if_neg h8, w64_eq]; omega))) rfl ?_
    refine RL.q (Y.move rfl) rfl ?_
    refine RL.q (Y.add rfl rfl OM) rfl ?_
    refine RL.q (Y.assign rfl) rfl ?_
    refine RL.q (Y.assign rfl) rfl ?_
    refine RL.q (Y.assign rfl) rfl ?_
    refine RL.nil ?_
    refine hK64 _ _ _ ?_
    refine CW.kp [2, 3, 4] rfl ?_
    refine CW.ret ?_
    have hlt : ¬ 9223372036854775808 ≤ wordOf (flipOf h0) L := by omega
    rw [hget, if_neg hlt]
    rw [show (if h0 < 128 then -1 - (wordOf (flipOf h0) L : Int) else (wordOf (flipOf h0) L : Int)) = (if (0 : Int) < (flipOf h0 : Int) then -1 - (wordOf (flipOf h0) L : Int) else (wordOf (flipOf h0) L : Int)) from by simp only [flipOf_pos]]
    exact ⟨_, _, _, rfl, rfl, rfl, Turn.drop ⟨rfl, rfl, rfl⟩ SB⟩
   refine CW.skip ?_
   refine hK62 _ _ _ ?_
   refine CW.seq fun K65 hK65 => ?_
   refine CW.region ?_
   refine RL.q (Y.move rfl) rfl ?_
   refine RL.q (Y.convTo (r := (if (0 : Int) < (flipOf h0 : Int) then -1 - ((wordOf (flipOf h0) L) : Int) else ((wordOf (flipOf h0) L) : Int))) KR KR rfl (by first | (show w64 _ = _; rw [if_pos h8, w64_eq]; omega) | (show w64 _ = _; rw [if_neg h8, w64_eq]; omega))) rfl ?_
   refine RL.q (Y.move rfl) rfl ?_
   refine RL.q (Y.add rfl rfl OM) rfl ?_
   refine RL.q (Y.assign rfl) rfl ?_
   refine RL.q (Y.assign rfl) rfl ?_
   refine RL.q (Y.assign rfl) rfl ?_
   refine RL.nil ?_
   refine hK65 _ _ _ ?_
   refine CW.kp [2, 3, 4] rfl ?_
   refine CW.ret ?_
   have hlt : ¬ 9223372036854775808 ≤ wordOf (flipOf h0) L := by omega
   rw [hget, if_neg hlt]
   rw [show (if h0 < 128 then -1 - (wordOf (flipOf h0) L : Int) else (wordOf (flipOf h0) L : Int)) = (if (0 : Int) < (flipOf h0 : Int) then -1 - (wordOf (flipOf h0) L : Int) else (wordOf (flipOf h0) L : Int)) from by simp only [flipOf_pos]]
   exact ⟨_, _, _, rfl, rfl, rfl, Turn.drop ⟨rfl, rfl, rfl⟩ SB⟩
  refine RL.q (Y.move rfl) rfl ?_
  refine RL.no WG rfl ?_
  refine RL.no WG rfl ?_
  refine RL.no WG rfl ?_
  refine RL.no WG rfl ?_
  refine RL.no WG rfl ?_
  refine RL.no WG rfl ?_
  refine RL.q (Y.pickF rfl rfl) rfl ?_
  refine RL.q (Y.assign rfl) rfl ?_
  refine RL.nil ?_
  refine hK50 _ _ _ ?_
  refine CW.kp [0, 5, 6, 32] rfl ?_
  refine CW.no rfl ?_
  refine CW.skip ?_
  refine hK45 _ _ _ ?_
  refine CW.seq fun K66 hK66 => ?_
  refine CW.region ?_
  refine RL.q (v := vword (wordOf (flipOf h0) [])) (Y.assign rfl) rfl ?_
  refine RL.nil ?_
  refine hK66 _ _ _ ?_
  refine CW.kp [0, 5, 6, 7] rfl ?_
  refine CW.seq fun K67 hK67 => ?_
  refine CW.seq fun K68 hK68 => ?_
  have hcut : Rd M (dbytes (t.take (kOf h0))) (cutV ab 1 (kOf h0 + 1) cb 1) := by
    have h := Rd.cut hb 1 (kOf h0 + 1) cb OM OM (Nat.le_refl _) OM
    have hl : (t.take (kOf h0)).length = kOf h0 := by rw [List.length_take]; omega
    rw [dbytes, hl, List.map_take]
    simpa using h
  refine CW.region ?_
  refine RL.q (Y.move rfl) rfl ?_
  refine RL.q (Y.move rfl) rfl ?_
  refine RL.q (Y.add rfl rfl OM) rfl ?_
  refine RL.q (Y.slice 1 (kOf h0 + 1) cb rfl ⟨1, rfl, rfl⟩ ⟨_, rfl, by omega⟩ rfl (by simp) OM OM OM slice69) rfl ?_
  have hk8 : kOf h0 ≤ 8 := by omega
  have hLk : (t.take (kOf h0)).length = kOf h0 := by rw [List.length_take]; omega
  have hL256 : ∀ c ∈ t.take (kOf h0), c < 256 := fun c hc => h256 c (List.mem_cons_of_mem _ (List.mem_of_mem_take hc))
  have hget : getI (h0 :: t) = if 9223372036854775808 ≤ wordOf (flipOf h0) (t.take (kOf h0)) then (0, 0, 2) else (if h0 < 128 then -1 - (wordOf (flipOf h0) (t.take (kOf h0)) : Int) else (wordOf (flipOf h0) (t.take (kOf h0)) : Int), (kOf h0 : Int) + 1, 0) := by
    rw [getI, if_neg OM, if_neg OM, if_neg (fun h => by first | omega | (have := h.1; omega) | (have := h.2; omega))]
  obtain ⟨L, hL⟩ : ∃ L, L = t.take (kOf h0) := ⟨_, rfl⟩
  rw [← hL] at hcut hLk hL256 hget
  obtain ⟨a46, c46, hu46, hc46, hl46, _⟩ := hcut.slice
  rw [hu46] at hcut ⊢
  refine RL.addRd hcut ?_
  refine RL.q (Y.len rfl Try.underlying69) rfl ?_
  refine RL.q (Y.move rfl) rfl ?_
  refine RL.nil ?_
  refine hK68 _ _ _ ?_
  refine CW.kp [5, 6, 7, 46, 47, 48] rfl ?_
  refine CW.block ?_
  -- LOOP 1: live [5, 6, 7, 46, 47, 48] changed [7, 48]
  refine CW.kp [7, 48, 5, 6, 46, 47] rfl ?_
  refine CW.loopF (fun m Lc M1 Γc => ∃ k : Nat, m = L.length - k ∧ k ≤ L.length ∧ Lc = [(7, vword (wordOf (flipOf h0) (L.take k))), (48, vint k)] ∧ Γc = [] ∧ M1 = M) (L.length) [(7, _), (48, _)] _ rfl rfl ⟨0, rfl, Nat.zero_le _, rfl, rfl, rfl⟩ ?_
  rintro m Lc M Γc hs ⟨k, rfl, hk, rfl, rfl, rfl⟩
  refine CW.seq fun K69 hK69 => ?_
  refine CW.region ?_
  refine RL.q (Y.lss rfl rfl) rfl ?_
  refine RL.nil ?_
  refine hK69 _ _ _ ?_
  refine CW.kp [5, 6, 7, 46, 47, 48, 49] rfl ?_
  refine CW.seq fun K70 hK70 => ?_
  refine CW.ite rfl (fun h6 => ?_) (fun h6 => ?_)
  ·have hka : k < L.length := by omega
   have hck := hL256 _ (List.getElem_mem hka)
   have hfk := flip8_lt (f := flipOf h0) hck
   have hwk : wordOf (flipOf h0) (L.take k) < 72057594037927936 := by
     have h := wordOf_lt (flipOf h0) (L.take k) fun c hc => hL256 c (List.mem_of_mem_take hc)
     refine Nat.lt_of_lt_of_le h ?_
     rw [show (72057594037927936 : Nat) = 256 ^ 7 from rfl]
     exact Nat.pow_le_pow_right OM (by rw [List.length_take]; omega)
   refine CW.skip ?_
   refine hK70 _ _ _ ?_
   refine CW.seq fun K71 hK71 => ?_
   refine CW.block ?_
   refine CW.seq fun K72 hK72 => ?_
   refine CW.region ?_
   refine RL.q (Y.index _ rfl rfl rfl AO slice69 SM) rfl ?_
   refine RL.q (Y.loadRd rfl MM (dbyte_get (List.getElem?_eq_getElem AO)) flat5) rfl ?_
   refine RL.q (Y.assign rfl) rfl ?_
   refine RL.nil ?_
   refine hK72 _ _ _ ?_
   refine CW.kp [5, 6, 7, 9, 46, 47, 48] rfl ?_
   refine CW.region ?_
   refine RL.q (Y.move rfl) rfl ?_
   refine RL.q (Y.shl8 rfl rfl) rfl ?_
   refine RL.q (Y.move rfl) rfl ?_
   refine RL.q (Y.move rfl) rfl ?_
   refine RL.q (Y.xor8 rfl rfl hck (flipOf_or h0)) rfl ?_
   refine RL.q (Y.convTo (r := ((flip8 (flipOf h0) L[k] : Nat) : Int)) KR KR rfl (by rw [wrap_u64']; omega)) rfl ?_
   refine RL.q (Y.or8 rfl rfl OM OM hfk) rfl ?_
   refine RL.q (Y.assign rfl) rfl ?_
   refine RL.nil ?_
   refine hK71 _ _ _ ?_
   refine CW.kp [5, 6, 7, 46, 47, 48] rfl ?_
   refine CW.region ?_
   refine RL.q (Y.add rfl rfl OM) rfl ?_
   refine RL.q (Y.move rfl) rfl ?_
   refine RL.nil ?_
   refine ⟨L.length - (k + 1), [(7, _), (48, _)], ?_, (KP [7, 48, 5, 6, 46, 47]), ?_⟩
   · omega
   · exact Turn.drop ⟨[], rfl, hs, k + 1, rfl, by omega, by rw [List.take_succ_eq_append_getElem hka, wordOf_snoc, Nat.mod_eq_of_lt OM] <;> rfl, rfl, rfl⟩ SB
  refine CW.exit ?_
  refine hK67 _ _ _ ?_
  refine CW.seq fun K73 hK73 => ?_
  refine CW.seq fun K74 hK74 => ?_
  obtain rfl : k = L.length := by omega
  rw [List.take_length]
  have hwl := wordOf_lt (flipOf h0) L hL256
  have hwl2 : wordOf (flipOf h0) L < 18446744073709551616 := Nat.lt_of_lt_of_le hwl (by rw [hLk]; exact Nat.pow_le_pow_right (n := 256) OM hk8)
  refine CW.region ?_
  refine RL.q (Y.move rfl) rfl ?_
  refine RL.q (Y.shrN 63 rfl rfl rfl OM) rfl ?_
  refine RL.q (Y.gtrK rfl rfl) rfl ?_
  refine RL.nil ?_
  refine hK74 _ _ _ ?_
  refine CW.kp [5, 6, 7, 62] rfl ?_
  refine CW.ite rfl (fun h7 => ?_) (fun h7 => ?_)
  ·refine CW.seq fun K75 hK75 => ?_
   refine CW.region ?_
   refine RL.q (Y.assign rfl) rfl ?_
   refine RL.q (Y.assign rfl) rfl ?_
   refine RL.q (Y.assign rfl) rfl ?_
   refine RL.nil ?_
   refine hK75 _ _ _ ?_
   refine CW.kp [2, 3, 4] rfl ?_
   refine CW.ret ?_
   have e : getI (h0 :: t) = (0, 0, 2) := by rw [hget, if_pos OM]
   rw [e]
   exact ⟨_, _, _, rfl, rfl, rfl, Turn.drop ⟨rfl, rfl, rfl⟩ SB⟩
  refine CW.skip ?_
  refine hK73 _ _ _ ?_
  refine CW.seq fun K76 hK76 => ?_
  refine CW.seq fun K77 hK77 => ?_
  refine CW.region ?_
  refine RL.q (Y.move rfl) rfl ?_
  refine RL.q (Y.gtrK rfl rfl) rfl ?_
  refine RL.nil ?_
  refine hK77 _ _ _ ?_
  refine CW.kp [6, 7, 64] rfl ?_
  refine CW.ite rfl (fun h8 => ?_) (fun h8 => ?_)
  ·refine CW.region ?_
   refine RL.q (Y.move rfl) rfl ?_
   refine RL.q (Y.not64 rfl hwl2) rfl ?_
   refine RL.q (Y.assign rfl) rfl ?_
   refine RL.nil ?_
   refine hK76 _ _ _ ?_
   refine CW.kp [6, 7] rfl ?_
   refine CW.seq fun K78 hK78 => ?_
   refine CW.region ?_
   refine RL.q (Y.move rfl) rfl ?_
   refine RL.q (Y.convTo (r := (if (0 : Int) < (flipOf h0 : Int) then -1 - ((wordOf (flipOf h0) L) : Int) else ((wordOf (flipOf h0) L) : Int))) KR KR rfl (by first | (show w64 _ = _; rw [if_pos h8, w64_eq]; omega) | (show w64 _ = _; rw [if_neg h8, w64_eq]; omega))) rfl ?_
   refine RL.q (Y.move rfl) rfl ?_
   refine RL.q (Y.add rfl rfl OM) rfl ?_
   refine RL.q (Y.assign rfl) rfl ?_
   refine RL.q (Y.assign rfl) rfl ?_
   refine RL.q (Y.assign rfl) rfl ?_
   refine RL.nil ?_
   refine hK78 _ _ _ ?_
   refine CW.kp [2, 3, 4] rfl ?_
   refine CW.ret ?_
   have hlt : ¬ 9223372036854775808 ≤ wordOf (flipOf h0) L := by omega
   rw [hget, if_neg hlt]
   rw [show (if h0 < 128 then -1 - (wordOf (flipOf h0) L : Int) else (wordOf (flipOf h0) L : Int)) = (if (0 : Int) < (flipOf h0 : Int) then -1 - (wordOf (flipOf h0) L : Int) else (wordOf (flipOf h0) L : Int)) from by simp only [flipOf_pos]]
   exact ⟨_, _, _, rfl, rfl, rfl, Turn.drop ⟨rfl, rfl, rfl⟩ SB⟩
  refine CW.skip ?_
  refine hK76 _ _ _ ?_
  refine CW.seq fun K79 hK79 => ?_
  refine CW.region ?_
  refine RL.q (Y.move rfl) rfl ?_
  refine RL.q (Y.convTo (r := (if (0 : Int) < (flipOf h0 : Int) then -1 - ((wordOf (flipOf h0) L) : Int) else ((wordOf (flipOf h0) L) : Int))) KR KR rfl (by first | (show w64 _ = _; rw [if_pos h8, w64_eq]; omega) | (show w64 _ = _; rw [if_neg h8, w64_eq]; omega))) rfl ?_
  refine RL.q (Y.move rfl) rfl ?_
  refine RL.q (Y.add rfl rfl OM) rfl ?_
  refine RL.q (Y.assign rfl) rfl ?_
  refine RL.q (Y.assign rfl) rfl ?_
  refine RL.q (Y.assign rfl) rfl ?_
  refine RL.nil ?_
  refine hK79 _ _ _ ?_
  refine CW.kp [2, 3, 4] rfl ?_
  refine CW.ret ?_
  have hlt : ¬ 9223372036854775808 ≤ wordOf (flipOf h0) L := by omega
  rw [hget, if_neg hlt]
  rw [show (if h0 < 128 then -1 - (wordOf (flipOf h0) L : Int) else (wordOf (flipOf h0) L : Int)) = (if (0 : Int) < (flipOf h0 : Int) then -1 - (wordOf (flipOf h0) L : Int) else (wordOf (flipOf h0) L : Int)) from by simp only [flipOf_pos]]
  exact ⟨_, _, _, rfl, rfl, rfl, Turn.drop ⟨rfl, rfl, rfl⟩ SB⟩
end Go.Proofs.Ytfgkhhfkodlbpaa
