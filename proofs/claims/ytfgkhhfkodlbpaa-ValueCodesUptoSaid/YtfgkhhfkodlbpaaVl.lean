/- THE WALKS, 12: room, joined byte lists, encodings of values, by the program. Printed by m04l.py. -/
import Derived.Test.YtfgkhhfkodlbpaaVk
namespace Go.Proofs.Ytfgkhhfkodlbpaa
open Xe

theorem grow_ok (w0 : World) (M : Mem) (Γ : List As) (n : Nat) (hn : n ≤ 1000000) :
    CallOk Try.prog w0 M Γ 70 #[.slice none 0 0, vint n] (fun u M' Γ' => ∃ a c, u = .slice a 0 c ∧ n ≤ c ∧ M' = M ∧ Γ' = .acc (.slice a 0 c) 5 1 0 [] :: Γ) := by
  refine enter (f := 70) Try.func70 rfl Try.ntmps70 rfl rfl fun w1 hw1 => ?_
  refine CW.seq fun K1 hK1 => ?_
  refine CW.region ?_
  refine RL.q (Y.assign rfl) rfl ?_
  refine RL.nil ?_
  refine hK1 _ _ _ ?_
  refine CW.kp [0, 1] rfl ?_
  refine CW.seq fun K2 hK2 => ?_
  refine CW.seq fun K3 hK3 => ?_
  refine CW.region ?_
  refine RL.q (Y.move rfl) rfl ?_
  refine RL.q (Y.lss rfl rfl) rfl ?_
  refine RL.nil ?_
  refine hK3 _ _ _ ?_
  refine CW.kp [0, 1, 6] rfl ?_
  refine CW.ite rfl (fun h1 => absurd h1 OM) (fun h1 => ?_)
  refine CW.skip ?_
  refine hK2 _ _ _ ?_
  refine CW.seq fun K4 hK4 => ?_
  refine CW.seq fun K5 hK5 => ?_
  refine CW.region ?_
  refine RL.q (Y.move rfl) rfl ?_
  refine RL.q (Y.move rfl) rfl ?_
  refine RL.q (Y.cap rfl Try.underlying69) rfl ?_
  refine RL.q (Y.move rfl) rfl ?_
  refine RL.q (Y.len rfl Try.underlying69) rfl ?_
  refine RL.q (Y.sub rfl rfl OM) rfl ?_
  refine RL.q (Y.sub rfl rfl OM) rfl ?_
  refine RL.q (Y.assign rfl) rfl ?_
  refine RL.nil ?_
  refine hK5 _ _ _ ?_
  refine CW.kp [0, 1] rfl ?_
  refine CW.seq fun K6 hK6 => ?_
  refine CW.region ?_
  refine RL.q (Y.move rfl) rfl ?_
  refine RL.q (Y.gtr rfl rfl) rfl ?_
  refine RL.nil ?_
  refine hK6 _ _ _ ?_
  refine CW.kp [0, 1, 16] rfl ?_
  refine CW.ite rfl (fun h2 => ?_) (fun h2 => ?_)
  ·refine CW.region ?_
   refine RL.q (Y.move rfl) rfl ?_
   refine RL.q (Y.move rfl) rfl ?_
   refine RL.q (Y.cap rfl Try.underlying69) rfl ?_
   refine RL.q (Y.slice0 0 0 rfl ⟨_, rfl, rfl⟩ rfl (by simp) (Nat.le_refl _) (Nat.le_refl _) slice69) rfl ?_
   refine RL.q (Y.move rfl) rfl ?_
   refine RL.appendZeros n elem69 Try.underlying3 rfl rfl OM OM OM (by unfold lim; omega) rfl fun b22 c22 us22 hus22 hc22 => ?_
   refine RL.q (Y.move rfl) rfl ?_
   refine RL.q (Y.len rfl Try.underlying69) rfl ?_
   refine RL.accTake (k := 0) (Nat.zero_le _) ?_
   refine RL.q (Y.slice0 0 c22 rfl ⟨_, rfl, rfl⟩ rfl (by simp) (Nat.zero_le _) (Nat.le_refl _) slice69) rfl ?_
   refine RL.q (Y.assign rfl) rfl ?_
   refine RL.nil ?_
   refine hK4 _ _ _ ?_
   refine CW.kp [0] rfl ?_
   refine CW.seq fun K7 hK7 => ?_
   refine CW.region ?_
   refine RL.q (Y.move rfl) rfl ?_
   refine RL.q (Y.assign rfl) rfl ?_
   refine RL.nil ?_
   refine hK7 _ _ _ ?_
   refine CW.kp [4] rfl ?_
   refine CW.ret ?_
   exact ⟨_, rfl, Turn.drop ⟨_, _, rfl, by omega, rfl, rfl⟩ SB⟩
  refine CW.accNil 5 1 ?_
  refine CW.skip ?_
  refine hK4 _ _ _ ?_
  refine CW.seq fun K8 hK8 => ?_
  refine CW.region ?_
  refine RL.q (Y.move rfl) rfl ?_
  refine RL.q (Y.assign rfl) rfl ?_
  refine RL.nil ?_
  refine hK8 _ _ _ ?_
  refine CW.kp [4] rfl ?_
  refine CW.ret ?_
  exact ⟨_, rfl, Turn.drop ⟨_, _, rfl, by omega, rfl, rfl⟩ SB⟩

theorem concat_ok (w0 : World) (M : Mem) (Γ : List As) (p : Addr) (us : List Value) (ls : List (List Nat)) (n : Nat) (hn : n = ls.flatten.length) (hc : CellsK w0 M Γ p us) (hr : RdL M (ls.map dbytes) us) (hl : ls.length ≤ 1000) (hls : ∀ l ∈ ls, l.length ≤ 1000) :
    CallOk Try.prog w0 M Γ 60 #[.slice (some p) us.length us.length] (fun u M' Γ' => ∃ a c, u = .slice a n c ∧ n ≤ c ∧ M' = M ∧ Γ' = .acc (.slice a n c) 5 1 n (byteV ls.flatten) :: Γ) := by
  have hul : us.length = ls.length := by rw [hr.1]; simp
  have htk : ∀ k, (ls.take k).flatten.length ≤ 1000000 := fun k => by
    have h1 := flat_le 1000 (ls.take k) fun l h => hls l (List.mem_of_mem_take h)
    have h2 : (ls.take k).length ≤ 1000 := by rw [List.length_take]; omega
    have h3 := Nat.mul_le_mul_right 1000 h2
    omega
  refine enter (f := 60) Try.func60 rfl Try.ntmps60 rfl rfl fun w1 hw1 => ?_
  refine CW.seq fun K1 hK1 => ?_
  refine CW.region ?_
  refine RL.q (Y.assign rfl) rfl ?_
  refine RL.nil ?_
  refine hK1 _ _ _ ?_
  refine CW.kp [0] rfl ?_
  refine CW.seq fun K2 hK2 => ?_
  refine CW.region ?_
  refine RL.q (Y.assign rfl) rfl ?_
  refine RL.nil ?_
  refine hK2 _ _ _ ?_
  refine CW.kp [0, 3] rfl ?_
  refine CW.seq fun K3 hK3 => ?_
  refine CW.seq fun K4 hK4 => ?_
  refine CW.region ?_
  refine RL.q (Y.move rfl) rfl ?_
  refine RL.q (Y.len rfl Try.underlying72) rfl ?_
  refine RL.q (Y.move rfl) rfl ?_
  refine RL.nil ?_
  refine hK4 _ _ _ ?_
  refine CW.kp [0, 3, 9, 10, 11] rfl ?_
  refine CW.block ?_
  -- LOOP 1: live [0, 3, 9, 10, 11] changed [3, 11]
  refine CW.kp [3, 11, 0, 9, 10] rfl ?_
  refine CW.loopF (fun m Lc M1 Γc => ∃ k : Nat, m = us.length - k ∧ k ≤ us.length ∧ Lc = [(3, vint ((ls.take k).flatten.length : Nat)), (11, vint k)] ∧ Γc = [] ∧ M1 = M) (us.length) [(3, _), (11, _)] _ rfl rfl ⟨0, rfl, Nat.zero_le _, rfl, rfl, rfl⟩ ?_
  rintro m Lc M Γc hs ⟨k, rfl, hk, rfl, rfl, rfl⟩
  refine CW.seq fun K5 hK5 => ?_
  refine CW.region ?_
  refine RL.q (Y.lss rfl rfl) rfl ?_
  refine RL.nil ?_
  refine hK5 _ _ _ ?_
  refine CW.kp [0, 3, 9, 10, 11, 12] rfl ?_
  refine CW.seq fun K6 hK6 => ?_
  refine CW.ite rfl (fun h1 => ?_) (fun h1 => ?_)
  ·have hka : k < us.length := by omega
   have hkl : k < ls.length := by omega
   have hrk : Rd M (dbytes ls[k]) us[k] := hr.2 k _ _ (by simp [hkl]) (List.getElem?_eq_getElem hka)
   obtain ⟨ak, ck, huk, hck, hlk, _⟩ := hrk.slice
   have hgk : us[k]? = some (.slice ak ls[k].length ck) := by rw [List.getElem?_eq_getElem hka, huk]
   have htk1 := htk k
   have hlk1 := hls _ (List.getElem_mem hkl)
   refine CW.skip ?_
   refine hK6 _ _ _ ?_
   refine CW.seq fun K7 hK7 => ?_
   refine CW.block ?_
   refine CW.seq fun K8 hK8 => ?_
   refine CW.region ?_
   refine RL.q (Y.index k rfl rfl rfl hka slice72 (fun _ _ => rfl)) rfl ?_
   refine RL.q (Y.load (v := .slice ak ls[k].length ck) rfl flat69 (fun w hw => by rw [Nat.mul_one]; exact (hc.mono (fun _ h => h.sub SB)) w hw k _ hgk)) rfl ?_
   refine RL.q (Y.assign rfl) rfl ?_
   refine RL.nil ?_
   refine hK8 _ _ _ ?_
   refine CW.kp [0, 3, 5, 9, 10, 11] rfl ?_
   refine CW.seq fun K9 hK9 => ?_
   refine CW.region ?_
   refine RL.q (Y.move rfl) rfl ?_
   refine RL.q (Y.move rfl) rfl ?_
   refine RL.q (Y.len rfl Try.underlying69) rfl ?_
   refine RL.q (Y.add rfl rfl OM) rfl ?_
   refine RL.q (Y.assign rfl) rfl ?_
   refine RL.nil ?_
   refine hK9 _ _ _ ?_
   refine CW.kp [0, 3, 9, 10, 11] rfl ?_
   refine CW.seq fun K10 hK10 => ?_
   refine CW.region ?_
   refine RL.q (Y.move rfl) rfl ?_
   refine RL.q (Y.lss rfl rfl) rfl ?_
   refine RL.nil ?_
   refine hK10 _ _ _ ?_
   refine CW.kp [0, 3, 9, 10, 11, 20] rfl ?_
   refine CW.ite rfl (fun h2 => absurd h2 OM) (fun h2 => ?_)
   refine CW.skip ?_
   refine hK7 _ _ _ ?_
   refine CW.region ?_
   refine RL.q (Y.add rfl rfl OM) rfl ?_
   refine RL.q (Y.move rfl) rfl ?_
   refine RL.nil ?_
   refine ⟨us.length - (k + 1), [(3, _), (11, _)], ?_, (KP [3, 11, 0, 9, 10]), ?_⟩
   · omega
   · exact Turn.drop ⟨[], rfl, hs, k + 1, rfl, by omega, by rw [take_flat_succ ls k hkl, List.length_append] <;> rfl, rfl, rfl⟩ SB
  refine CW.exit ?_
  refine hK3 _ _ _ ?_
  refine CW.seq fun K11 hK11 => ?_
  obtain rfl : k = us.length := by omega
  rw [show ls.take us.length = ls from by rw [hul, List.take_length]]
  have htl : ls.flatten.length ≤ 1000000 := by have := htk us.length; rwa [hul, List.take_length] at this
  refine CW.region ?_
  refine RL.q (Y.move rfl) rfl ?_
  refine RL.call rfl func70 rfl rfl (by exact grow_ok _ _ _ ls.flatten.length htl) ?_
  rintro v24 M _ ⟨a24, c24, rfl, hc24, rfl, rfl⟩
  refine RL.q (Y.assign rfl) rfl ?_
  refine RL.nil ?_
  refine hK11 _ _ _ ?_
  refine CW.kp [0, 6] rfl ?_
  refine CW.seq fun K12 hK12 => ?_
  refine CW.seq fun K13 hK13 => ?_
  refine CW.region ?_
  refine RL.q (Y.move rfl) rfl ?_
  refine RL.q (Y.len rfl Try.underlying72) rfl ?_
  refine RL.q (Y.move rfl) rfl ?_
  refine RL.nil ?_
  refine hK13 _ _ _ ?_
  refine CW.kp [6, 25, 26, 27] rfl ?_
  refine CW.block ?_
  -- LOOP 2: live [6, 25, 26, 27] changed [6, 27]
  refine CW.kp [6, 27, 25, 26] rfl ?_
  refine CW.front (x := .acc (.slice a24 0 c24) 5 1 0 []) PK ?_
  refine CW.loopF (fun m Lc M1 Γc => ∃ (k : Nat) (ua : Option Addr) (ca : Nat), m = us.length - k ∧ k ≤ us.length ∧ Lc = [(6, .slice ua (ls.take k).flatten.length ca), (27, vint k)] ∧ Γc = [.acc (.slice ua (ls.take k).flatten.length ca) 5 1 (ls.take k).flatten.length (byteV (ls.take k).flatten)] ∧ M1 = M ∧ (ls.take k).flatten.length ≤ ca) us.length [(6, _), (27, _)] [_] rfl rfl ⟨0, a24, c24, rfl, Nat.zero_le _, rfl, rfl, rfl, Nat.zero_le _⟩ ?_
  rintro m Lc M Γc hs2 ⟨k, ua, ca, rfl, hk, rfl, rfl, rfl, hca⟩
  refine CW.seq fun K14 hK14 => ?_
  refine CW.region ?_
  refine RL.q (Y.lss rfl rfl) rfl ?_
  refine RL.nil ?_
  refine hK14 _ _ _ ?_
  refine CW.kp [6, 25, 26, 27, 28] rfl ?_
  refine CW.seq fun K15 hK15 => ?_
  refine CW.ite rfl (fun h3 => ?_) (fun h3 => ?_)
  ·have hka : k < us.length := by omega
   have hkl : k < ls.length := by omega
   have hrk : Rd M (dbytes ls[k]) us[k] := hr.2 k _ _ (by simp [hkl]) (List.getElem?_eq_getElem hka)
   obtain ⟨ak, ck, huk, hck, hlk, _⟩ := hrk.slice
   have hgk : us[k]? = some (.slice ak ls[k].length ck) := by rw [List.getElem?_eq_getElem hka, huk]
   have htk1 := htk k
   have hlk1 := hls _ (List.getElem_mem hkl)
   rw [huk] at hrk
   refine CW.addRd hrk ?_
   refine CW.skip ?_
   refine hK15 _ _ _ ?_
   refine CW.seq fun K16 hK16 => ?_
   refine CW.block ?_
   refine CW.seq fun K17 hK17 => ?_
   refine CW.region ?_
   refine RL.q (Y.index k rfl rfl rfl hka slice72 (fun _ _ => rfl)) rfl ?_
   refine RL.q (Y.load (v := .slice ak ls[k].length ck) rfl flat69 (fun w hw => by rw [Nat.mul_one]; exact (hc.mono (fun _ h => h.sub SB)) w hw k _ hgk)) rfl ?_
   refine RL.q (Y.assign rfl) rfl ?_
   refine RL.nil ?_
   refine hK17 _ _ _ ?_
   refine CW.kp [6, 8, 25, 26, 27] rfl ?_
   refine CW.region ?_
   refine RL.q (Y.move rfl) rfl ?_
   refine RL.q (Y.move rfl) rfl ?_
   refine RL.appendRd elem69 rfl rfl PK MM OM (by unfold lim; omega) rfl fun a33 c33 n33 hc33 hn33 => ?_
   refine RL.q (Y.assign rfl) rfl ?_
   refine RL.nil ?_
   refine hK16 _ _ _ ?_
   refine CW.kp [6, 25, 26, 27] rfl ?_
   refine CW.region ?_
   refine RL.q (Y.add rfl rfl OM) rfl ?_
   refine RL.q (Y.move rfl) rfl ?_
   refine RL.nil ?_
   have e33 : (ls.take (k + 1)).flatten.length = (ls.take k).flatten.length + ls[k].length := by rw [take_flat_succ ls k hkl, List.length_append]
   refine ⟨us.length - (k + 1), [(6, _), (27, _)], ?_, (KP [6, 27, 25, 26]), ?_⟩
   · omega
   · refine Turn.drop (Γ' := [.acc (.slice a33 ((ls.take k).flatten.length + ls[k].length) c33) 5 1 ((ls.take k).flatten.length + ls[k].length) (byteV (ls.take k).flatten ++ n33)] ++ _) ⟨_, rfl, hs2, k + 1, a33, c33, rfl, by omega, by rw [e33] <;> rfl, ?_, rfl, by omega⟩ SB
     rw [e33, take_flat_succ ls k hkl, bytes_of_rd hn33]
     simp [byteV]
  refine CW.exit ?_
  refine hK12 _ _ _ ?_
  refine CW.seq fun K18 hK18 => ?_
  refine CW.region ?_
  refine RL.q (Y.move rfl) rfl ?_
  refine RL.q (Y.assign rfl) rfl ?_
  refine RL.nil ?_
  refine hK18 _ _ _ ?_
  refine CW.kp [2] rfl ?_
  refine CW.ret ?_
  obtain rfl : k = us.length := by omega
  have e := hul ▸ (List.take_length (l := ls))
  rw [show ls.take us.length = ls from by rw [hul, List.take_length]] at hca ⊢
  subst hn
  exact ⟨_, rfl, Turn.drop ⟨_, _, rfl, hca, rfl, rfl⟩ SB⟩
end Go.Proofs.Ytfgkhhfkodlbpaa
