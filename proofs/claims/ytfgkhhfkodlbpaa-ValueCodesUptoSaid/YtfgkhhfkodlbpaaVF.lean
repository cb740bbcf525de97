/- THE WALKS, 27: reading numbers, encodings of values, by the reference. Printed by m04F.py. -/
import Derived.Test.YtfgkhhfkodlbpaaVE
namespace Go.Proofs.Ytfgkhhfkodlbpaa
open Xe

theorem take_get {h0 : Nat} {t L : List Nat} {k j : Nat} (hL : L = t.take k) (hj : j < L.length) : (h0 :: t)[j + 1]? = some L[j] := by
  subst hL
  rw [List.getElem?_cons_succ, List.getElem_take]
  exact List.getElem?_eq_getElem _
theorem head_take {t : List Nat} {q : Nat} (h : q ≤ t.length) : (t.take q).head? = if 0 < q then some (t.headD 0) else none := by
  cases t with
  | nil =>
    obtain rfl : q = 0 := by simpa using h
    rfl
  | cons c cs =>
    cases q with
    | zero => rfl
    | succ q => rfl

theorem rgetI_ok (w0 : World) (M : Mem) (Γ : List As) (b : List Nat) (ub : Value)  (hb : Kn w0 M Γ (Rd M (dbytes b) ub)) (h256 : ∀ x ∈ b, x < 256) :
    CallOk Try.prog w0 M Γ 71 #[ub] (Is M Γ (.tuple #[vint (getI b).1, vint (getI b).2.1, vint (getI b).2.2])) := by
  refine CallOk.kn hb fun hb => ?_
  obtain ⟨ab, cb, rfl, hcb, hlimb, hlenb⟩ := hb.slice
  refine enter3 (f := 71) Try.func71 rfl Try.ntmps71 rfl rfl fun w1 hw1 => ?_
  refine CW.addRd hb ?_
  refine CW.seq fun K1 hK1 => ?_
  refine CW.region ?_
  refine RL.q (Y.assign rfl) rfl ?_
  refine RL.q (Y.assign rfl) rfl ?_
  refine RL.q (Y.assign rfl) rfl ?_
  refine RL.nil ?_
  refine hK1 _ _ _ ?_
  refine CW.kp [0] rfl ?_
  refine CW.seq fun K2 hK2 => ?_
  refine CW.seq fun K3 hK3 => ?_
  refine CW.region ?_
  refine RL.q (Y.move rfl) rfl ?_
  refine RL.q (Y.len rfl Try.underlying69) rfl ?_
  refine RL.q (Y.eql rfl rfl) rfl ?_
  refine RL.nil ?_
  refine hK3 _ _ _ ?_
  refine CW.kp [0, 13] rfl ?_
  refine CW.ite rfl (fun h1 => ?_) (fun h1 => ?_)
  ·refine CW.seq fun K4 hK4 => ?_
   refine CW.region ?_
   refine RL.q (Y.assign rfl) rfl ?_
   refine RL.q (Y.assign rfl) rfl ?_
   refine RL.q (Y.assign rfl) rfl ?_
   refine RL.nil ?_
   refine hK4 _ _ _ ?_
   refine CW.kp [2, 3, 4] rfl ?_
   refine CW.ret ?_
   obtain rfl : b = [] := List.eq_nil_of_length_eq_zero OM
   exact ⟨_, _, _, rfl, rfl, rfl, Turn.drop ⟨rfl, rfl, rfl⟩ SB⟩
  obtain ⟨h0, t, rfl⟩ : ∃ h t, b = h :: t := by
    cases b with
    | nil => simp at h1
    | cons x xs => exact ⟨x, xs, rfl⟩
  have hh0 := h256 h0 (List.mem_cons_self ..)
  have hln : (h0 :: t).length = t.length + 1 := rfl
  have hkd : kOf h0 = if h0 < 128 then 127 - h0 else h0 - 128 := by
    unfold kOf flip8 flipOf
    split <;> simp <;> omega
  refine CW.skip ?_
  refine hK2 _ _ _ ?_
  refine CW.seq fun K5 hK5 => ?_
  refine CW.region ?_
  refine RL.q (Y.move rfl) rfl ?_
  refine RL.q (Y.index 0 rfl rfl rfl AO slice69 SM) rfl ?_
  refine RL.q (Y.loadRd (v := vbyte h0) rfl MM rfl flat5) rfl ?_
  refine RL.q (Y.convTo (r := ((h0 : Nat) : Int)) KR KR rfl (Y.wrap_in ⟨by omega, by omega⟩)) rfl ?_
  refine RL.q (Y.assign rfl) rfl ?_
  refine RL.nil ?_
  refine hK5 _ _ _ ?_
  refine CW.kp [0, 5] rfl ?_
  refine CW.seq fun K6 hK6 => ?_
  refine CW.seq fun K7 hK7 => ?_
  refine CW.region ?_
  refine RL.q (Y.move rfl) rfl ?_
  refine RL.qs (Y.lss rfl rfl) rfl (fun g19 => ?_) (fun g19 => ?_)
  ·refine RL.q (Y.move rfl) rfl ?_
   refine RL.no WG rfl ?_
   refine RL.no WG rfl ?_
   refine RL.q (Y.pickT rfl rfl) rfl ?_
   refine RL.nil ?_
   refine hK7 _ _ _ ?_
   refine CW.kp [0, 5, 23] rfl ?_
   refine CW.yes rfl ?_
   refine CW.seq fun K8 hK8 => ?_
   refine CW.region ?_
   refine RL.q (Y.assign rfl) rfl ?_
   refine RL.q (Y.assign rfl) rfl ?_
   refine RL.q (Y.assign rfl) rfl ?_
   refine RL.nil ?_
   refine hK8 _ _ _ ?_
   refine CW.kp [2, 3, 4] rfl ?_
   refine CW.ret ?_
   have e : getI (h0 :: t) = (0, 0, 2) := by rw [getI, if_pos (by rw [hkd]; split <;> omega)]
   rw [e]
   exact ⟨_, _, _, rfl, rfl, rfl, Turn.drop ⟨rfl, rfl, rfl⟩ SB⟩
  refine RL.q (Y.move rfl) rfl ?_
  refine RL.qg WG (Y.move rfl) rfl ?_
  refine RL.qg WG (Y.gtr rfl rfl) rfl ?_
  refine RL.q (Y.pickF rfl rfl) rfl ?_
  refine RL.nil ?_
  refine hK7 _ _ _ ?_
  refine CW.kp [0, 5, 23] rfl ?_
  refine CW.ite rfl (fun h2 => ?_) (fun h2 => ?_)
  ·refine CW.seq fun K9 hK9 => ?_
   refine CW.region ?_
   refine RL.q (Y.assign rfl) rfl ?_
   refine RL.q (Y.assign rfl) rfl ?_
   refine RL.q (Y.assign rfl) rfl ?_
   refine RL.nil ?_
   refine hK9 _ _ _ ?_
   refine CW.kp [2, 3, 4] rfl ?_
   refine CW.ret ?_
   have e : getI (h0 :: t) = (0, 0, 2) := by rw [getI, if_pos (by rw [hkd]; split <;> omega)]
   rw [e]
   exact ⟨_, _, _, rfl, rfl, rfl, Turn.drop ⟨rfl, rfl, rfl⟩ SB⟩
  refine CW.skip ?_
  refine hK6 _ _ _ ?_
  refine CW.seq fun K10 hK10 => ?_
  refine CW.region ?_
  refine RL.q (Y.move rfl) rfl ?_
  refine RL.q (Y.sub rfl rfl OM) rfl ?_
  refine RL.q (Y.assign rfl) rfl ?_
  refine RL.nil ?_
  refine hK10 _ _ _ ?_
  refine CW.kp [0, 5, 6] rfl ?_
  refine CW.cut (fun L' M' Γ' => Keep L' [(0, .slice ab (h0 :: t).length cb), (5, vint (h0 : Nat)), (6, vint (kOf h0 : Nat))] ∧ M' = M ∧ ∀ w, St w0 M Γ' w → St w0 M (.rd (dbytes (h0 :: t)) (.slice ab (h0 :: t).length cb) :: Γ) w) ?_ ?_
  ·refine CW.seq fun K11 hK11 => ?_
   refine CW.region ?_
   refine RL.q (Y.move rfl) rfl ?_
   refine RL.q (Y.lss rfl rfl) rfl ?_
   refine RL.nil ?_
   refine hK11 _ _ _ ?_
   refine CW.kp [0, 5, 6, 27] rfl ?_
   refine CW.ite rfl (fun h3 => ?_) (fun h3 => ?_)
   ·refine CW.region ?_
    refine RL.q (Y.move rfl) rfl ?_
    refine RL.q (Y.sub rfl rfl OM) rfl ?_
    refine RL.q (Y.assign rfl) rfl ?_
    refine RL.nil ?_
    show (fun L' M' Γ' => Keep L' [(0, .slice ab (h0 :: t).length cb), (5, vint (h0 : Nat)), (6, vint (kOf h0 : Nat))] ∧ M' = M ∧ ∀ w, St w0 M Γ' w → St w0 M (.rd (dbytes (h0 :: t)) (.slice ab (h0 :: t).length cb) :: Γ) w) _ _ _
    exact ⟨(Keep.cons 0 rfl (Keep.cons 5 rfl (Keep.cons 6 (by first | (rw [show ((kOf h0 : Nat) : Int) = 127 - (h0 : Int) from by rw [hkd, if_pos OM]; omega]; rfl) | (rw [show ((kOf h0 : Nat) : Int) = (h0 : Int) - 128 from by rw [hkd, if_neg OM]; omega]; rfl)) (Keep.nil _)))), rfl, fun _ hw => hw.sub SB⟩
   refine CW.skip ?_
   show (fun L' M' Γ' => Keep L' [(0, .slice ab (h0 :: t).length cb), (5, vint (h0 : Nat)), (6, vint (kOf h0 : Nat))] ∧ M' = M ∧ ∀ w, St w0 M Γ' w → St w0 M (.rd (dbytes (h0 :: t)) (.slice ab (h0 :: t).length cb) :: Γ) w) _ _ _
   exact ⟨(Keep.cons 0 rfl (Keep.cons 5 rfl (Keep.cons 6 (by first | (rw [show ((kOf h0 : Nat) : Int) = 127 - (h0 : Int) from by rw [hkd, if_pos OM]; omega]; rfl) | (rw [show ((kOf h0 : Nat) : Int) = (h0 : Int) - 128 from by rw [hkd, if_neg OM]; omega]; rfl)) (Keep.nil _)))), rfl, fun _ hw => hw.sub SB⟩
  rintro _ M Γa ⟨hka, rfl, hGa⟩
  refine CW.pre ?_ hka hGa
  have hk8 : kOf h0 ≤ 8 := by rw [hkd]; split <;> omega
  refine CW.seq fun K12 hK12 => ?_
  refine CW.seq fun K13 hK13 => ?_
  refine CW.region ?_
  refine RL.q (Y.move rfl) rfl ?_
  refine RL.q (Y.len rfl Try.underlying69) rfl ?_
  refine RL.q (Y.move rfl) rfl ?_
  refine RL.q (Y.add rfl rfl OM) rfl ?_
  refine RL.q (Y.lss rfl rfl) rfl ?_
  refine RL.nil ?_
  refine hK13 _ _ _ ?_
  refine CW.kp [0, 5, 6, 34] rfl ?_
  refine CW.ite rfl (fun h4 => ?_) (fun h4 => ?_)
  ·refine CW.seq fun K14 hK14 => ?_
   refine CW.region ?_
   refine RL.q (Y.assign rfl) rfl ?_
   refine RL.q (Y.assign rfl) rfl ?_
   refine RL.q (Y.assign rfl) rfl ?_
   refine RL.nil ?_
   refine hK14 _ _ _ ?_
   refine CW.kp [2, 3, 4] rfl ?_
   refine CW.ret ?_
   have e : getI (h0 :: t) = (0, 0, 3) := by rw [getI, if_neg (by rw [hkd]; split <;> omega), if_pos OM]
   rw [e]
   exact ⟨_, _, _, rfl, rfl, rfl, Turn.drop ⟨rfl, rfl, rfl⟩ SB⟩
  have hkt : kOf h0 ≤ t.length := by omega
  obtain ⟨L, hL⟩ : ∃ L, L = t.take (kOf h0) := ⟨_, rfl⟩
  have hLk : L.length = kOf h0 := by rw [hL, List.length_take]; omega
  have hL256 : ∀ c ∈ L, c < 256 := fun c hc => h256 c (List.mem_cons_of_mem _ (List.mem_of_mem_take (hL ▸ hc)))
  have hLg : ∀ (j : Nat) (hj : j < L.length), (h0 :: t)[j + 1]? = some L[j] := fun j hj => take_get hL hj
  have hhd : L.head? = if 0 < kOf h0 then some (t.headD 0) else none := by rw [hL]; exact head_take hkt
  have hget : getI (h0 :: t) = if 0 < kOf h0 ∧ flip8 (flipOf h0) (t.headD 0) = 0 then (0, 0, 2) else if 9223372036854775808 ≤ wordOf (flipOf h0) L then (0, 0, 2) else (intOf h0 (wordOf (flipOf h0) L), (kOf h0 : Int) + 1, 0) := by
    rw [getI, if_neg OM, if_neg OM, hL]; rfl
  refine CW.skip ?_
  refine hK12 _ _ _ ?_
  refine CW.seq fun K15 hK15 => ?_
  refine CW.region ?_
  refine RL.q (Y.assign rfl) rfl ?_
  refine RL.nil ?_
  refine hK15 _ _ _ ?_
  refine CW.kp [0, 5, 6, 7] rfl ?_
  refine CW.seq fun K16 hK16 => ?_
  refine CW.seq fun K17 hK17 => ?_
  refine CW.region ?_
  refine RL.q (Y.assign rfl) rfl ?_
  refine RL.nil ?_
  refine hK17 _ _ _ ?_
  refine CW.kp [0, 5, 6, 7, 8] rfl ?_
  refine CW.block ?_
  -- LOOP 1: live [0, 5, 6, 7, 8] changed [7, 8]
  refine CW.kp [7, 8, 0, 5, 6] rfl ?_
  refine CW.loopF (fun mm Lc M1 Γc => ∃ j : Nat, mm = L.length - j ∧ j ≤ L.length ∧ Lc = [(7, vint (wordOf (flipOf h0) (L.take j) : Nat)), (8, vint ((j : Int) + 1))] ∧ Γc = [] ∧ M1 = M ∧ wordOf (flipOf h0) (L.take j) < 9223372036854775808) L.length [(7, _), (8, _)] [] rfl rfl ⟨0, rfl, Nat.zero_le _, by simp [wordOf], rfl, rfl, by simp [wordOf]⟩ ?_
  rintro mm Lc M Γc hs ⟨j, rfl, hj, rfl, rfl, rfl, hwj⟩
  refine CW.seq fun K18 hK18 => ?_
  refine CW.seq fun K19 hK19 => ?_
  refine CW.region ?_
  refine RL.q (Y.move rfl) rfl ?_
  refine RL.q (Y.move rfl) rfl ?_
  refine RL.q (Y.leq rfl rfl) rfl ?_
  refine RL.nil ?_
  refine hK19 _ _ _ ?_
  refine CW.kp [0, 5, 6, 7, 8, 37] rfl ?_
  refine CW.ite rfl (fun h5 => ?_) (fun h5 => ?_)
  ·have hja : j < L.length := by omega
   have hcj := hL256 _ (List.getElem_mem hja)
   have hfj := flip8_lt (f := flipOf h0) hcj
   refine CW.skip ?_
   refine hK18 _ _ _ ?_
   refine CW.seq fun K20 hK20 => ?_
   refine CW.block ?_
   refine CW.seq fun K21 hK21 => ?_
   refine CW.region ?_
   refine RL.q (Y.move rfl) rfl ?_
   refine RL.q (Y.move rfl) rfl ?_
   refine RL.q (Y.index (j + 1) rfl rfl OM OM slice69 (fun _ hw => hw.rd_some MM OM)) rfl ?_
   refine RL.q (Y.loadRd (v := vbyte L[j]) rfl MM (by rw [Nat.mul_one, List.getElem?_map, hLg j hja]; rfl) flat5) rfl ?_
   refine RL.q (Y.convTo (r := ((L[j] : Nat) : Int)) KR KR rfl (Y.wrap_in ⟨by omega, by omega⟩)) rfl ?_
   refine RL.q (Y.assign rfl) rfl ?_
   refine RL.nil ?_
   refine hK21 _ _ _ ?_
   refine CW.kp [0, 5, 6, 7, 8, 9] rfl ?_
   refine CW.cut (fun L' M' Γ' => Keep L' [(0, .slice ab (h0 :: t).length cb), (5, vint (h0 : Nat)), (6, vint (kOf h0 : Nat)), (7, vint (wordOf (flipOf h0) (L.take j) : Nat)), (8, vint ((j : Int) + 1)), (9, vint ((flip8 (flipOf h0) L[j]) : Nat))] ∧ M' = M ∧ ∀ w, St w0 M Γ' w → St w0 M (.rd (dbytes (h0 :: t)) (.slice ab (h0 :: t).length cb) :: Γ) w) ?_ ?_
   ·refine CW.seq fun K22 hK22 => ?_
    refine CW.region ?_
    refine RL.q (Y.move rfl) rfl ?_
    refine RL.q (Y.lss rfl rfl) rfl ?_
    refine RL.nil ?_
    refine hK22 _ _ _ ?_
    refine CW.kp [0, 5, 6, 7, 8, 9, 46] rfl ?_
    refine CW.ite rfl (fun h6 => ?_) (fun h6 => ?_)
    ·refine CW.region ?_
     refine RL.q (Y.move rfl) rfl ?_
     refine RL.q (Y.sub rfl rfl OM) rfl ?_
     refine RL.q (Y.assign rfl) rfl ?_
     refine RL.nil ?_
     show (fun L' M' Γ' => Keep L' [(0, .slice ab (h0 :: t).length cb), (5, vint (h0 : Nat)), (6, vint (kOf h0 : Nat)), (7, vint (wordOf (flipOf h0) (L.take j) : Nat)), (8, vint ((j : Int) + 1)), (9, vint ((flip8 (flipOf h0) L[j]) : Nat))] ∧ M' = M ∧ ∀ w, St w0 M Γ' w → St w0 M (.rd (dbytes (h0 :: t)) (.slice ab (h0 :: t).length cb) :: Γ) w) _ _ _
     exact ⟨(Keep.cons 0 rfl (Keep.cons 5 rfl (Keep.cons 6 rfl (Keep.cons 7 rfl (Keep.cons 8 rfl (Keep.cons 9 (by first | (rw [show (((flip8 (flipOf h0) L[j]) : Nat) : Int) = 255 - (L[j] : Int) from by rw [show flipOf h0 = 255 from if_pos OM, flip8_255 hcj]; omega]; rfl) | (rw [show (((flip8 (flipOf h0) L[j]) : Nat) : Int) = (L[j] : Int) from by rw [show flipOf h0 = 0 from if_neg OM, flip8_z]]; rfl)) (Keep.nil _))))))), rfl, fun _ hw => hw.sub SB⟩
    refine CW.skip ?_
    show (fun L' M' Γ' => Keep L' [(0, .slice ab (h0 :: t).length cb), (5, vint (h0 : Nat)), (6, vint (kOf h0 : Nat)), (7, vint (wordOf (flipOf h0) (L.take j) : Nat)), (8, vint ((j : Int) + 1)), (9, vint ((flip8 (flipOf h0) L[j]) : Nat))] ∧ M' = M ∧ ∀ w, St w0 M Γ' w → St w0 M (.rd (dbytes (h0 :: t)) (.slice ab (h0 :: t).length cb) :: Γ) w) _ _ _
    exact ⟨(Keep.cons 0 rfl (Keep.cons 5 rfl (Keep.cons 6 rfl (Keep.cons 7 rfl (Keep.cons 8 rfl (Keep.cons 9 (by first | (rw [show (((flip8 (flipOf h0) L[j]) : Nat) : Int) = 255 - (L[j] : Int) from by rw [show flipOf h0 = 255 from if_pos OM, flip8_255 hcj]; omega]; rfl) | (rw [show (((flip8 (flipOf h0) L[j]) : Nat) : Int) = (L[j] : Int) from by rw [show flipOf h0 = 0 from if_neg OM, flip8_z]]; rfl)) (Keep.nil _))))))), rfl, fun _ hw => hw.sub SB⟩
   rintro _ M Γb ⟨hkb, rfl, hGb⟩
   refine CW.pre ?_ hkb hGb
   refine CW.seq fun K23 hK23 => ?_
   refine CW.seq fun K24 hK24 => ?_
   refine CW.region ?_
   refine RL.q (Y.move rfl) rfl ?_
   refine RL.q (Y.gtr rfl rfl) rfl ?_
   refine RL.nil ?_
   refine hK24 _ _ _ ?_
   refine CW.kp [0, 5, 6, 7, 8, 9, 50] rfl ?_
   refine CW.ite rfl (fun h7 => ?_) (fun h7 => ?_)
   ·refine CW.seq fun K25 hK25 => ?_
    refine CW.region ?_
    refine RL.q (Y.assign rfl) rfl ?_
    refine RL.q (Y.assign rfl) rfl ?_
    refine RL.q (Y.assign rfl) rfl ?_
    refine RL.nil ?_
    refine hK25 _ _ _ ?_
    refine CW.kp [2, 3, 4] rfl ?_
    refine CW.ret ?_
    have e : getI (h0 :: t) = (0, 0, 2) := by
      have := word_prefix (f := flipOf h0) hja
      rw [hget]
      split
      · rfl
      · rw [if_pos OM]
    rw [e]
    exact ⟨_, _, _, rfl, rfl, rfl, Turn.drop ⟨rfl, rfl, rfl⟩ SB⟩
   refine CW.skip ?_
   refine hK23 _ _ _ ?_
   refine CW.region ?_
   refine RL.q (Y.move rfl) rfl ?_
   refine RL.q (Y.mul rfl rfl OM) rfl ?_
   refine RL.q (Y.move rfl) rfl ?_
   refine RL.q (Y.add rfl rfl OM) rfl ?_
   refine RL.q (Y.assign rfl) rfl ?_
   refine RL.nil ?_
   refine hK20 _ _ _ ?_
   refine CW.kp [0, 5, 6, 7, 8] rfl ?_
   refine CW.region ?_
   refine RL.q (Y.move rfl) rfl ?_
   refine RL.q (Y.add rfl rfl OM) rfl ?_
   refine RL.q (Y.assign rfl) rfl ?_
   refine RL.nil ?_
   have hwn : wordOf (flipOf h0) (L.take (j + 1)) = wordOf (flipOf h0) (L.take j) * 256 + (flip8 (flipOf h0) L[j]) := by rw [List.take_succ_eq_append_getElem hja, wordOf_snoc]
   refine ⟨L.length - (j + 1), [(7, _), (8, _)], ?_, (KP [7, 8, 0, 5, 6]), ?_⟩
   · omega
   · exact Turn.drop ⟨[], rfl, hs, j + 1, rfl, by omega, by rw [hwn, show ((wordOf (flipOf h0) (L.take j) * 256 + (flip8 (flipOf h0) L[j]) : Nat) : Int) = 256 * (wordOf (flipOf h0) (L.take j) : Int) + ((flip8 (flipOf h0) L[j]) : Int) from by omega, show (((j + 1 : Nat) : Int) + 1) = (j : Int) + 1 + 1 from by omega] <;> rfl, rfl, rfl, by omega⟩ SB
  obtain rfl : j = L.length := by omega
  rw [List.take_length] at hwj ⊢
  refine CW.exit ?_
  refine hK16 _ _ _ ?_
  refine CW.seq fun K26 hK26 => ?_
  refine CW.region ?_
  refine RL.q (Y.move rfl) rfl ?_
  refine RL.q (Y.assign rfl) rfl ?_
  refine RL.nil ?_
  refine hK26 _ _ _ ?_
  refine CW.kp [0, 5, 6, 7, 10] rfl ?_
  refine CW.cut (fun L' M' Γ' => Keep L' [(0, .slice ab (h0 :: t).length cb), (6, vint (kOf h0 : Nat)), (10, vint (intOf h0 (wordOf (flipOf h0) L)))] ∧ M' = M ∧ ∀ w, St w0 M Γ' w → St w0 M (.rd (dbytes (h0 :: t)) (.slice ab (h0 :: t).length cb) :: Γ) w) ?_ ?_
  ·refine CW.seq fun K27 hK27 => ?_
   refine CW.region ?_
   refine RL.q (Y.move rfl) rfl ?_
   refine RL.q (Y.lss rfl rfl) rfl ?_
   refine RL.nil ?_
   refine hK27 _ _ _ ?_
   refine CW.kp [0, 6, 7, 10, 57] rfl ?_
   refine CW.ite rfl (fun h8 => ?_) (fun h8 => ?_)
   ·refine CW.region ?_
    refine RL.q (Y.move rfl) rfl ?_
    refine RL.q (Y.sub rfl rfl OM) rfl ?_
    refine RL.q (Y.assign rfl) rfl ?_
    refine RL.nil ?_
    show (fun L' M' Γ' => Keep L' [(0, .slice ab (h0 :: t).length cb), (6, vint (kOf h0 : Nat)), (10, vint (intOf h0 (wordOf (flipOf h0) L)))] ∧ M' = M ∧ ∀ w, St w0 M Γ' w → St w0 M (.rd (dbytes (h0 :: t)) (.slice ab (h0 :: t).length cb) :: Γ) w) _ _ _
    exact ⟨(Keep.cons 0 rfl (Keep.cons 6 rfl (Keep.cons 10 (by first | (rw [show intOf h0 (wordOf (flipOf h0) L) = -1 - (wordOf (flipOf h0) L : Int) from if_pos OM]; rfl) | (rw [show intOf h0 (wordOf (flipOf h0) L) = (wordOf (flipOf h0) L : Int) from if_neg OM]; rfl)) (Keep.nil _)))), rfl, fun _ hw => hw.sub SB⟩
   refine CW.skip ?_
   show (fun L' M' Γ' => Keep L' [(0, .slice ab (h0 :: t).length cb), (6, vint (kOf h0 : Nat)), (10, vint (intOf h0 (wordOf (flipOf h0) L)))] ∧ M' = M ∧ ∀ w, St w0 M Γ' w → St w0 M (.rd (dbytes (h0 :: t)) (.slice ab (h0 :: t).length cb) :: Γ) w) _ _ _
   exact ⟨(Keep.cons 0 rfl (Keep.cons 6 rfl (Keep.cons 10 (by first | (rw [show intOf h0 (wordOf (flipOf h0) L) = -1 - (wordOf (flipOf h0) L : Int) from if_pos OM]; rfl) | (rw [show intOf h0 (wordOf (flipOf h0) L) = (wordOf (flipOf h0) L : Int) from if_neg OM]; rfl)) (Keep.nil _)))), rfl, fun _ hw => hw.sub SB⟩
  rintro _ M Γc ⟨hkc, rfl, hGc⟩
  refine CW.pre ?_ hkc hGc
  refine CW.seq fun K28 hK28 => ?_
  refine CW.seq fun K29 hK29 => ?_
  have hcut : Rd M (dbytes (h0 :: L)) (.slice ab (kOf h0 + 1) cb) := by have h := takeB_rd hb (kOf h0 + 1) OM; rwa [List.take_succ_cons, ← hL] at h
  refine CW.addRd hcut ?_
  have hcan := canon hh0 hL256 hLk
  rw [hhd] at hcan
  refine CW.regionH mix _ _ (fun _ hw => hw) ?_
  refine HL.take 0 rfl KR KR KR rfl (Y.move rfl) rfl ?_
  refine HL.take 2 rfl KR KR KR rfl (Y.move rfl) rfl ?_
  refine HL.take 3 rfl KR KR KR rfl (Y.move rfl) rfl ?_
  refine HL.take 4 rfl KR KR KR rfl (Y.add rfl rfl OM) rfl ?_
  refine HL.take 5 rfl KR KR KR rfl (Y.slice0 (kOf h0 + 1) cb rfl ⟨_, rfl, by omega⟩ rfl (by simp) OM OM slice69) rfl ?_
  refine HL.step 1 rfl KR ?_
  refine RL.call rfl func59 rfl rfl (by exact rint_ok _ _ _ (intOf h0 (wordOf (flipOf h0) L)) (by unfold InI intOf; split <;> omega)) ?_
  rintro v61 M61 _ ⟨hs61, rfl, hr61⟩
  obtain ⟨a61, c61, rfl, hc61, hlim61, hln61⟩ := hr61.slice
  refine RL.addRd hr61 ?_
  refine RL.nil ⟨keep_more (hs61) SB, ?_⟩
  refine HL.step 6 rfl KR ?_
  refine RL.callv rfl func73 rfl rfl (by exact sameB_ok _ _ _ (encI (intOf h0 (wordOf (flipOf h0) L))) _ (h0 :: L) _ (by exact Kn.rd MM) (by exact Kn.rd MM)) ?_
  refine RL.nil ⟨keep_more (hs61) SB, ?_⟩
  refine HL.take 7 rfl KR KR KR rfl (Y.notD rfl) rfl ?_
  refine HL.done KR ?_
  refine hK29 _ _ _ ?_
  refine CW.kp [6, 10, 67] rfl ?_
  refine CW.ite rfl (fun h9 => ?_) (fun h9 => ?_)
  ·refine CW.seq fun K30 hK30 => ?_
   refine CW.region ?_
   refine RL.q (Y.assign rfl) rfl ?_
   refine RL.q (Y.assign rfl) rfl ?_
   refine RL.q (Y.assign rfl) rfl ?_
   refine RL.nil ?_
   refine hK30 _ _ _ ?_
   refine CW.kp [2, 3, 4] rfl ?_
   refine CW.ret ?_
   have e : getI (h0 :: t) = (0, 0, 2) := by
     rw [hget, if_pos ?_]
     by_cases hq : 0 < kOf h0
     · rw [if_pos hq] at hcan
       exact ⟨hq, Decidable.not_not.1 fun q => h9 (hcan.2 fun c hc => by cases hc; exact q)⟩
     · rw [if_neg hq] at hcan
       exact absurd (hcan.2 fun c hc => by cases hc) h9
   rw [e]
   exact ⟨_, _, _, rfl, rfl, rfl, Turn.back hw1 (hs61) ⟨rfl, rfl, rfl⟩ SB⟩
  refine CW.skip ?_
  refine hK28 _ _ _ ?_
  refine CW.seq fun K31 hK31 => ?_
  refine CW.region ?_
  refine RL.q (Y.move rfl) rfl ?_
  refine RL.q (Y.move rfl) rfl ?_
  refine RL.q (Y.add rfl rfl OM) rfl ?_
  refine RL.q (Y.assign rfl) rfl ?_
  refine RL.q (Y.assign rfl) rfl ?_
  refine RL.q (Y.assign rfl) rfl ?_
  refine RL.nil ?_
  refine hK31 _ _ _ ?_
  refine CW.kp [2, 3, 4] rfl ?_
  refine CW.ret ?_
  have e : getI (h0 :: t) = (intOf h0 (wordOf (flipOf h0) L), (kOf h0 : Int) + 1, 0) := by
    have hw8 : ¬ 9223372036854775808 ≤ wordOf (flipOf h0) L := by omega
    rw [hget, if_neg ?_, if_neg hw8]
    rintro ⟨q1, q2⟩
    rw [if_pos q1] at hcan
    exact hcan.1 (Decidable.not_not.1 h9) _ rfl q2
  rw [e]
  exact ⟨_, _, _, rfl, rfl, rfl, Turn.back hw1 (hs61) ⟨rfl, rfl, rfl⟩ SB⟩
end Go.Proofs.Ytfgkhhfkodlbpaa
