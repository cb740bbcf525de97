/- THE WALKS, 15: reading values, by the program. Printed by m04o.py. -/
import Derived.Test.YtfgkhhfkodlbpaaVn
namespace Go.Proofs.Ytfgkhhfkodlbpaa
open Xe

theorem arr97 : arrB Try.prog 97 3 3 1 = true := by kernel_rfl

theorem dec1_ok (n : Nat) : ∀ (w0 : World) (M : Mem) (Γ : List As) (b : List Nat) (ab : Option Addr) (cb : Nat) (d : Nat) (l : Int) (a : Nat) (bl ba bf bb : Nat), d + n = 25 → 1 ≤ d → 0 ≤ l → l ≤ 256 → a ≤ b.length → (∀ x ∈ b, x < 256) → Rd M (dbytes b) (.slice ab b.length cb) →
    CallOk Try.prog w0 M (.own bl 3 [vint l] :: .own ba 3 [vint (a : Nat)] :: .own bf 96 [(.func (.func 62) #[] #[.pointer (some (adr (some ⟨bl, 0, none⟩) 0)), .pointer (some (adr (some ⟨bb, 0, none⟩) 0)), .pointer (some (adr (some ⟨ba, 0, none⟩) 0)), .pointer (some (adr (some ⟨bf, 0, none⟩) 0))])] :: .own bb 69 [.slice ab b.length cb] :: Γ) 62 #[vint d, .pointer (some (adr (some ⟨bl, 0, none⟩) 0)), .pointer (some (adr (some ⟨bb, 0, none⟩) 0)), .pointer (some (adr (some ⟨ba, 0, none⟩) 0)), .pointer (some (adr (some ⟨bf, 0, none⟩) 0))]
      (fun u M' Γ' => Sub M M' ∧ Γ' = .own bl 3 [vint (decF b n l a).2.2.1] :: .own ba 3 [vint ((decF b n l a).2.2.2 : Nat)] :: .own bf 96 [(.func (.func 62) #[] #[.pointer (some (adr (some ⟨bl, 0, none⟩) 0)), .pointer (some (adr (some ⟨bb, 0, none⟩) 0)), .pointer (some (adr (some ⟨ba, 0, none⟩) 0)), .pointer (some (adr (some ⟨bf, 0, none⟩) 0))])] :: .own bb 69 [.slice ab b.length cb] :: Γ ∧ ∃ us, u = .tuple #[.agg us.toArray, vint (decF b n l a).2.1] ∧ RdL M' (decF b n l a).1.enc us) := by
  induction n using Nat.strongRecOn
  rename_i n ih
  intro w0 M Γ b ab cb d l a bl ba bf bb hd hd1 hl0 hl hab h256 hb
  obtain ⟨_, _, hsl0, hcb0, hlimb, _⟩ := hb.slice
  have hcb : b.length ≤ cb := by simp only [Value.slice.injEq] at hsl0; omega
  refine enterCell2 (f := 62) Try.func62 rfl Try.ntmps62 rfl rfl fun w1 hw1 => ?_
  refine CW.seq fun K1 hK1 => ?_
  refine CW.region ?_
  refine RL.alloc _ zero53 rfl rfl fun b6 => ?_
  refine RL.q (Y.assign rfl) rfl ?_
  refine RL.nil ?_
  refine hK1 _ _ _ ?_
  refine CW.kp [0, 1, 2, 3, 4, 6] rfl ?_
  refine CW.seq fun K2 hK2 => ?_
  refine CW.seq fun K3 hK3 => ?_
  refine CW.region ?_
  refine RL.q (Y.loadOwn rfl MM (by rfl) flat3) rfl ?_
  refine RL.q (Y.sub rfl rfl OM) rfl ?_
  refine RL.store _ rfl rfl RP (by rfl) (by simp) (by rfl) size3 ?_
  refine RL.nil ?_
  refine hK3 _ _ _ ?_
  refine CW.kp [0, 1, 2, 3, 4, 6] rfl ?_
  refine CW.seq fun K4 hK4 => ?_
  refine CW.region ?_
  refine RL.q (Y.loadOwn rfl MM (by rfl) flat3) rfl ?_
  refine RL.qs (Y.lss rfl rfl) rfl (fun g19 => ?_) (fun g19 => ?_)
  ·refine RL.q (Y.move rfl) rfl ?_
   refine RL.no WG rfl ?_
   refine RL.no WG rfl ?_
   refine RL.q (Y.pickT rfl rfl) rfl ?_
   refine RL.nil ?_
   refine hK4 _ _ _ ?_
   refine CW.kp [0, 2, 3, 4, 6, 23] rfl ?_
   refine CW.yes rfl ?_
   refine CW.seq fun K5 hK5 => ?_
   refine CW.region ?_
   refine RL.q (Y.build [_, _, _] rfl zero53 places53 (by rfl)) rfl ?_
   refine RL.storeAgg _ rfl rfl RP (by rfl) (by first | (simp; done) | simp [IdT.vals]) (by first | (simp [Value.oneCell']; done) | simp [Value.oneCell', IdT.vals]) size53 ?_
   refine RL.q (Y.assign rfl) rfl ?_
   refine RL.nil ?_
   refine hK5 _ _ _ ?_
   refine CW.kp [6, 7] rfl ?_
   refine CW.ret ?_
   have e : decF b n l a = (v0, 4, l - 1, a) := by
     cases n with
     | zero => rfl
     | succ n => rw [decF, if_pos OM]
   refine ⟨_, rfl, ?_⟩
   exact CellAt.mk rfl MM (by first | rfl | assumption) agg53 (Turn.drop ⟨Sub.refl _, by rw [e], _, by rw [e], by rw [e]; exact (by rw [Val.enc_eq]; exact (by repeat (first | exact RdL.nil _ | refine RdL.cons (by first | exact Rd.i _ | exact Rd.nilS | exact Rd.str _ | assumption) ?_)))⟩ SB)
  refine RL.q (Y.move rfl) rfl ?_
  refine RL.qg WG (Y.move rfl) rfl ?_
  refine RL.qg WG (Y.gtr rfl rfl) rfl ?_
  refine RL.q (Y.pickF rfl rfl) rfl ?_
  refine RL.nil ?_
  refine hK4 _ _ _ ?_
  refine CW.kp [0, 2, 3, 4, 6, 23] rfl ?_
  refine CW.ite rfl (fun h1 => ?_) (fun h1 => ?_)
  ·refine CW.seq fun K6 hK6 => ?_
   refine CW.region ?_
   refine RL.q (Y.build [_, _, _] rfl zero53 places53 (by rfl)) rfl ?_
   refine RL.storeAgg _ rfl rfl RP (by rfl) (by first | (simp; done) | simp [IdT.vals]) (by first | (simp [Value.oneCell']; done) | simp [Value.oneCell', IdT.vals]) size53 ?_
   refine RL.q (Y.assign rfl) rfl ?_
   refine RL.nil ?_
   refine hK6 _ _ _ ?_
   refine CW.kp [6, 7] rfl ?_
   refine CW.ret ?_
   have e : decF b n l a = (v0, 4, l - 1, a) := by
     cases n with
     | zero => rfl
     | succ n => rw [decF, if_pos OM]
   refine ⟨_, rfl, ?_⟩
   exact CellAt.mk rfl MM (by first | rfl | assumption) agg53 (Turn.drop ⟨Sub.refl _, by rw [e], _, by rw [e], by rw [e]; exact (by rw [Val.enc_eq]; exact (by repeat (first | exact RdL.nil _ | refine RdL.cons (by first | exact Rd.i _ | exact Rd.nilS | exact Rd.str _ | assumption) ?_)))⟩ SB)
  obtain ⟨n, rfl⟩ : ∃ m, n = m + 1 := ⟨n - 1, by omega⟩
  have hl1 : ¬ l - 1 < 0 := by omega
  refine CW.skip ?_
  refine hK2 _ _ _ ?_
  refine CW.seq fun K7 hK7 => ?_
  refine CW.region ?_
  refine RL.alloc _ zero97 rfl rfl fun b8 => ?_
  refine RL.nil ?_
  refine hK7 _ _ _ ?_
  refine CW.kp [0, 2, 3, 4, 6, 8] rfl ?_
  refine CW.seq fun K8 hK8 => ?_
  refine CW.seq fun K9 hK9 => ?_
  refine CW.region ?_
  refine RL.q (Y.move rfl) rfl ?_
  refine RL.nil ?_
  refine hK9 _ _ _ ?_
  refine CW.kp [0, 2, 3, 4, 6, 8, 25] rfl ?_
  refine CW.block ?_
  -- LOOP 1: live [0, 2, 3, 4, 6, 8, 25] changed [25]
  refine CW.kp [25, 0, 2, 3, 4, 6, 8] rfl ?_
  refine CW.front (x := .own ba 3 [vint (a : Nat)]) PK ?_
  refine CW.front (x := .own bl 3 [vint (l - 1)]) PK ?_
  refine CW.front (x := .own b8 97 _) PK ?_
  refine CW.loopF (fun m Lc M1 Γc => ∃ (i ai : Nat) (acc : List Int), m = 3 - i ∧ i ≤ 3 ∧ Lc = [(25, vint i)] ∧ Γc = [.own b8 97 (ints (pad3 acc)), .own bl 3 [vint (l - 1)], .own ba 3 [vint (ai : Nat)]] ∧ M1 = M ∧ acc.length = i ∧ ai ≤ b.length ∧ nums b 3 a [] = nums b (3 - i) ai acc) 3 [(25, _)] [_, _, _] rfl rfl ⟨0, a, [], rfl, by omega, rfl, rfl, rfl, rfl, hab, rfl⟩ ?_
  rintro m Lc M Γc hs ⟨i, ai, acc, rfl, hi, rfl, rfl, rfl, hacc, hai, hn⟩
  refine CW.seq fun K10 hK10 => ?_
  refine CW.region ?_
  refine RL.q (Y.lss rfl rfl) rfl ?_
  refine RL.nil ?_
  refine hK10 _ _ _ ?_
  refine CW.kp [0, 2, 3, 4, 6, 8, 25, 26] rfl ?_
  refine CW.seq fun K11 hK11 => ?_
  refine CW.ite rfl (fun h2 => ?_) (fun h2 => ?_)
  ·refine CW.skip ?_
   refine hK11 _ _ _ ?_
   refine CW.seq fun K12 hK12 => ?_
   refine CW.block ?_
   refine CW.seq fun K13 hK13 => ?_
   refine CW.region ?_
   refine RL.q (Y.move rfl) rfl ?_
   refine RL.q (Y.assign rfl) rfl ?_
   refine RL.nil ?_
   refine hK13 _ _ _ ?_
   refine CW.kp [0, 2, 3, 4, 6, 8, 9, 25] rfl ?_
   refine CW.seq fun K14 hK14 => ?_
   refine CW.region ?_
   refine RL.q (Y.loadOwn rfl MM (by rfl) flat69) rfl ?_
   refine RL.q (Y.loadOwn rfl MM (by rfl) flat3) rfl ?_
   refine RL.q (Y.slice ai b.length cb rfl ⟨_, rfl, rfl⟩ rfl rfl (by simp) OM OM OM slice69) rfl ?_
   refine RL.addRd (Rd.dropB hb ai OM) ?_
   refine RL.callv rfl func63 rfl rfl (by exact getI_ok _ _ _ (b.drop ai) _ KK (fun x hx => h256 x (List.mem_of_mem_drop hx))) ?_
   refine RL.q (Y.move rfl) rfl ?_
   refine RL.q (Y.extract rfl rfl) rfl ?_
   refine RL.q (Y.extract rfl rfl) rfl ?_
   refine RL.q (Y.extract rfl rfl) rfl ?_
   refine RL.q (Y.assign rfl) rfl ?_
   refine RL.q (Y.assign rfl) rfl ?_
   refine RL.q (Y.assign rfl) rfl ?_
   refine RL.nil ?_
   refine hK14 _ _ _ ?_
   refine CW.kp [0, 2, 3, 4, 6, 8, 9, 10, 11, 12, 25] rfl ?_
   refine CW.seq fun K15 hK15 => ?_
   refine CW.seq fun K16 hK16 => ?_
   refine CW.region ?_
   refine RL.q (Y.move rfl) rfl ?_
   refine RL.q (Y.neq rfl rfl) rfl ?_
   refine RL.nil ?_
   refine hK16 _ _ _ ?_
   refine CW.kp [0, 2, 3, 4, 6, 8, 9, 10, 11, 12, 25, 37] rfl ?_
   refine CW.ite rfl (fun h3 => ?_) (fun h3 => ?_)
   ·refine CW.seq fun K17 hK17 => ?_
    refine CW.region ?_
    refine RL.q (Y.build [_, _, _] rfl zero53 places53 (by rfl)) rfl ?_
    refine RL.q (Y.move rfl) rfl ?_
    refine RL.storeAgg _ rfl rfl RP (by rfl) (by first | (simp; done) | simp [IdT.vals]) (by first | (simp [Value.oneCell']; done) | simp [Value.oneCell', IdT.vals]) size53 ?_
    refine RL.q (Y.assign rfl) rfl ?_
    refine RL.nil ?_
    refine hK17 _ _ _ ?_
    refine CW.kp [6, 7] rfl ?_
    refine CW.ret ?_
    have e : decF b (n + 1) l a = (v0, (getI (b.drop ai)).2.2, l - 1, ai) := by rw [decF, if_neg hl1, nums_err OM hn h3, decN, if_pos h3]
    refine ⟨_, rfl, ?_⟩
    exact CellAt.mk rfl MM (by first | rfl | assumption) agg53 (Turn.drop ⟨hs, by rw [e], _, by rw [e], by rw [e]; exact (by rw [Val.enc_eq]; exact (by repeat (first | exact RdL.nil _ | refine RdL.cons (by first | exact Rd.i _ | exact Rd.nilS | exact Rd.str _ | assumption) ?_)))⟩ SB)
   have hsz := getI_size (Decidable.not_not.1 h3)
   rw [List.length_drop] at hsz
   have hcast : (ai : Int) + (getI (b.drop ai)).2.1 = ((ai + (getI (b.drop ai)).2.1.toNat : Nat) : Int) := by omega
   refine CW.skip ?_
   refine hK15 _ _ _ ?_
   refine CW.regionHP2 mix (x := .own b8 97 _) (y := .own ba 3 _) PK PK ?_
   refine HL.take 0 rfl KR KR KR rfl (Y.move rfl) rfl ?_
   refine HL.take 1 rfl KR KR KR rfl (Y.move rfl) rfl ?_
   refine HL.take 3 rfl KR KR KR rfl (Y.move rfl) rfl ?_
   refine HL.take 5 rfl KR KR KR rfl (Y.indexArr i rfl rfl rfl OM arr97) rfl ?_
   refine HL.step2 2 6 rfl rfl KR ?_ ?_
   ·refine RL.q (Y.loadOwn rfl MM (by rfl) flat3) rfl ?_
    refine RL.nil ⟨keep_same SB, ?_⟩
    refine HL.take 4 rfl KR KR KR rfl (Y.add rfl rfl OM) rfl ?_
    refine HL.step 6 rfl KR ?_
    refine RL.store (ints (pad3 (acc ++ [(getI (b.drop ai)).1]))) rfl rfl RP (pad3_store hacc OM) (pad3_idx hacc OM) rfl size3 ?_
    refine RL.nil ⟨keep_same SB, ?_⟩
    refine HL.step 7 rfl KR ?_
    refine RL.store _ rfl rfl RP (by rfl) (by simp) (by rfl) size3 ?_
    refine RL.nil ⟨keep_same SB, ?_⟩
    refine HL.done KR ?_
    refine hK12 _ _ _ ?_
    refine CW.kp [0, 2, 3, 4, 6, 8, 25] rfl ?_
    refine CW.region ?_
    refine RL.q (Y.add rfl rfl OM) rfl ?_
    refine RL.q (Y.move rfl) rfl ?_
    refine RL.nil ?_
    refine ⟨3 - (i + 1), [(25, _)], ?_, (KP [25, 0, 2, 3, 4, 6, 8]), ?_⟩
    · omega
    · exact Turn.drop ⟨[.own b8 97 (ints (pad3 (acc ++ [(getI (b.drop ai)).1]))), .own bl 3 [vint (l - 1)], .own ba 3 [vint ((ai : Int) + (getI (b.drop ai)).2.1)]], rfl, hs, i + 1, ai + (getI (b.drop ai)).2.1.toNat, acc ++ [(getI (b.drop ai)).1], rfl, by omega, rfl, by rw [hcast], rfl, by simp [hacc], by omega, nums_step OM hn h3⟩ SB
   refine RL.store (ints (pad3 (acc ++ [(getI (b.drop ai)).1]))) rfl rfl RP (pad3_store hacc OM) (pad3_idx hacc OM) rfl size3 ?_
   refine RL.nil ⟨keep_same SB, ?_⟩
   refine HL.step 2 rfl KR ?_
   refine RL.q (Y.loadOwn rfl MM (by rfl) flat3) rfl ?_
   refine RL.nil ⟨keep_same SB, ?_⟩
   refine HL.take 4 rfl KR KR KR rfl (Y.add rfl rfl OM) rfl ?_
   refine HL.step 7 rfl KR ?_
   refine RL.store _ rfl rfl RP (by rfl) (by simp) (by rfl) size3 ?_
   refine RL.nil ⟨keep_same SB, ?_⟩
   refine HL.done KR ?_
   refine hK12 _ _ _ ?_
   refine CW.kp [0, 2, 3, 4, 6, 8, 25] rfl ?_
   refine CW.region ?_
   refine RL.q (Y.add rfl rfl OM) rfl ?_
   refine RL.q (Y.move rfl) rfl ?_
   refine RL.nil ?_
   refine ⟨3 - (i + 1), [(25, _)], ?_, (KP [25, 0, 2, 3, 4, 6, 8]), ?_⟩
   · omega
   · exact Turn.drop ⟨[.own b8 97 (ints (pad3 (acc ++ [(getI (b.drop ai)).1]))), .own bl 3 [vint (l - 1)], .own ba 3 [vint ((ai : Int) + (getI (b.drop ai)).2.1)]], rfl, hs, i + 1, ai + (getI (b.drop ai)).2.1.toNat, acc ++ [(getI (b.drop ai)).1], rfl, by omega, rfl, by rw [hcast], rfl, by simp [hacc], by omega, nums_step OM hn h3⟩ SB
  refine CW.exit ?_
  refine hK8 _ _ _ ?_
  refine CW.seq fun K18 hK18 => ?_
  refine CW.seq fun K19 hK19 => ?_
  obtain rfl : i = 3 := by omega
  have hne := nums_end (Nat.le_refl _) hn
  rw [pad3_full hacc]
  refine CW.region ?_
  refine RL.q (Y.indexArr 2 rfl rfl rfl (by decide) arr97) rfl ?_
  refine RL.q (Y.loadOwn (v := vint (acc.getD 2 0)) rfl MM (ints_get (getD3 hacc 2 (by decide)) rfl) flat3) rfl ?_
  refine RL.q (Y.lss rfl rfl) rfl ?_
  refine RL.nil ?_
  refine hK19 _ _ _ ?_
  refine CW.kp [0, 4, 6, 8, 49] rfl ?_
  refine CW.ite rfl (fun h4 => ?_) (fun h4 => ?_)
  ·refine CW.seq fun K20 hK20 => ?_
   refine CW.region ?_
   refine RL.q (Y.build [_, _, _] rfl zero53 places53 (by rfl)) rfl ?_
   refine RL.storeAgg _ rfl rfl RP (by rfl) (by first | (simp; done) | simp [IdT.vals]) (by first | (simp [Value.oneCell']; done) | simp [Value.oneCell', IdT.vals]) size53 ?_
   refine RL.q (Y.assign rfl) rfl ?_
   refine RL.nil ?_
   refine hK20 _ _ _ ?_
   refine CW.kp [6, 7] rfl ?_
   refine CW.ret ?_
   have e : decF b (n + 1) l a = (v0, 2, l - 1, ai) := by rw [decF, if_neg hl1, hne, decN, if_neg (by simp), if_pos h4]
   refine ⟨_, rfl, ?_⟩
   exact CellAt.mk rfl MM (by first | rfl | assumption) agg53 (Turn.drop ⟨Sub.refl _, by rw [e], _, by rw [e], by rw [e]; exact (by rw [Val.enc_eq]; exact (by repeat (first | exact RdL.nil _ | refine RdL.cons (by first | exact Rd.i _ | exact Rd.nilS | exact Rd.str _ | assumption) ?_)))⟩ SB)
  refine CW.skip ?_
  refine hK18 _ _ _ ?_
  refine CW.seq fun K21 hK21 => ?_
  refine CW.region ?_
  refine RL.q (Y.indexArr 0 rfl rfl rfl (by decide) arr97) rfl ?_
  refine RL.q (Y.loadOwn (v := vint (acc.getD 0 0)) rfl MM (ints_get (getD3 hacc 0 (by decide)) rfl) flat3) rfl ?_
  refine RL.q (Y.indexArr 1 rfl rfl rfl (by decide) arr97) rfl ?_
  refine RL.q (Y.loadOwn (v := vint (acc.getD 1 0)) rfl MM (ints_get (getD3 hacc 1 (by decide)) rfl) flat3) rfl ?_
  refine RL.q (Y.build [_, _, _] rfl zero53 places53 (by rfl)) rfl ?_
  refine RL.alloc _ zero53 rfl rfl fun b13 => ?_
  refine RL.storeAgg _ rfl rfl RP (by rfl) (by first | (simp; done) | simp [IdT.vals]) (by first | (simp [Value.oneCell']; done) | simp [Value.oneCell', IdT.vals]) size53 ?_
  refine RL.nil ?_
  refine hK21 _ _ _ ?_
  refine CW.kp [0, 4, 6, 8, 13] rfl ?_
  refine CW.seq fun K22 hK22 => ?_
  refine CW.seq fun K23 hK23 => ?_
  refine CW.region ?_
  refine RL.q (Y.indexArr 2 rfl rfl rfl (by decide) arr97) rfl ?_
  refine RL.q (Y.loadOwn (v := vint (acc.getD 2 0)) rfl MM (ints_get (getD3 hacc 2 (by decide)) rfl) flat3) rfl ?_
  refine RL.q (Y.move rfl) rfl ?_
  refine RL.nil ?_
  refine hK23 _ _ _ ?_
  refine CW.kp [0, 4, 6, 13, 57, 58] rfl ?_
  refine CW.block ?_
  -- LOOP 2: live [0, 4, 6, 13, 57, 58] changed [58]
  refine CW.kp [58, 0, 4, 6, 13, 57] rfl ?_
  refine CW.front (x := .own bb 69 [.slice ab b.length cb]) PK ?_
  refine CW.front (x := .own bf 96 [(.func (.func 62) #[] #[.pointer (some (adr (some ⟨bl, 0, none⟩) 0)), .pointer (some (adr (some ⟨bb, 0, none⟩) 0)), .pointer (some (adr (some ⟨ba, 0, none⟩) 0)), .pointer (some (adr (some ⟨bf, 0, none⟩) 0))])]) PK ?_
  refine CW.front (x := .own ba 3 [vint (ai : Nat)]) PK ?_
  refine CW.front (x := .own bl 3 [vint (l - 1)]) PK ?_
  refine CW.front (x := .own b13 53 [vint (acc.getD 0 0), vint (acc.getD 1 0), .slice none 0 0]) PK ?_
  refine CW.accNil 53 3 ?_
  refine CW.addRds (RdL.nil _) ?_
  refine CW.loopF (fun m Lc M1 Γc => ∃ (k : Nat) (dn : List Val) (lk : Int) (ak : Nat) (ua : Option Addr) (ca : Nat) (us : List Value), m = (acc.getD 2 0).toNat - k ∧ k ≤ (acc.getD 2 0).toNat ∧ Lc = [(58, vint k)] ∧ Γc = [.rds (dn.flatMap Val.enc) us, .acc (.slice ua k ca) 53 3 k us, .own b13 53 [vint (acc.getD 0 0), vint (acc.getD 1 0), .slice ua k ca], .own bl 3 [vint lk], .own ba 3 [vint (ak : Nat)]] ∧ 0 ≤ lk ∧ lk + k ≤ 256 ∧ ak ≤ b.length ∧ dn.length = k ∧ decL (decF b n) (acc.getD 2 0).toNat (l - 1) ai = dJoin dn (decL (decF b n) ((acc.getD 2 0).toNat - k) lk ak)) (acc.getD 2 0).toNat [(58, _)] [_, _, _, _, _] rfl rfl ⟨0, [], l - 1, ai, none, 0, [], rfl, Nat.zero_le _, rfl, rfl, by omega, by omega, hai, rfl, dJoin_nil _ _ _ _⟩ ?_
  rintro m Lc M1 Γc hs ⟨k, dn, lk, ak, ua, ca, us, rfl, hk, rfl, rfl, hlk0, hlk, hak, hdn, hz⟩
  refine CW.seq fun K24 hK24 => ?_
  refine CW.region ?_
  refine RL.q (Y.lss rfl rfl) rfl ?_
  refine RL.nil ?_
  refine hK24 _ _ _ ?_
  refine CW.kp [0, 4, 6, 13, 57, 58, 59] rfl ?_
  refine CW.seq fun K25 hK25 => ?_
  refine CW.ite rfl (fun h5 => ?_) (fun h5 => ?_)
  ·have hka : k < (acc.getD 2 0).toNat := by omega
   refine CW.skip ?_
   refine hK25 _ _ _ ?_
   refine CW.seq fun K26 hK26 => ?_
   refine CW.block ?_
   refine CW.seq fun K27 hK27 => ?_
   refine CW.region ?_
   refine RL.q (Y.loadOwn rfl MM (by rfl) flat96) rfl ?_
   refine RL.q (Y.move rfl) rfl ?_
   refine RL.q (Y.add rfl rfl OM) rfl ?_
   refine RL.callf rfl func62 rfl rfl rfl (CallOk.pick (x := .own bb 69 [.slice ab b.length cb]) PK (CallOk.pick (x := .own bf 96 [(.func (.func 62) #[] #[.pointer (some (adr (some ⟨bl, 0, none⟩) 0)), .pointer (some (adr (some ⟨bb, 0, none⟩) 0)), .pointer (some (adr (some ⟨ba, 0, none⟩) 0)), .pointer (some (adr (some ⟨bf, 0, none⟩) 0))])]) PK (CallOk.pick (x := .own ba 3 [vint (ak : Nat)]) PK (CallOk.pick (x := .own bl 3 [vint lk]) PK (ih n OM _ _ _ b ab cb (d + 1) lk ak bl ba bf bb OM OM hlk0 OM hak h256 (Rd.mono hs _ _ hb)))))) ?_
   rintro v64 M64 _ ⟨hs64, rfl, us64, rfl, hr64⟩
   refine RL.addRds hr64 ?_
   have hul64 : us64.length = 3 := hr64.1.trans (Val.enc_len _)
   refine RL.q (Y.move rfl) rfl ?_
   refine RL.q (Y.extract rfl rfl) rfl ?_
   refine RL.q (Y.extract rfl rfl) rfl ?_
   refine RL.alloc _ zero53 rfl rfl fun b14 => ?_
   refine RL.storeRds 3 rfl rfl RP MM EL (by first | exact Kn.lenRds MM EL | exact Kn.lenLit rfl) size53 ?_
   refine RL.q (Y.assign rfl) rfl ?_
   refine RL.nil ?_
   refine hK27 _ _ _ ?_
   refine CW.kp [0, 4, 6, 13, 14, 15, 57, 58] rfl ?_
   refine CW.seq fun K28 hK28 => ?_
   refine CW.seq fun K29 hK29 => ?_
   refine CW.region ?_
   refine RL.q (Y.move rfl) rfl ?_
   refine RL.q (Y.neq rfl rfl) rfl ?_
   refine RL.nil ?_
   refine hK29 _ _ _ ?_
   refine CW.kp [0, 4, 6, 13, 14, 15, 57, 58, 68] rfl ?_
   refine CW.ite rfl (fun h6 => ?_) (fun h6 => ?_)
   ·refine CW.seq fun K30 hK30 => ?_
    refine CW.region ?_
    refine RL.q (Y.build [_, _, _] rfl zero53 places53 (by rfl)) rfl ?_
    refine RL.q (Y.move rfl) rfl ?_
    refine RL.storeAgg _ rfl rfl RP (by rfl) (by first | (simp; done) | simp [IdT.vals]) (by first | (simp [Value.oneCell']; done) | simp [Value.oneCell', IdT.vals]) size53 ?_
    refine RL.q (Y.assign rfl) rfl ?_
    refine RL.nil ?_
    refine hK30 _ _ _ ?_
    refine CW.kp [6, 7] rfl ?_
    refine CW.ret ?_
    have e : decF b (n + 1) l a = (v0, (decF b n lk ak).2.1, (decF b n lk ak).2.2.1, (decF b n lk ak).2.2.2) := by
      rw [decF, if_neg hl1, hne, decN, if_neg (by simp), if_neg h4]
      simp only
      rw [dJoin_err OM hz h6, dNode, if_pos h6]
    refine ⟨_, rfl, ?_⟩
    exact CellAt.mk rfl MM (by first | rfl | assumption) agg53 (Turn.drop ⟨hs.trans hs64, by rw [e], _, by rw [e], by rw [e]; exact (by rw [Val.enc_eq]; exact (by repeat (first | exact RdL.nil _ | refine RdL.cons (by first | exact Rd.i _ | exact Rd.nilS | exact Rd.str _ | assumption) ?_)))⟩ SB)
   refine CW.skip ?_
   refine hK28 _ _ _ ?_
   refine CW.region ?_
   refine RL.q (Y.field rfl field53_2) rfl ?_
   refine RL.q (Y.loadOwn rfl MM (by rfl) flat51) rfl ?_
   refine RL.q (Y.loadAllR rfl MM MM EL agg53) rfl ?_
   refine RL.buildSlice us64 elem51 rfl (by decide) (fill1 rfl hul64) rfl fun b74 => ?_
   refine RL.append elem51 rfl rfl PK (SrcOk.own (sz := 3) (m := 1) MM (by simp [hul64]) hr64.one) OM (by unfold lim; omega) rfl fun a75 c75 hc75 => ?_
   refine RL.q (Y.field rfl field53_2) rfl ?_
   refine RL.store _ rfl rfl RP (by rfl) (by simp) (by rfl) size51 ?_
   refine RL.nil ?_
   refine hK26 _ _ _ ?_
   refine CW.kp [0, 4, 6, 13, 57, 58] rfl ?_
   refine CW.region ?_
   refine RL.q (Y.add rfl rfl OM) rfl ?_
   refine RL.q (Y.move rfl) rfl ?_
   refine RL.nil ?_
   refine ⟨(acc.getD 2 0).toNat - (k + 1), [(58, _)], ?_, (KP [58, 0, 4, 6, 13, 57]), ?_⟩
   · omega
   · refine Turn.kn (Kn.rds (ds := dn.flatMap Val.enc) (us := us) MM) fun hrd => ?_
     refine Turn.front (x := .own b13 53 _) PK ?_
     refine Turn.front (x := .acc (.slice a75 (k + 1) c75) 53 3 (k + 1) (us ++ us64)) PK ?_
     refine Turn.addRds (hrd.append hr64) ?_
     have hlf := decF_left b n lk ak hak
     have hlf2 := hlf.2 (Decidable.not_not.1 h6)
     exact Turn.drop ⟨[_, _, _, _, _], rfl, hs.trans hs64, k + 1, dn ++ [(decF b n lk ak).1], (decF b n lk ak).2.2.1, (decF b n lk ak).2.2.2, a75, c75, us ++ us64, rfl, by omega, rfl, by rw [snoc_flat] <;> rfl, hlf2.1, by have := hlf2.2; omega, hlf.1, by simp [hdn], dJoin_step OM hz h6⟩ SB
  refine CW.exit ?_
  refine hK22 _ _ _ ?_
  refine CW.seq fun K31 hK31 => ?_
  refine CW.region ?_
  refine RL.q (Y.loadAll rfl MM (by rfl) agg53) rfl ?_
  refine RL.storeAgg _ rfl rfl RP (by rfl) (by first | (simp; done) | simp [IdT.vals]) (by first | (simp [Value.oneCell']; done) | simp [Value.oneCell', IdT.vals]) size53 ?_
  refine RL.q (Y.assign rfl) rfl ?_
  refine RL.nil ?_
  refine hK31 _ _ _ ?_
  refine CW.kp [6, 7] rfl ?_
  refine CW.ret ?_
  have e : decF b (n + 1) l a = (.mk (acc.getD 0 0) (acc.getD 1 0) dn, 0, lk, ak) := by
    rw [decF, if_neg hl1, hne, decN, if_neg (by simp), if_neg h4]
    simp only
    rw [dJoin_end OM hz, dNode, if_neg (by simp)]
  refine ⟨_, rfl, ?_⟩
  refine CellAt.mk rfl MM (by first | rfl | assumption) agg53 (Turn.kn (Kn.rds (ds := dn.flatMap Val.enc) (us := us) MM) fun hrd => ?_)
  exact Turn.sealAcc (Γ := .own bl 3 [vint lk] :: .own ba 3 [vint (ak : Nat)] :: .own bf 96 [(.func (.func 62) #[] #[.pointer (some (adr (some ⟨bl, 0, none⟩) 0)), .pointer (some (adr (some ⟨bb, 0, none⟩) 0)), .pointer (some (adr (some ⟨ba, 0, none⟩) 0)), .pointer (some (adr (some ⟨bf, 0, none⟩) 0))])] :: .own bb 69 [.slice ab b.length cb] :: Γ) (u := .slice ua k ca) PK hrd (by unfold lim; omega) SB fun M2 hs2 hr2 => ⟨hs.trans hs2, by rw [e], _, by rw [e], by rw [e, Val.enc_eq]; exact RdL.cons (Rd.i _) (RdL.cons (Rd.i _) (RdL.cons (by simpa [Val.kids, hdn] using hr2) (RdL.nil _)))⟩
end Go.Proofs.Ytfgkhhfkodlbpaa
