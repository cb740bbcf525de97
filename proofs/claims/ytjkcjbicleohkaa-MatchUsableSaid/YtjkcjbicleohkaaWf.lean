/- THE WALKS, 6: small functions of the statements and of the generator. Printed by m16f.py. -/
import Derived.Test.YtjkcjbicleohkaaWe
namespace Go.Proofs.Ytjkcjbicleohkaa
open Xe

theorem plain_ok (w0 : World) (M : Mem) (Γ : List As) (l : List PairD) (u : Value) (hu : Rd M (PairD.encs l) u) (hl : l.length ≤ 1000000) :
    CallOk Try.prog w0 M Γ 16 #[u] (Gives M Γ fun M' v => Rd M' (PairD.encs l) v) := by
  obtain ⟨a1, c1, rfl, hc1, hlim1, hlen1⟩ := hu.slice
  refine enter (f := 16) Try.func16 rfl Try.ntmps16 rfl rfl fun w1 hw1 => ?_
  refine CW.addRd hu ?_
  refine CW.accNil 83 6 ?_
  refine CW.seq fun K1 hK1 => ?_
  refine CW.region ?_
  refine RL.q (Y.assign rfl) rfl ?_
  refine RL.nil ?_
  refine hK1 _ _ _ ?_
  refine CW.keep (Keep.cons 0 rfl (Keep.nil _)) ?_
  refine CW.seq fun K2 hK2 => ?_
  refine CW.region ?_
  refine RL.q (Y.assign rfl) rfl ?_
  refine RL.nil ?_
  refine hK2 _ _ _ ?_
  refine CW.keep (Keep.cons 0 rfl (Keep.cons 3 rfl (Keep.nil _))) ?_
  refine CW.seq fun K3 hK3 => ?_
  refine CW.seq fun K4 hK4 => ?_
  refine CW.region ?_
  refine RL.q (Y.assign rfl) rfl ?_
  refine RL.nil ?_
  refine hK4 _ _ _ ?_
  refine CW.keep (Keep.cons 0 rfl (Keep.cons 3 rfl (Keep.cons 4 rfl (Keep.nil _)))) ?_
  refine CW.block ?_
  -- LOOP 1: live [0, 3, 4] changed [3, 4]
  refine CW.keep (Keep.cons 3 rfl (Keep.cons 4 rfl (Keep.cons 0 rfl (Keep.nil _)))) ?_
  refine CW.loopF (fun m Lc M1 Γc => ∃ (k : Nat) (a3 : Option Addr) (c3 : Nat) (us : List Value), m = l.length - k ∧ k ≤ l.length ∧ Lc = [(3, .slice a3 k c3), (4, vint k)] ∧ Γc = [.acc (.slice a3 k c3) 83 6 k us] ∧ M1 = M ∧ RdL M ((l.take k).flatMap PairD.enc) us) l.length [(3, _), (4, _)] [.acc _ _ _ _ _] rfl rfl ⟨0, none, 0, [], rfl, Nat.zero_le _, rfl, rfl, rfl, RdL.nil _⟩ ?_
  rintro m Lc M1 Γc hsub ⟨k, a3, c3, us, rfl, hk, rfl, rfl, rfl, hus⟩
  refine CW.seq fun K5 hK5 => ?_
  refine CW.seq fun K6 hK6 => ?_
  refine CW.region ?_
  refine RL.q (Y.move rfl) rfl ?_
  refine RL.q (Y.move rfl) rfl ?_
  refine RL.q (Y.len rfl Try.underlying34) rfl ?_
  refine RL.q (Y.lss rfl rfl) rfl ?_
  refine RL.nil ?_
  refine hK6 _ _ _ ?_
  refine CW.keep (Keep.cons 0 rfl (Keep.cons 3 rfl (Keep.cons 4 rfl (Keep.cons 8 rfl (Keep.nil _))))) ?_
  refine CW.ite rfl (fun h1 => ?_) (fun h1 => ?_)
  · have hka : k < l.length := by omega
    have hn := List.getElem?_eq_getElem hka
    refine CW.skip ?_
    refine hK5 _ _ _ ?_
    refine CW.seq fun K7 hK7 => ?_
    refine CW.block ?_
    refine CW.regionHP mix (x := .acc _ _ _ _ _) (by repeat (first | exact Pick.here _ | apply Pick.there)) ?_
    refine HL.take 0 rfl (by kernel_rfl) (by kernel_rfl) (by kernel_rfl) rfl (Y.move rfl) rfl ?_
    refine HL.take 1 rfl (by kernel_rfl) (by kernel_rfl) (by kernel_rfl) rfl (Y.move rfl) rfl ?_
    refine HL.take 2 rfl (by kernel_rfl) (by kernel_rfl) (by kernel_rfl) rfl (Y.move rfl) rfl ?_
    refine HL.take 3 rfl (by kernel_rfl) (by kernel_rfl) (by kernel_rfl) rfl (Y.index k rfl rfl rfl hka slice34 (fun _ hw => hw.rd_some (by repeat (first | exact List.Mem.head _ | apply List.Mem.tail)) (by omega))) rfl ?_
    refine HL.take 4 rfl (by kernel_rfl) (by kernel_rfl) (by kernel_rfl) rfl (Y.field rfl field51_0) rfl ?_
    refine HL.take 5 rfl (by kernel_rfl) (by kernel_rfl) (by kernel_rfl) rfl (Y.loadAggRd (l[k].frm.vals) rfl (by repeat (first | exact List.Mem.head _ | apply List.Mem.tail)) (by rw [show (l[k].frm.vals).length = 3 from rfl, flat_sub PairD.enc_len _ k _ hn 0 3 (by decide)]; rfl) agg24) rfl ?_
    refine HL.take 6 rfl (by kernel_rfl) (by kernel_rfl) (by kernel_rfl) rfl (Y.move rfl) rfl ?_
    refine HL.take 7 rfl (by kernel_rfl) (by kernel_rfl) (by kernel_rfl) rfl (Y.move rfl) rfl ?_
    refine HL.take 8 rfl (by kernel_rfl) (by kernel_rfl) (by kernel_rfl) rfl (Y.index k rfl rfl rfl hka slice34 (fun _ hw => hw.rd_some (by repeat (first | exact List.Mem.head _ | apply List.Mem.tail)) (by omega))) rfl ?_
    refine HL.take 9 rfl (by kernel_rfl) (by kernel_rfl) (by kernel_rfl) rfl (Y.field rfl field51_1) rfl ?_
    refine HL.take 10 rfl (by kernel_rfl) (by kernel_rfl) (by kernel_rfl) rfl (Y.loadAggRd (l[k].to.vals) rfl (by repeat (first | exact List.Mem.head _ | apply List.Mem.tail)) (by rw [show (l[k].to.vals).length = 3 from rfl, flat_sub PairD.enc_len _ k _ hn 3 3 (by decide)]; rfl) agg24) rfl ?_
    refine HL.take 11 rfl (by kernel_rfl) (by kernel_rfl) (by kernel_rfl) rfl (Y.build (l[k].vals) rfl zero83 places83 (by rfl)) rfl ?_
    refine HL.step 12 rfl (by kernel_rfl) ?_
    refine RL.buildSlice (l[k].vals) elem42 rfl (by decide) (fill1 rfl rfl) rfl fun b23 => ?_
    refine RL.nil ⟨keep_same (by repeat (first | exact List.Sublist.refl _ | apply List.Sublist.cons_cons | apply List.Sublist.cons)), ?_⟩
    refine HL.step 13 rfl (by kernel_rfl) ?_
    refine RL.append elem42 rfl rfl (by repeat (first | exact Pick.here _ | apply Pick.there)) (SrcOk.own (by repeat (first | exact List.Mem.head _ | apply List.Mem.tail)) (by rfl) (RdL.one (M := fun _ => none) (PairD.rd l[k]))) (by first | omega | (unfold lim; omega)) (by first | omega | (unfold lim; omega)) rfl fun a24 c24 hc24 => ?_
    refine RL.nil ⟨keep_same (by repeat (first | exact List.Sublist.refl _ | apply List.Sublist.cons_cons | apply List.Sublist.cons)), ?_⟩
    refine HL.take 14 rfl (by kernel_rfl) (by kernel_rfl) (by kernel_rfl) rfl (Y.assign rfl) rfl ?_
    refine HL.done (by kernel_rfl) ?_
    refine hK7 _ _ _ ?_
    refine CW.keep (Keep.cons 0 rfl (Keep.cons 3 rfl (Keep.cons 4 rfl (Keep.nil _)))) ?_
    refine CW.region ?_
    refine RL.q (Y.move rfl) rfl ?_
    refine RL.q (Y.add rfl rfl (by omega)) rfl ?_
    refine RL.q (Y.assign rfl) rfl ?_
    refine RL.nil ?_
    refine ⟨l.length - (k + 1), [(3, _), (4, _)], ?_, (Keep.cons 3 rfl (Keep.cons 4 rfl (Keep.cons 0 rfl (Keep.nil _)))), ?_⟩
    · omega
    · exact Turn.drop ⟨[_], rfl, hsub, k + 1, _, _, _, rfl, by omega, rfl, rfl, rfl, by rw [flat_snoc PairD.enc l k hka]; exact hus.append (PairD.rd _)⟩ (by repeat (first | exact List.Sublist.refl _ | apply List.Sublist.cons_cons | apply List.Sublist.cons))
  · refine CW.exit ?_
    refine hK3 _ _ _ ?_
    refine CW.seq fun K8 hK8 => ?_
    refine CW.region ?_
    refine RL.q (Y.move rfl) rfl ?_
    refine RL.q (Y.assign rfl) rfl ?_
    refine RL.nil ?_
    refine hK8 _ _ _ ?_
    refine CW.keep (Keep.cons 2 rfl (Keep.nil _)) ?_
    refine CW.ret ?_
    refine ⟨_, rfl, ?_⟩
    have hk2 : k = l.length := by omega
    subst hk2
    rw [List.take_length] at hus
    exact Turn.sealAcc (by repeat (first | exact Pick.here _ | apply Pick.there)) hus (by unfold lim; omega) (by repeat (first | exact List.Sublist.refl _ | apply List.Sublist.cons_cons | apply List.Sublist.cons)) fun M' h1 h2 => ⟨h1, rfl, h2⟩

theorem sameTab_ok (w0 : World) (M : Mem) (Γ : List As) (a b : List (List Int)) (u v : Value) (hu : Rd M (dtab a) u) (hv : Rd M (dtab b) v) :
    CallOk Try.prog w0 M Γ 18 #[u, v] (Is M Γ (.bool (decide (a = b)))) := by
  obtain ⟨a1, c1, rfl, hc1, hlim1, hlen1⟩ := hu.slice
  obtain ⟨a2, c2, rfl, hc2, hlim2, hlen2⟩ := hv.slice
  refine enter (f := 18) Try.func18 rfl Try.ntmps18 rfl rfl fun w1 hw1 => ?_
  refine CW.addRd hu ?_
  refine CW.addRd hv ?_
  refine CW.seq fun K1 hK1 => ?_
  refine CW.region ?_
  refine RL.q (Y.assign rfl) rfl ?_
  refine RL.nil ?_
  refine hK1 _ _ _ ?_
  refine CW.keep (Keep.cons 0 rfl (Keep.cons 1 rfl (Keep.nil _))) ?_
  refine CW.seq fun K2 hK2 => ?_
  refine CW.seq fun K3 hK3 => ?_
  refine CW.region ?_
  refine RL.q (Y.move rfl) rfl ?_
  refine RL.q (Y.len rfl Try.underlying35) rfl ?_
  refine RL.q (Y.move rfl) rfl ?_
  refine RL.q (Y.len rfl Try.underlying35) rfl ?_
  refine RL.q (Y.neq rfl rfl) rfl ?_
  refine RL.nil ?_
  refine hK3 _ _ _ ?_
  refine CW.keep (Keep.cons 0 rfl (Keep.cons 1 rfl (Keep.cons 10 rfl (Keep.nil _)))) ?_
  refine CW.ite rfl (fun h1 => ?_) (fun h1 => ?_)
  · refine CW.seq fun K4 hK4 => ?_
    refine CW.region ?_
    refine RL.q (Y.assign rfl) rfl ?_
    refine RL.nil ?_
    refine hK4 _ _ _ ?_
    refine CW.keep (Keep.cons 4 rfl (Keep.nil _)) ?_
    refine CW.ret ?_
    exact ⟨_, rfl, Turn.drop ⟨by rw [decide_eq_false (fun e => h1 (by rw [e]))], rfl, rfl⟩ (by repeat (first | exact List.Sublist.refl _ | apply List.Sublist.cons_cons | apply List.Sublist.cons))⟩
  · refine CW.skip ?_
    refine hK2 _ _ _ ?_
    refine CW.seq fun K5 hK5 => ?_
    refine CW.seq fun K6 hK6 => ?_
    refine CW.region ?_
    refine RL.q (Y.assign rfl) rfl ?_
    refine RL.nil ?_
    refine hK6 _ _ _ ?_
    refine CW.keep (Keep.cons 0 rfl (Keep.cons 1 rfl (Keep.cons 5 rfl (Keep.nil _)))) ?_
    refine CW.block ?_
    -- LOOP 1: live [0, 1, 5] changed [5]
    refine CW.keep (Keep.cons 5 rfl (Keep.cons 0 rfl (Keep.cons 1 rfl (Keep.nil _)))) ?_
    refine CW.loopF (fun m Lc M1 Γc => ∃ k : Nat, m = a.length - k ∧ k ≤ a.length ∧ Lc = [(5, vint k)] ∧ Γc = [] ∧ M1 = M ∧ a.take k = b.take k) a.length [(5, _)] [] rfl rfl ⟨0, rfl, Nat.zero_le _, rfl, rfl, rfl, rfl⟩ ?_
    rintro m Lc M1 Γc hs ⟨k, rfl, hk, rfl, rfl, rfl, hT⟩
    refine CW.seq fun K7 hK7 => ?_
    refine CW.seq fun K8 hK8 => ?_
    refine CW.region ?_
    refine RL.q (Y.move rfl) rfl ?_
    refine RL.q (Y.move rfl) rfl ?_
    refine RL.q (Y.len rfl Try.underlying35) rfl ?_
    refine RL.q (Y.lss rfl rfl) rfl ?_
    refine RL.nil ?_
    refine hK8 _ _ _ ?_
    refine CW.keep (Keep.cons 0 rfl (Keep.cons 1 rfl (Keep.cons 5 rfl (Keep.cons 14 rfl (Keep.nil _))))) ?_
    refine CW.ite rfl (fun h2 => ?_) (fun h2 => ?_)
    · have hka : k < a.length := by omega
      have hkb : k < b.length := by omega
      refine CW.skip ?_
      refine hK7 _ _ _ ?_
      refine CW.seq fun K9 hK9 => ?_
      refine CW.block ?_
      refine CW.seq fun K10 hK10 => ?_
      refine CW.regionQ mix (by kernel_rfl) ?_
      refine QL.q (Y.move rfl) rfl ?_
      refine QL.q (Y.move rfl) rfl ?_
      refine QL.q (Y.index k rfl rfl rfl hka slice35 (fun _ hw => hw.rd_some (by repeat (first | exact List.Mem.head _ | apply List.Mem.tail)) (by omega))) rfl ?_
      refine QL.loadSl rfl rfl (by repeat (first | exact List.Mem.head _ | apply List.Mem.tail)) (dtab_get (List.getElem?_eq_getElem hka)) flat22 rfl fun a20 c20 hc20 hl20 => ?_
      refine QL.q (Y.move rfl) rfl ?_
      refine QL.q (Y.move rfl) rfl ?_
      refine QL.q (Y.index k rfl rfl rfl hkb slice35 (fun _ hw => hw.rd_some (by repeat (first | exact List.Mem.head _ | apply List.Mem.tail)) (by omega))) rfl ?_
      refine QL.loadSl rfl rfl (by repeat (first | exact List.Mem.head _ | apply List.Mem.tail)) (dtab_get (List.getElem?_eq_getElem hkb)) flat22 rfl fun a24 c24 hc24 hl24 => ?_
      refine QL.know (fun w hw => And.intro (hw.rd (d := dints a[k]) (u := .slice a20 a[k].length c20) (by repeat (first | exact List.Mem.head _ | apply List.Mem.tail))) (hw.rd (d := dints b[k]) (u := .slice a24 b[k].length c24) (by repeat (first | exact List.Mem.head _ | apply List.Mem.tail)))) fun hk => ?_
      refine QL.callv rfl func42 rfl rfl (fun _ _ => sameInts_ok _ _ _ _ _ _ _ hk.1 hk.2) ?_
      refine QL.q (Y.notD rfl) rfl ?_
      refine QL.nil ?_
      refine hK10 _ _ _ ?_
      refine CW.keep (Keep.cons 0 rfl (Keep.cons 1 rfl (Keep.cons 5 rfl (Keep.cons 26 rfl (Keep.nil _))))) ?_
      refine CW.ite rfl (fun h3 => ?_) (fun h3 => ?_)
      · refine CW.seq fun K11 hK11 => ?_
        refine CW.region ?_
        refine RL.q (Y.assign rfl) rfl ?_
        refine RL.nil ?_
        refine hK11 _ _ _ ?_
        refine CW.keep (Keep.cons 4 rfl (Keep.nil _)) ?_
        refine CW.ret ?_
        exact ⟨_, rfl, Turn.drop ⟨by rw [decide_eq_false (fun e => h3 (by simp [e]))], rfl, rfl⟩ (by repeat (first | exact List.Sublist.refl _ | apply List.Sublist.cons_cons | apply List.Sublist.cons))⟩
      · refine CW.skip ?_
        refine hK9 _ _ _ ?_
        refine CW.region ?_
        refine RL.q (Y.move rfl) rfl ?_
        refine RL.q (Y.add rfl rfl (by omega)) rfl ?_
        refine RL.q (Y.assign rfl) rfl ?_
        refine RL.nil ?_
        refine ⟨a.length - (k + 1), [(5, _)], ?_, (Keep.cons 5 rfl (Keep.cons 0 rfl (Keep.cons 1 rfl (Keep.nil _)))), ?_⟩
        · omega
        · exact Turn.drop ⟨[], rfl, hs, k + 1, rfl, by omega, rfl, rfl, rfl, by rw [List.take_succ_eq_append_getElem hka, List.take_succ_eq_append_getElem hkb, hT, Decidable.not_not.1 h3]⟩ (by repeat (first | exact List.Sublist.refl _ | apply List.Sublist.cons_cons | apply List.Sublist.cons))
    · refine CW.exit ?_
      refine hK5 _ _ _ ?_
      refine CW.seq fun K12 hK12 => ?_
      refine CW.region ?_
      refine RL.q (Y.assign rfl) rfl ?_
      refine RL.nil ?_
      refine hK12 _ _ _ ?_
      refine CW.keep (Keep.cons 4 rfl (Keep.nil _)) ?_
      refine CW.ret ?_
      exact ⟨_, rfl, Turn.drop ⟨by rw [decide_eq_true (take_all_eq hk hT (by omega) (by omega))], rfl, rfl⟩ (by repeat (first | exact List.Sublist.refl _ | apply List.Sublist.cons_cons | apply List.Sublist.cons))⟩

theorem even_ok (w0 : World) (M : Mem) (Γ : List As) (a : List (List Int)) (u : Value) (hu : Rd M (dtab a) u) :
    CallOk Try.prog w0 M Γ 24 #[u] (Is M Γ (.bool (decide (evenT a)))) := by
  obtain ⟨a1, c1, rfl, hc1, hlim1, hlen1⟩ := hu.slice
  refine enter (f := 24) Try.func24 rfl Try.ntmps24 rfl rfl fun w1 hw1 => ?_
  refine CW.addRd hu ?_
  refine CW.seq fun K1 hK1 => ?_
  refine CW.region ?_
  refine RL.q (Y.assign rfl) rfl ?_
  refine RL.nil ?_
  refine hK1 _ _ _ ?_
  refine CW.keep (Keep.cons 0 rfl (Keep.nil _)) ?_
  refine CW.seq fun K2 hK2 => ?_
  refine CW.seq fun K3 hK3 => ?_
  refine CW.region ?_
  refine RL.q (Y.assign rfl) rfl ?_
  refine RL.nil ?_
  refine hK3 _ _ _ ?_
  refine CW.keep (Keep.cons 0 rfl (Keep.cons 3 rfl (Keep.nil _))) ?_
  refine CW.block ?_
  -- LOOP 1: live [0, 3] changed [3]
  refine CW.keep (Keep.cons 3 rfl (Keep.cons 0 rfl (Keep.nil _))) ?_
  refine CW.loopF (fun m Lc M1 Γc => ∃ k : Nat, m = a.length - k ∧ k ≤ a.length ∧ Lc = [(3, vint k)] ∧ Γc = [] ∧ M1 = M ∧ ∀ j (hj : j < a.length), j < k → a[j].length = (a[0]'(by omega)).length ∧ a[j].length ≠ 0) a.length [(3, _)] [] rfl rfl ⟨0, rfl, Nat.zero_le _, rfl, rfl, rfl, fun _ _ h => absurd h (Nat.not_lt_zero _)⟩ ?_
  rintro m Lc M1 Γc hs ⟨k, rfl, hk, rfl, rfl, rfl, hT⟩
  refine CW.seq fun K4 hK4 => ?_
  refine CW.seq fun K5 hK5 => ?_
  refine CW.region ?_
  refine RL.q (Y.move rfl) rfl ?_
  refine RL.q (Y.move rfl) rfl ?_
  refine RL.q (Y.len rfl Try.underlying35) rfl ?_
  refine RL.q (Y.lss rfl rfl) rfl ?_
  refine RL.nil ?_
  refine hK5 _ _ _ ?_
  refine CW.keep (Keep.cons 0 rfl (Keep.cons 3 rfl (Keep.cons 7 rfl (Keep.nil _)))) ?_
  refine CW.ite rfl (fun h1 => ?_) (fun h1 => ?_)
  · have hka : k < a.length := by omega
    have h0a : 0 < a.length := by omega
    refine CW.skip ?_
    refine hK4 _ _ _ ?_
    refine CW.seq fun K6 hK6 => ?_
    refine CW.block ?_
    refine CW.seq fun K7 hK7 => ?_
    refine CW.regionQ mix (by kernel_rfl) ?_
    refine QL.q (Y.move rfl) rfl ?_
    refine QL.q (Y.move rfl) rfl ?_
    refine QL.q (Y.index k rfl rfl rfl hka slice35 (fun _ hw => hw.rd_some (by repeat (first | exact List.Mem.head _ | apply List.Mem.tail)) (by omega))) rfl ?_
    refine QL.loadSl rfl rfl (by repeat (first | exact List.Mem.head _ | apply List.Mem.tail)) (dtab_get (List.getElem?_eq_getElem hka)) flat22 rfl fun a13 c13 hc13 hl13 => ?_
    refine QL.q (Y.len rfl Try.underlying22) rfl ?_
    refine QL.q (Y.move rfl) rfl ?_
    refine QL.q (Y.index 0 rfl rfl rfl h0a slice35 (fun _ hw => hw.rd_some (by repeat (first | exact List.Mem.head _ | apply List.Mem.tail)) (by omega))) rfl ?_
    refine QL.loadSl rfl rfl (by repeat (first | exact List.Mem.head _ | apply List.Mem.tail)) (dtab_get (List.getElem?_eq_getElem h0a)) flat22 rfl fun a17 c17 hc17 hl17 => ?_
    refine QL.q (Y.len rfl Try.underlying22) rfl ?_
    refine QL.qs (Y.neq rfl rfl) rfl (fun g19 => ?_) (fun g19 => ?_)
    · refine QL.q (Y.move rfl) rfl ?_
      refine QL.no ⟨_, _, rfl, rfl, rfl⟩ rfl ?_
      refine QL.no ⟨_, _, rfl, rfl, rfl⟩ rfl ?_
      refine QL.no ⟨_, _, rfl, rfl, rfl⟩ rfl ?_
      refine QL.no ⟨_, _, rfl, rfl, rfl⟩ rfl ?_
      refine QL.no ⟨_, _, rfl, rfl, rfl⟩ rfl ?_
      refine QL.no ⟨_, _, rfl, rfl, rfl⟩ rfl ?_
      refine QL.q (Y.pickT rfl rfl) rfl ?_
      refine QL.nil ?_
      refine hK7 _ _ _ ?_
      refine CW.keep (Keep.cons 0 rfl (Keep.cons 3 rfl (Keep.cons 27 rfl (Keep.nil _)))) ?_
      refine CW.yes rfl ?_
      refine CW.seq fun K8 hK8 => ?_
      refine CW.region ?_
      refine RL.q (Y.assign rfl) rfl ?_
      refine RL.nil ?_
      refine hK8 _ _ _ ?_
      refine CW.keep (Keep.cons 2 rfl (Keep.nil _)) ?_
      refine CW.ret ?_
      exact ⟨_, rfl, Turn.drop ⟨vbF (fun e => by have := (evenT_iff h0a).1 e k hka; omega), rfl, rfl⟩ (by repeat (first | exact List.Sublist.refl _ | apply List.Sublist.cons_cons | apply List.Sublist.cons))⟩
    · refine QL.q (Y.move rfl) rfl ?_
      refine QL.qg ⟨_, _, rfl, rfl, rfl⟩ (Y.move rfl) rfl ?_
      refine QL.qg ⟨_, _, rfl, rfl, rfl⟩ (Y.move rfl) rfl ?_
      refine QL.qg ⟨_, _, rfl, rfl, rfl⟩ (Y.index k rfl rfl rfl hka slice35 (fun _ hw => hw.rd_some (by repeat (first | exact List.Mem.head _ | apply List.Mem.tail)) (by omega))) rfl ?_
      refine QL.loadSl ⟨_, _, rfl, rfl, rfl⟩ rfl (by repeat (first | exact List.Mem.head _ | apply List.Mem.tail)) (dtab_get (List.getElem?_eq_getElem hka)) flat22 rfl fun a24 c24 hc24 hl24 => ?_
      refine QL.qg ⟨_, _, rfl, rfl, rfl⟩ (Y.len rfl Try.underlying22) rfl ?_
      refine QL.qg ⟨_, _, rfl, rfl, rfl⟩ (Y.eql rfl rfl) rfl ?_
      refine QL.q (Y.pickF rfl rfl) rfl ?_
      refine QL.nil ?_
      refine hK7 _ _ _ ?_
      refine CW.keep (Keep.cons 0 rfl (Keep.cons 3 rfl (Keep.cons 27 rfl (Keep.nil _)))) ?_
      refine CW.ite rfl (fun h3 => ?_) (fun h3 => ?_)
      · refine CW.seq fun K9 hK9 => ?_
        refine CW.region ?_
        refine RL.q (Y.assign rfl) rfl ?_
        refine RL.nil ?_
        refine hK9 _ _ _ ?_
        refine CW.keep (Keep.cons 2 rfl (Keep.nil _)) ?_
        refine CW.ret ?_
        exact ⟨_, rfl, Turn.drop ⟨vbF (fun e => by have := (evenT_iff h0a).1 e k hka; omega), rfl, rfl⟩ (by repeat (first | exact List.Sublist.refl _ | apply List.Sublist.cons_cons | apply List.Sublist.cons))⟩
      · refine CW.skip ?_
        refine hK6 _ _ _ ?_
        refine CW.region ?_
        refine RL.q (Y.move rfl) rfl ?_
        refine RL.q (Y.add rfl rfl (by omega)) rfl ?_
        refine RL.q (Y.assign rfl) rfl ?_
        refine RL.nil ?_
        refine ⟨a.length - (k + 1), [(3, _)], ?_, (Keep.cons 3 rfl (Keep.cons 0 rfl (Keep.nil _))), ?_⟩
        · omega
        · exact Turn.drop ⟨[], rfl, hs, k + 1, rfl, by omega, rfl, rfl, rfl, all_step (p := fun x => x.length = (a[0]'(by omega)).length ∧ x.length ≠ 0) hT hka ⟨by omega, by omega⟩⟩ (by repeat (first | exact List.Sublist.refl _ | apply List.Sublist.cons_cons | apply List.Sublist.cons))
  · refine CW.exit ?_
    refine hK2 _ _ _ ?_
    refine CW.seq fun K10 hK10 => ?_
    refine CW.region ?_
    refine RL.q (Y.move rfl) rfl ?_
    refine RL.q (Y.len rfl Try.underlying35) rfl ?_
    refine RL.q (Y.gtr rfl rfl) rfl ?_
    refine RL.q (Y.assign rfl) rfl ?_
    refine RL.nil ?_
    refine hK10 _ _ _ ?_
    refine CW.keep (Keep.cons 2 rfl (Keep.nil _)) ?_
    refine CW.ret ?_
    by_cases h0 : 0 < a.length
    exact ⟨_, rfl, Turn.drop ⟨vb ⟨fun _ => (evenT_iff h0).2 (fun j hj => hT j hj (by omega)), fun _ => by omega⟩, rfl, rfl⟩ (by repeat (first | exact List.Sublist.refl _ | apply List.Sublist.cons_cons | apply List.Sublist.cons))⟩
    exact ⟨_, rfl, Turn.drop ⟨vb ⟨fun _ => by omega, fun e => absurd (List.eq_nil_of_length_eq_zero (by omega)) e.1⟩, rfl, rfl⟩ (by repeat (first | exact List.Sublist.refl _ | apply List.Sublist.cons_cons | apply List.Sublist.cons))⟩

theorem msize_ok (N : Nat) : ∀ (w0 : World) (M : Mem) (Γ : List As) (e : Ex) (us : List Value), e.size = N → RdL M e.enc us → e.size ≤ 4611686018427387904 →
    CallOk Try.prog w0 M Γ 19 #[.agg us.toArray] (Is M Γ (vint e.size)) := by
  induction N using Nat.strongRecOn
  rename_i N ih
  intro w0 M Γ e us he hus hb
  have hus0 := hus
  rw [Ex.enc_eq] at hus
  have hse := Ex.size_eq e
  refine enter (f := 19) Try.func19 rfl Try.ntmps19 rfl rfl fun w1 hw1 => ?_
  refine CW.addRds hus ?_
  refine CW.seq fun K1 hK1 => ?_
  refine CW.region ?_
  refine RL.box _ rfl rfl rfl fun b1 => ?_
  refine RL.q (Y.assign rfl) rfl ?_
  refine RL.nil ?_
  refine hK1 _ _ _ ?_
  refine CW.keep (Keep.cons 1 rfl (Keep.nil _)) ?_
  refine CW.seq fun K2 hK2 => ?_
  refine CW.region ?_
  refine RL.q (Y.assign rfl) rfl ?_
  refine RL.nil ?_
  refine hK2 _ _ _ ?_
  refine CW.keep (Keep.cons 1 rfl (Keep.cons 3 rfl (Keep.nil _))) ?_
  refine CW.seq fun K3 hK3 => ?_
  refine CW.seq fun K4 hK4 => ?_
  refine CW.region ?_
  refine RL.q (Y.field rfl field31_5) rfl ?_
  refine RL.loadOwnSl rfl rfl (by repeat (first | exact List.Mem.head _ | apply List.Mem.tail)) (by repeat (first | exact List.Mem.head _ | apply List.Mem.tail)) (by rfl) flat28 rfl fun a7 c7 hu7 hc7 hl7 => ?_
  refine RL.q (Y.len rfl Try.underlying28) rfl ?_
  refine RL.q (Y.move rfl) rfl ?_
  refine RL.nil ?_
  refine hK4 _ _ _ ?_
  refine CW.keep (Keep.cons 3 rfl (Keep.cons 7 rfl (Keep.cons 8 rfl (Keep.cons 9 rfl (Keep.nil _))))) ?_
  refine CW.block ?_
  -- LOOP 1: live [3, 7, 8, 9] changed [3, 9]
  refine CW.keep (Keep.cons 3 rfl (Keep.cons 9 rfl (Keep.cons 7 rfl (Keep.cons 8 rfl (Keep.nil _))))) ?_
  refine CW.loopF (fun m Lc M1 Γc => ∃ k : Nat, m = e.kids.length - k ∧ k ≤ e.kids.length ∧ Lc = [(3, vint ((1 + Ex.sizes (e.kids.take k) : Nat) : Int)), (9, vint k)] ∧ Γc = [] ∧ M1 = M) e.kids.length [(3, _), (9, _)] [] rfl rfl ⟨0, rfl, Nat.zero_le _, rfl, rfl, rfl⟩ ?_
  rintro m Lc M1 Γc hs ⟨k, rfl, hk, rfl, rfl, rfl⟩
  have hst := Ex.sizes_take e.kids k
  refine CW.seq fun K5 hK5 => ?_
  refine CW.region ?_
  refine RL.q (Y.lss rfl rfl) rfl ?_
  refine RL.nil ?_
  refine hK5 _ _ _ ?_
  refine CW.keep (Keep.cons 3 rfl (Keep.cons 7 rfl (Keep.cons 8 rfl (Keep.cons 9 rfl (Keep.cons 10 rfl (Keep.nil _)))))) ?_
  refine CW.seq fun K6 hK6 => ?_
  refine CW.ite rfl (fun h1 => ?_) (fun h1 => ?_)
  · have hka : k < e.kids.length := by omega
    have hss := Ex.sizes_succ e.kids k hka
    have hst2 := Ex.sizes_take e.kids (k + 1)
    have hsm := Ex.size_kid (List.getElem_mem hka)
    refine CW.skip ?_
    refine hK6 _ _ _ ?_
    refine CW.seq fun K7 hK7 => ?_
    refine CW.block ?_
    refine CW.seq fun K8 hK8 => ?_
    refine CW.region ?_
    refine RL.q (Y.index k rfl rfl rfl hka slice28 (fun _ hw => hw.rd_some (by repeat (first | exact List.Mem.head _ | apply List.Mem.tail)) (by omega))) rfl ?_
    refine RL.loadAgg rfl rfl (by repeat (first | exact List.Mem.head _ | apply List.Mem.tail)) (flat_take Ex.enc_len _ k _ (List.getElem?_eq_getElem hka)) (by first | rfl | exact Ex.enc_len _ | exact Ty.enc_len _ | exact MNode.enc_len _ | exact RNode.enc_len _) agg31 rfl fun us12 hul12 hur12 => ?_
    refine RL.alloc _ zero31 rfl rfl fun b5 => ?_
    refine RL.storeAgg us12 rfl rfl (by repeat (first | exact Repl.here _ | apply Repl.there)) (by simp [hul12]) (by simp [hul12]) (fun _ _ => hur12.one) (by rw [hul12]; exact size31) ?_
    refine RL.nil ?_
    refine hK8 _ _ _ ?_
    refine CW.keep (Keep.cons 3 rfl (Keep.cons 5 rfl (Keep.cons 7 rfl (Keep.cons 8 rfl (Keep.cons 9 rfl (Keep.nil _)))))) ?_
    refine CW.region ?_
    refine RL.q (Y.move rfl) rfl ?_
    refine RL.q (Y.loadAll rfl (by repeat (first | exact List.Mem.head _ | apply List.Mem.tail)) hul12 agg31) rfl ?_
    refine RL.callv rfl func19 rfl rfl (ih _ (by omega) _ _ _ _ _ rfl hur12 (by omega)) ?_
    refine RL.q (Y.add rfl rfl (by omega)) rfl ?_
    refine RL.q (Y.assign rfl) rfl ?_
    refine RL.nil ?_
    refine hK7 _ _ _ ?_
    refine CW.keep (Keep.cons 3 rfl (Keep.cons 7 rfl (Keep.cons 8 rfl (Keep.cons 9 rfl (Keep.nil _))))) ?_
    refine CW.region ?_
    refine RL.q (Y.add rfl rfl (by omega)) rfl ?_
    refine RL.q (Y.move rfl) rfl ?_
    refine RL.nil ?_
    refine ⟨e.kids.length - (k + 1), [(3, _), (9, _)], ?_, (Keep.cons 3 rfl (Keep.cons 9 rfl (Keep.cons 7 rfl (Keep.cons 8 rfl (Keep.nil _))))), ?_⟩
    · omega
    · exact Turn.drop ⟨[], rfl, hs, k + 1, rfl, by omega, by simp [hss]; omega, rfl, rfl⟩ (by repeat (first | exact List.Sublist.refl _ | apply List.Sublist.cons_cons | apply List.Sublist.cons))
  · refine CW.exit ?_
    refine hK3 _ _ _ ?_
    refine CW.seq fun K9 hK9 => ?_
    refine CW.region ?_
    refine RL.q (Y.move rfl) rfl ?_
    refine RL.q (Y.assign rfl) rfl ?_
    refine RL.nil ?_
    refine hK9 _ _ _ ?_
    refine CW.keep (Keep.cons 2 rfl (Keep.nil _)) ?_
    refine CW.ret ?_
    exact ⟨_, rfl, Turn.drop ⟨by rw [show k = e.kids.length by omega, List.take_length, hse], rfl, rfl⟩ (by repeat (first | exact List.Sublist.refl _ | apply List.Sublist.cons_cons | apply List.Sublist.cons))⟩
end Go.Proofs.Ytjkcjbicleohkaa
