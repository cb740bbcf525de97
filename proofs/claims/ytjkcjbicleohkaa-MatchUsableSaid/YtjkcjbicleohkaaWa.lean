/- THE WALKS, 1: small functions on numbers and lists of numbers. Printed by m16a.py. -/
import Derived.Test.YtjkcjbicleohkaaTab
import Derived.Test.YtjkcjbicleohkaaPure
namespace Go.Proofs.Ytjkcjbicleohkaa
open Xe

theorem id24_eql {w0 : World} {L : Lm} {M : Mem} {Γ : List As} {d : Option Nat} {ty : TypeId} {pos : String} {af : Array Edge} {g : Option (Nat × Bool)} {x y : Operand} {i j : IdT} (hx : evL L x = some (.agg i.vals.toArray)) (hy : evL L y = some (.agg j.vals.toArray)) :
    Yq Try.prog w0 L M Γ ⟨d, .binOp .eql 24 x y 24, ty, pos, af, g⟩ (.bool (decide (i = j))) := fun n a w ha _ => by
  simp only [execOp, ha.ev hx, ha.ev hy, IdT.vals]
  simp [go_sem, run_eql_struct, run_eqGuard_agg]
  obtain ⟨a, b, c⟩ := i
  obtain ⟨a', b', c'⟩ := j
  simp only [IdT.mk.injEq]
  by_cases h1 : a = a' <;> by_cases h2 : b = b' <;> by_cases h3 : c = c' <;> simp [h1, h2, h3]

theorem id24_neq {w0 : World} {L : Lm} {M : Mem} {Γ : List As} {d : Option Nat} {ty : TypeId} {pos : String} {af : Array Edge} {g : Option (Nat × Bool)} {x y : Operand} {i j : IdT} (hx : evL L x = some (.agg i.vals.toArray)) (hy : evL L y = some (.agg j.vals.toArray)) :
    Yq Try.prog w0 L M Γ ⟨d, .binOp .neq 24 x y 24, ty, pos, af, g⟩ (.bool (decide (i ≠ j))) := fun n a w ha _ => by
  simp only [execOp, ha.ev hx, ha.ev hy, IdT.vals]
  simp [go_sem, run_neq_struct, run_eqGuard_agg]
  obtain ⟨a, b, c⟩ := i
  obtain ⟨a', b', c'⟩ := j
  simp only [IdT.mk.injEq]
  by_cases h1 : a = a' <;> by_cases h2 : b = b' <;> by_cases h3 : c = c' <;> simp [h1, h2, h3]

theorem around_ok (w0 : World) (M : Mem) (Γ : List As) (n m : Int) (hn : InI n) (hm : 1 ≤ m) :
    CallOk Try.prog w0 M Γ 12 #[vint n, vint m] (Is M Γ (vint (around n m))) := by
  obtain ⟨hn1, hn2⟩ := hn
  refine enter (f := 12) Try.func12 rfl Try.ntmps12 rfl rfl fun w1 hw1 => ?_
  refine CW.seq fun K1 hK1 => ?_
  refine CW.region ?_
  refine RL.q (Y.assign rfl) rfl ?_
  refine RL.nil ?_
  refine hK1 _ _ _ ?_
  refine CW.keep (Keep.cons 0 rfl (Keep.cons 1 rfl (Keep.nil _))) ?_
  refine CW.seq fun K2 hK2 => ?_
  refine CW.seq fun K3 hK3 => ?_
  refine CW.region ?_
  refine RL.q (Y.move rfl) rfl ?_
  refine RL.q (Y.lss rfl rfl) rfl ?_
  refine RL.nil ?_
  refine hK3 _ _ _ ?_
  refine CW.keep (Keep.cons 0 rfl (Keep.cons 1 rfl (Keep.cons 6 rfl (Keep.nil _)))) ?_
  refine CW.ite rfl (fun h1 => ?_) (fun h1 => ?_)
  · refine CW.region ?_
    refine RL.q (Y.move rfl) rfl ?_
    refine RL.q (Y.add rfl rfl (by omega)) rfl ?_
    refine RL.q (Y.neg rfl (by omega)) rfl ?_
    refine RL.q (Y.assign rfl) rfl ?_
    refine RL.nil ?_
    refine hK2 _ _ _ ?_
    refine CW.keep (Keep.cons 0 rfl (Keep.cons 1 rfl (Keep.nil _))) ?_
    refine CW.seq fun K4 hK4 => ?_
    refine CW.region ?_
    refine RL.q (Y.move rfl) rfl ?_
    refine RL.q (Y.move rfl) rfl ?_
    refine RL.q (Y.rem rfl rfl (by omega)) rfl ?_
    refine RL.q (Y.assign rfl) rfl ?_
    refine RL.nil ?_
    refine hK4 _ _ _ ?_
    refine CW.keep (Keep.cons 4 rfl (Keep.nil _)) ?_
    refine CW.ret ?_
    exact ⟨_, rfl, Turn.drop ⟨by rw [around_eq n m hm]; simp only [h1, if_true], rfl, rfl⟩ (by repeat (first | exact List.Sublist.refl _ | apply List.Sublist.cons_cons | apply List.Sublist.cons))⟩
  · refine CW.skip ?_
    refine hK2 _ _ _ ?_
    refine CW.seq fun K5 hK5 => ?_
    refine CW.region ?_
    refine RL.q (Y.move rfl) rfl ?_
    refine RL.q (Y.move rfl) rfl ?_
    refine RL.q (Y.rem rfl rfl (by omega)) rfl ?_
    refine RL.q (Y.assign rfl) rfl ?_
    refine RL.nil ?_
    refine hK5 _ _ _ ?_
    refine CW.keep (Keep.cons 4 rfl (Keep.nil _)) ?_
    refine CW.ret ?_
    exact ⟨_, rfl, Turn.drop ⟨by rw [around_eq n m hm]; simp only [h1, if_false], rfl, rfl⟩ (by repeat (first | exact List.Sublist.refl _ | apply List.Sublist.cons_cons | apply List.Sublist.cons))⟩

theorem at_ok (w0 : World) (M : Mem) (Γ : List As) (l : List Int) (u : Value) (i most : Int) (hu : Rd M (dints l) u) (hl : ∀ x ∈ l, InI x) (hm : 1 ≤ most) :
    CallOk Try.prog w0 M Γ 29 #[u, vint i, vint most] (Is M Γ (vint (atL l i most))) := by
  obtain ⟨a, c, rfl, hc, hlim, hlen⟩ := hu.slice
  refine enter (f := 29) Try.func29 rfl Try.ntmps29 rfl rfl fun w1 hw1 => ?_
  refine CW.addRd hu ?_
  refine CW.seq fun K1 hK1 => ?_
  refine CW.region ?_
  refine RL.q (Y.assign rfl) rfl ?_
  refine RL.nil ?_
  refine hK1 _ _ _ ?_
  refine CW.keep (Keep.cons 0 rfl (Keep.cons 1 rfl (Keep.cons 2 rfl (Keep.nil _)))) ?_
  refine CW.seq fun K2 hK2 => ?_
  refine CW.seq fun K3 hK3 => ?_
  refine CW.region ?_
  refine RL.q (Y.move rfl) rfl ?_
  refine RL.qs (Y.lss rfl rfl) rfl (fun g8 => ?_) (fun g8 => ?_)
  · refine RL.q (Y.move rfl) rfl ?_
    refine RL.no ⟨_, _, rfl, rfl, rfl⟩ rfl ?_
    refine RL.no ⟨_, _, rfl, rfl, rfl⟩ rfl ?_
    refine RL.no ⟨_, _, rfl, rfl, rfl⟩ rfl ?_
    refine RL.no ⟨_, _, rfl, rfl, rfl⟩ rfl ?_
    refine RL.q (Y.pickT rfl rfl) rfl ?_
    refine RL.nil ?_
    refine hK3 _ _ _ ?_
    refine CW.keep (Keep.cons 0 rfl (Keep.cons 1 rfl (Keep.cons 2 rfl (Keep.cons 14 rfl (Keep.nil _))))) ?_
    refine CW.yes rfl ?_
    refine CW.seq fun K4 hK4 => ?_
    refine CW.region ?_
    refine RL.q (Y.assign rfl) rfl ?_
    refine RL.nil ?_
    refine hK4 _ _ _ ?_
    refine CW.keep (Keep.cons 6 rfl (Keep.nil _)) ?_
    refine CW.ret ?_
    exact ⟨_, rfl, Turn.drop ⟨by rw [atL, if_pos (Or.inl g8)], rfl, rfl⟩ (by repeat (first | exact List.Sublist.refl _ | apply List.Sublist.cons_cons | apply List.Sublist.cons))⟩
  · refine RL.q (Y.move rfl) rfl ?_
    refine RL.qg ⟨_, _, rfl, rfl, rfl⟩ (Y.move rfl) rfl ?_
    refine RL.qg ⟨_, _, rfl, rfl, rfl⟩ (Y.move rfl) rfl ?_
    refine RL.qg ⟨_, _, rfl, rfl, rfl⟩ (Y.len rfl Try.underlying22) rfl ?_
    refine RL.qg ⟨_, _, rfl, rfl, rfl⟩ (Y.geq rfl rfl) rfl ?_
    refine RL.q (Y.pickF rfl rfl) rfl ?_
    refine RL.nil ?_
    refine hK3 _ _ _ ?_
    refine CW.keep (Keep.cons 0 rfl (Keep.cons 1 rfl (Keep.cons 2 rfl (Keep.cons 14 rfl (Keep.nil _))))) ?_
    refine CW.ite rfl (fun h2 => ?_) (fun h2 => ?_)
    · refine CW.seq fun K5 hK5 => ?_
      refine CW.region ?_
      refine RL.q (Y.assign rfl) rfl ?_
      refine RL.nil ?_
      refine hK5 _ _ _ ?_
      refine CW.keep (Keep.cons 6 rfl (Keep.nil _)) ?_
      refine CW.ret ?_
      exact ⟨_, rfl, Turn.drop ⟨by rw [atL, if_pos (Or.inr h2)], rfl, rfl⟩ (by repeat (first | exact List.Sublist.refl _ | apply List.Sublist.cons_cons | apply List.Sublist.cons))⟩
    · refine CW.skip ?_
      refine hK2 _ _ _ ?_
      refine CW.seq fun K6 hK6 => ?_
      obtain ⟨k, rfl⟩ := Int.eq_ofNat_of_zero_le (show 0 ≤ i by omega)
      have hk : k < l.length := by omega
      refine CW.region ?_
      refine RL.q (Y.move rfl) rfl ?_
      refine RL.q (Y.move rfl) rfl ?_
      refine RL.q (Y.index k rfl rfl rfl hk slice22 (fun _ hw => hw.rd_some (by repeat (first | exact List.Mem.head _ | apply List.Mem.tail)) (by omega))) rfl ?_
      refine RL.q (Y.loadRd rfl (by repeat (first | exact List.Mem.head _ | apply List.Mem.tail)) (dints_get (List.getElem?_eq_getElem hk)) flat3) rfl ?_
      refine RL.q (Y.move rfl) rfl ?_
      refine RL.callv rfl func12 rfl rfl (around_ok _ _ _ _ _ (hl _ (List.getElem_mem hk)) hm) ?_
      refine RL.q (Y.assign rfl) rfl ?_
      refine RL.nil ?_
      refine hK6 _ _ _ ?_
      refine CW.keep (Keep.cons 6 rfl (Keep.nil _)) ?_
      refine CW.ret ?_
      exact ⟨_, rfl, Turn.drop ⟨by rw [atL, if_neg (by omega)]; simp [hk], rfl, rfl⟩ (by repeat (first | exact List.Sublist.refl _ | apply List.Sublist.cons_cons | apply List.Sublist.cons))⟩

theorem sameInts_ok (w0 : World) (M : Mem) (Γ : List As) (a b : List Int) (u v : Value) (hu : Rd M (dints a) u) (hv : Rd M (dints b) v) :
    CallOk Try.prog w0 M Γ 42 #[u, v] (Is M Γ (.bool (decide (a = b)))) := by
  obtain ⟨a1, c1, rfl, hc1, hlim1, hlen1⟩ := hu.slice
  obtain ⟨a2, c2, rfl, hc2, hlim2, hlen2⟩ := hv.slice
  refine enter (f := 42) Try.func42 rfl Try.ntmps42 rfl rfl fun w1 hw1 => ?_
  refine CW.addRd hu ?_
  refine CW.addRd hv ?_
  refine CW.seq fun K1 hK1 => ?_
  refine CW.region ?_
  refine RL.q (Y.assign rfl) rfl ?_
  refine RL.nil ?_
  refine hK1 _ _ _ ?_
  refine CW.keep (Keep.cons 0 rfl (Keep.cons 1 rfl (Keep.nil _))) ?_
  refine CW.seq fun K2 hK2 => ?_
  refine CW.seq fun K3 hK3 => ?_
  refine CW.region ?_
  refine RL.q (Y.move rfl) rfl ?_
  refine RL.q (Y.len rfl Try.underlying22) rfl ?_
  refine RL.q (Y.move rfl) rfl ?_
  refine RL.q (Y.len rfl Try.underlying22) rfl ?_
  refine RL.q (Y.neq rfl rfl) rfl ?_
  refine RL.nil ?_
  refine hK3 _ _ _ ?_
  refine CW.keep (Keep.cons 0 rfl (Keep.cons 1 rfl (Keep.cons 10 rfl (Keep.nil _)))) ?_
  refine CW.ite rfl (fun h1 => ?_) (fun h1 => ?_)
  · refine CW.seq fun K4 hK4 => ?_
    refine CW.region ?_
    refine RL.q (Y.assign rfl) rfl ?_
    refine RL.nil ?_
    refine hK4 _ _ _ ?_
    refine CW.keep (Keep.cons 4 rfl (Keep.nil _)) ?_
    refine CW.ret ?_
    exact ⟨_, rfl, Turn.drop ⟨by rw [decide_eq_false (fun e => h1 (by rw [e]))], rfl, rfl⟩ (by repeat (first | exact List.Sublist.refl _ | apply List.Sublist.cons_cons | apply List.Sublist.cons))⟩
  · refine CW.skip ?_
    refine hK2 _ _ _ ?_
    refine CW.seq fun K5 hK5 => ?_
    refine CW.seq fun K6 hK6 => ?_
    refine CW.region ?_
    refine RL.q (Y.assign rfl) rfl ?_
    refine RL.nil ?_
    refine hK6 _ _ _ ?_
    refine CW.keep (Keep.cons 0 rfl (Keep.cons 1 rfl (Keep.cons 5 rfl (Keep.nil _)))) ?_
    refine CW.block ?_
    -- LOOP 1: live [0, 1, 5] changed [5]
    refine CW.keep (Keep.cons 5 rfl (Keep.cons 0 rfl (Keep.cons 1 rfl (Keep.nil _)))) ?_
    refine CW.loopF (fun m Lc M1 Γc => ∃ k : Nat, m = a.length - k ∧ k ≤ a.length ∧ Lc = [(5, vint k)] ∧ Γc = [] ∧ M1 = M ∧ a.take k = b.take k) a.length [(5, _)] [] rfl rfl ⟨0, rfl, Nat.zero_le _, rfl, rfl, rfl, rfl⟩ ?_
    rintro m Lc M1 Γc hs ⟨k, rfl, hk, rfl, rfl, rfl, hT⟩
    refine CW.seq fun K7 hK7 => ?_
    refine CW.seq fun K8 hK8 => ?_
    refine CW.region ?_
    refine RL.q (Y.move rfl) rfl ?_
    refine RL.q (Y.move rfl) rfl ?_
    refine RL.q (Y.len rfl Try.underlying22) rfl ?_
    refine RL.q (Y.lss rfl rfl) rfl ?_
    refine RL.nil ?_
    refine hK8 _ _ _ ?_
    refine CW.keep (Keep.cons 0 rfl (Keep.cons 1 rfl (Keep.cons 5 rfl (Keep.cons 14 rfl (Keep.nil _))))) ?_
    refine CW.ite rfl (fun h2 => ?_) (fun h2 => ?_)
    · have hka : k < a.length := by omega
      have hkb : k < b.length := by omega
      refine CW.skip ?_
      refine hK7 _ _ _ ?_
      refine CW.seq fun K9 hK9 => ?_
      refine CW.block ?_
      refine CW.seq fun K10 hK10 => ?_
      refine CW.regionQ mix (by kernel_rfl) ?_
      refine QL.q (Y.move rfl) rfl ?_
      refine QL.q (Y.move rfl) rfl ?_
      refine QL.q (Y.index k rfl rfl rfl hka slice22 (fun _ hw => hw.rd_some (by repeat (first | exact List.Mem.head _ | apply List.Mem.tail)) (by omega))) rfl ?_
      refine QL.q (Y.loadRd rfl (by repeat (first | exact List.Mem.head _ | apply List.Mem.tail)) (dints_get (List.getElem?_eq_getElem hka)) flat3) rfl ?_
      refine QL.q (Y.move rfl) rfl ?_
      refine QL.q (Y.move rfl) rfl ?_
      refine QL.q (Y.index k rfl rfl rfl hkb slice22 (fun _ hw => hw.rd_some (by repeat (first | exact List.Mem.head _ | apply List.Mem.tail)) (by omega))) rfl ?_
      refine QL.q (Y.loadRd rfl (by repeat (first | exact List.Mem.head _ | apply List.Mem.tail)) (dints_get (List.getElem?_eq_getElem hkb)) flat3) rfl ?_
      refine QL.q (Y.neq rfl rfl) rfl ?_
      refine QL.nil ?_
      refine hK10 _ _ _ ?_
      refine CW.keep (Keep.cons 0 rfl (Keep.cons 1 rfl (Keep.cons 5 rfl (Keep.cons 25 rfl (Keep.nil _))))) ?_
      refine CW.ite rfl (fun h3 => ?_) (fun h3 => ?_)
      · refine CW.seq fun K11 hK11 => ?_
        refine CW.region ?_
        refine RL.q (Y.assign rfl) rfl ?_
        refine RL.nil ?_
        refine hK11 _ _ _ ?_
        refine CW.keep (Keep.cons 4 rfl (Keep.nil _)) ?_
        refine CW.ret ?_
        exact ⟨_, rfl, Turn.drop ⟨by rw [decide_eq_false (fun e => h3 (by simp [e]))], rfl, rfl⟩ (by repeat (first | exact List.Sublist.refl _ | apply List.Sublist.cons_cons | apply List.Sublist.cons))⟩
      · refine CW.skip ?_
        refine hK9 _ _ _ ?_
        refine CW.region ?_
        refine RL.q (Y.move rfl) rfl ?_
        refine RL.q (Y.add rfl rfl (by omega)) rfl ?_
        refine RL.q (Y.assign rfl) rfl ?_
        refine RL.nil ?_
        refine ⟨a.length - (k + 1), [(5, _)], ?_, (Keep.cons 5 rfl (Keep.cons 0 rfl (Keep.cons 1 rfl (Keep.nil _)))), ?_⟩
        · omega
        · exact Turn.drop ⟨[], rfl, hs, k + 1, rfl, by omega, rfl, rfl, rfl, by rw [List.take_succ_eq_append_getElem hka, List.take_succ_eq_append_getElem hkb, hT, Decidable.not_not.1 h3]⟩ (List.Sublist.refl _)
    · refine CW.exit ?_
      refine hK5 _ _ _ ?_
      refine CW.seq fun K12 hK12 => ?_
      refine CW.region ?_
      refine RL.q (Y.assign rfl) rfl ?_
      refine RL.nil ?_
      refine hK12 _ _ _ ?_
      refine CW.keep (Keep.cons 4 rfl (Keep.nil _)) ?_
      refine CW.ret ?_
      exact ⟨_, rfl, Turn.drop ⟨by rw [decide_eq_true (take_all_eq hk hT (by omega) (by omega))], rfl, rfl⟩ (by repeat (first | exact List.Sublist.refl _ | apply List.Sublist.cons_cons | apply List.Sublist.cons))⟩
end Go.Proofs.Ytjkcjbicleohkaa
