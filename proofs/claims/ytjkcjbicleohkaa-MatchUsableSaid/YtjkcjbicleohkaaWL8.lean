/- THE WALKS, law 8: MatchUsable. Printed by m16L8.py. -/
import Derived.Test.YtjkcjbicleohkaaWv
import Derived.Test.YtjkcjbicleohkaaTree
import Derived.Test.YtjkcjbicleohkaaXeN
import Derived.Test.YtjkcjbicleohkaaWL3
import Derived.Test.YtjkcjbicleohkaaEdit
import Derived.Test.YtjkcjbicleohkaaWw
import Derived.Test.YtjkcjbicleohkaaUsable
namespace Go.Proofs.Ytjkcjbicleohkaa
open Xe

theorem run_storeCells_acc {P : Program} {w0 : World} {M : Mem} {Γ : List As} {a : Option Addr} {n c e sz q : Nat} : ∀ (vs : List Value) (i : Nat) (w : World) (us : List Value), St w0 M (.acc (.slice a n c) e sz n us :: Γ) w → q + i + vs.length ≤ us.length → (∀ v ∈ vs, v.oneCell' = true) →
    ∃ w', (storeCells (adr a q) vs i).run P w = .ok () w' ∧ St w0 M (.acc (.slice a n c) e sz n (us.take (q + i) ++ vs ++ us.drop (q + i + vs.length)) :: Γ) w'
  | [], i, w, us, hw, _, _ => ⟨w, by simp [storeCells], by simpa using hw⟩
  | v :: vs, i, w, us, hw, hl, h1 => by
    simp only [List.length_cons] at hl
    obtain ⟨k1, k2, k3⟩ := hw.setAcc (q := q + i) (v := v) (by omega)
    obtain ⟨w', r1, r2⟩ := run_storeCells_acc (q := q) vs (i + 1) _ _ k1 (by simp; omega) (fun x hx => h1 x (List.mem_cons_of_mem _ hx))
    have h3 : (Go.store ((adr a q).add i) v).run P w = .ok () (w.setCell (adr a (q + i)) v) := by
      rw [adr_add, run_store P w _ v _ (h1 v (List.mem_cons_self ..))]
      cases hc : w.cell? (adr a (q + i)) with
      | none => rw [hc] at k2; cases k2
      | some z => simp [k3]
    refine ⟨w', by simp [storeCells, h3]; exact r1, ?_⟩
    have he : (us.set (q + i) v).take (q + (i + 1)) ++ vs ++ (us.set (q + i) v).drop (q + (i + 1) + vs.length) = us.take (q + i) ++ v :: vs ++ us.drop (q + i + (v :: vs).length) := by
      have hk : q + i < us.length := by omega
      have e1 : (us.set (q + i) v).take (q + (i + 1)) = us.take (q + i) ++ [v] := by
        rw [← Nat.add_assoc, List.take_succ_eq_append_getElem (by simpa using hk), List.take_set, List.set_eq_of_length_le (by rw [List.length_take]; omega), List.getElem_set_self]
      have e2 : (us.set (q + i) v).drop (q + (i + 1) + vs.length) = us.drop (q + i + (v :: vs).length) := by
        rw [List.drop_set, if_pos (by omega)]
        congr 1
        simp only [List.length_cons]; omega
      rw [e1, e2]
      simp
    rw [he] at r2
    exact r2
theorem RL_storeAggAcc {P : Program} {n : Nat} {w0 : World} {ops : Array Oper} {rest : List Oper} {L : Lm} {M : Mem} {Γ : List As} {K : Lm → Mem → List As → Prop} {ty : TypeId} {pos : String} {af : Array Edge} {t : TypeId} {x y : Operand} {a : Option Addr} {m c e sz q : Nat} {us vs : List Value} (us' : List Value) (hx : evL L x = some (.pointer (some (adr a q)))) (hy : evL L y = some (.agg vs.toArray))
    (hs : us.take q ++ vs ++ us.drop (q + vs.length) = us') (hq : q + vs.length ≤ us.length) (h1 : ∀ v ∈ vs, v.oneCell' = true) (ht : sizeB P t vs.length = true)
    (h : RL P n w0 ops rest L M (.acc (.slice a m c) e sz m us' :: Γ) K) : RL P n w0 ops (⟨none, .store t x y, ty, pos, af, none⟩ :: rest) L M (.acc (.slice a m c) e sz m us :: Γ) K := by
  refine RL.s (Γ' := .acc (.slice a m c) e sz m us' :: Γ) (fun n a' w ha hw => ?_) h
  subst hs
  obtain ⟨w', r1, r2⟩ := run_storeCells_acc (P := P) vs 0 w us hw (by simpa using hq) h1
  refine ⟨w', ?_, by simpa using r2⟩
  simp [execOp, ha.ev hx, ha.ev hy, Instr.storeAt, Instr.sureAddr, storeVar, Value.cells, run_sizeB ht, r1]

theorem number0_ok (w0 : World) (M : Mem) (Γ : List As) (i : Int) :
    CallOk Try.prog w0 M Γ 44 #[vint i, vint 0] (Is M Γ (.agg (vsOf (idN i) (.slice none 0 0)).toArray)) := by
  refine enterCell (f := 44) Try.func44 rfl Try.ntmps44 rfl rfl fun w1 hw1 => ?_
  refine CW.seq fun K1 hK1 => ?_
  refine CW.region ?_
  refine RL.alloc _ zero31 rfl rfl fun b4 => ?_
  refine RL.nil ?_
  refine hK1 _ _ _ ?_
  refine CW.keep (Keep.cons 0 rfl (Keep.cons 1 rfl (Keep.cons 4 rfl (Keep.nil _)))) ?_
  refine CW.seq fun K2 hK2 => ?_
  refine CW.region ?_
  refine RL.q (Y.move rfl) rfl ?_
  refine RL.callv rfl func45 rfl rfl (idN_ok _ _ _ _) ?_
  refine RL.q (Y.move rfl) rfl ?_
  refine RL.q (Y.build [vint 0, vint 1, vint i, vint 0, vint 0, vint 0, vint 0, vint 0, vint 0, vint 0, vint 0, vint 0, .slice none 0 0, .slice none 0 0, .slice none 0 0] rfl zero31 places31 (by rfl)) rfl ?_
  refine RL.storeAgg _ rfl rfl (by repeat (first | exact Repl.here _ | apply Repl.there)) (by rfl) (by first | (simp; done) | simp [IdT.vals]) (by first | (simp [Value.oneCell']; done) | simp [Value.oneCell', IdT.vals]) size31 ?_
  refine RL.nil ?_
  refine hK2 _ _ _ ?_
  refine CW.keep (Keep.cons 4 rfl (Keep.nil _)) ?_
  refine CW.ret ?_
  exact CellAt.mk rfl (by repeat (first | exact List.Mem.head _ | apply List.Mem.tail)) (by rfl) agg31 (Turn.drop ⟨rfl, rfl, rfl⟩ (by repeat (first | exact List.Sublist.refl _ | apply List.Sublist.cons_cons | apply List.Sublist.cons)))

set_option maxHeartbeats 4000000 in
theorem chain_ok (w0 : World) (M : Mem) (Γ : List As) (n j : Nat) (hn : n ≤ 90) (hj : j ≤ 1000) :
    CallOk Try.prog w0 M Γ 32 #[vint ((n + 1 : Nat) : Int), vint (j : Int)] (Gives M Γ fun M' v => ∃ us, v = .agg us.toArray ∧ RdL M' (chnM n j).enc us) := by
  refine enterCell (f := 32) Try.func32 rfl Try.ntmps32 rfl rfl fun w1 hw1 => ?_
  refine CW.seq fun K1 hK1 => ?_
  refine CW.region ?_
  refine RL.alloc _ zero31 rfl rfl fun b4 => ?_
  refine RL.nil ?_
  refine hK1 _ _ _ ?_
  refine CW.keep (Keep.cons 0 rfl (Keep.cons 1 rfl (Keep.cons 4 rfl (Keep.nil _)))) ?_
  refine CW.seq fun K2 hK2 => ?_
  refine CW.region ?_
  refine RL.callv rfl func44 rfl rfl (number0_ok _ _ _ 0) ?_
  refine RL.alloc _ zero31 rfl rfl fun b5 => ?_
  refine RL.storeAgg (vsOf (idN 0) (.slice none 0 0)) rfl rfl (by repeat (first | exact Repl.here _ | apply Repl.there)) (by rfl) (by simp [vsOf]) (by simp [vsOf, Value.oneCell']) size31 ?_
  refine RL.nil ?_
  refine hK2 _ _ _ ?_
  refine CW.keep (Keep.cons 0 rfl (Keep.cons 1 rfl (Keep.cons 4 rfl (Keep.cons 5 rfl (Keep.nil _))))) ?_
  refine CW.seq fun K3 hK3 => ?_
  refine CW.seq fun K4 hK4 => ?_
  refine CW.region ?_
  refine RL.q (Y.assign rfl) rfl ?_
  refine RL.nil ?_
  refine hK4 _ _ _ ?_
  refine CW.keep (Keep.cons 0 rfl (Keep.cons 1 rfl (Keep.cons 4 rfl (Keep.cons 5 rfl (Keep.cons 6 rfl (Keep.nil _)))))) ?_
  refine CW.block ?_
  -- LOOP 1: live [0, 1, 4, 5, 6] changed [6]
  refine CW.keep (Keep.cons 6 rfl (Keep.cons 0 rfl (Keep.cons 1 rfl (Keep.cons 4 rfl (Keep.cons 5 rfl (Keep.nil _)))))) ?_
  refine CW.accNil 31 15 ?_
  refine CW.loopF (fun mm Lc M1 Γc => ∃ (q : Nat) (a : Option Addr) (k c : Nat) (us : List Value), mm = n - q ∧ q ≤ n ∧ Lc = [(6, vint ((q + 1 : Nat) : Int))] ∧ Γc = [.acc (.slice a k c) 31 15 k us, .own b5 31 (vsOf (idOf (q : Int)) (.slice a k c))] ∧ (chn q).kids.length = k ∧ k ≤ 1 ∧ RdL M1 ((chn q).kids.flatMap Ex.enc) us) n [(6, _)] [.acc (.slice none 0 0) 31 15 0 [], .own b5 31 (vsOf (idN 0) (.slice none 0 0))] rfl rfl ⟨0, none, 0, 0, [], rfl, Nat.zero_le _, rfl, rfl, rfl, by omega, RdL.nil _⟩ ?_
  rintro mm Lc M1 Γc hsub ⟨q, a, k, c, us, rfl, hq, rfl, rfl, hkl, hk1, hus⟩
  refine CW.seq fun K5 hK5 => ?_
  refine CW.seq fun K6 hK6 => ?_
  refine CW.region ?_
  refine RL.q (Y.move rfl) rfl ?_
  refine RL.q (Y.move rfl) rfl ?_
  refine RL.q (Y.lss rfl rfl) rfl ?_
  refine RL.nil ?_
  refine hK6 _ _ _ ?_
  refine CW.keep (Keep.cons 0 rfl (Keep.cons 1 rfl (Keep.cons 4 rfl (Keep.cons 5 rfl (Keep.cons 6 rfl (Keep.cons 11 rfl (Keep.nil _))))))) ?_
  refine CW.ite rfl (fun h1 => ?_) (fun h1 => ?_)
  · refine CW.skip ?_
    refine hK5 _ _ _ ?_
    refine CW.seq fun K7 hK7 => ?_
    refine CW.block ?_
    refine CW.regionHP mix (x := .own b5 31 _) (by repeat (first | exact Pick.here _ | apply Pick.there)) ?_
    refine HL.take 0 rfl (by kernel_rfl) (by kernel_rfl) (by kernel_rfl) rfl (Y.move rfl) rfl ?_
    refine HL.step2 1 2 rfl rfl (by kernel_rfl) ?_ ?_
    · refine RL.callv rfl func30 rfl rfl (idOf_ok _ _ _ ((q + 1 : Nat) : Int) (by omega)) ?_
      refine RL.nil ⟨keep_same (by repeat (first | exact List.Sublist.refl _ | exact List.nil_sublist _ | apply List.Sublist.cons_cons | apply List.Sublist.cons)), ?_⟩
      refine HL.step 2 rfl (by kernel_rfl) ?_
      refine RL.q (Y.loadAll rfl (by repeat (first | exact List.Mem.head _ | apply List.Mem.tail)) (by rfl) agg31) rfl ?_
      refine RL.nil ⟨keep_same (by repeat (first | exact List.Sublist.refl _ | exact List.nil_sublist _ | apply List.Sublist.cons_cons | apply List.Sublist.cons)), ?_⟩
      refine HL.step 3 rfl (by kernel_rfl) ?_
      refine RL.buildSlice (vsOf (idOf (q : Int)) (.slice a k c)) elem28 rfl (by decide) (fill1 rfl (by rfl)) rfl fun b17 => ?_
      refine RL.nil ⟨keep_same (by repeat (first | exact List.Sublist.refl _ | exact List.nil_sublist _ | apply List.Sublist.cons_cons | apply List.Sublist.cons)), ?_⟩
      refine HL.take 4 rfl (by kernel_rfl) (by kernel_rfl) (by kernel_rfl) rfl (Y.build (vsOf (idOf ((q + 1 : Nat) : Int)) (.slice (some ⟨b17, 0, none⟩) 1 1)) rfl zero31 places31 (by rfl)) rfl ?_
      refine HL.step 5 rfl (by kernel_rfl) ?_
      refine RL.storeAgg (vsOf (idOf ((q + 1 : Nat) : Int)) (.slice (some ⟨b17, 0, none⟩) 1 1)) rfl rfl (by repeat (first | exact Repl.here _ | apply Repl.there)) (by rfl) (by simp [vsOf]) (by simp [vsOf, Value.oneCell']) size31 ?_
      refine RL.nil ⟨keep_same (by repeat (first | exact List.Sublist.refl _ | exact List.nil_sublist _ | apply List.Sublist.cons_cons | apply List.Sublist.cons)), ?_⟩
      refine HL.done (by kernel_rfl) ?_
      refine hK7 _ _ _ ?_
      refine CW.keep (Keep.cons 0 rfl (Keep.cons 1 rfl (Keep.cons 4 rfl (Keep.cons 5 rfl (Keep.cons 6 rfl (Keep.nil _)))))) ?_
      refine CW.sealAcc (u := .slice a k c) (by repeat (first | exact Pick.here _ | apply Pick.there)) hus (by unfold lim; omega) ?_
      intro M4 a9 c9 hs4 h9 hc9 hr9
      cases h9
      have hkid : RdL M4 (chn q).enc (vsOf (idOf (q : Int)) (.slice a k c)) := by rw [chn_mk]; exact vsOf_rd (by rw [hkl]; exact hr9)
      refine CW.pre ?_ (Keep.refl _) (fun _ hw => (hw.perm (Pick.perm (x := .own b17 31 (vsOf (idOf (q : Int)) (.slice a k c))) (by repeat (first | exact Pick.here _ | apply Pick.there)))).own_acc (n := 1) (sz := 15) rfl (by unfold maxLen; omega))
      refine CW.region ?_
      refine RL.q (Y.move rfl) rfl ?_
      refine RL.q (Y.add rfl rfl (by omega)) rfl ?_
      refine RL.q (Y.assign rfl) rfl ?_
      refine RL.nil ?_
      refine ⟨n - (q + 1), [(6, _)], ?_, (Keep.cons 6 rfl (Keep.cons 0 rfl (Keep.cons 1 rfl (Keep.cons 4 rfl (Keep.cons 5 rfl (Keep.nil _)))))), ?_⟩
      · omega
      · exact Turn.drop ⟨[.acc (.slice (some ⟨b17, 0, none⟩) 1 1) 31 15 1 _, .own b5 31 (vsOf (idOf ((q + 1 : Nat) : Int)) (.slice (some ⟨b17, 0, none⟩) 1 1))], rfl, hsub.trans hs4, q + 1, _, 1, 1, _, rfl, by omega, rfl, rfl, rfl, by omega, by rw [show (chn (q + 1)).kids = [chn q] from rfl, List.flatMap_cons, List.flatMap_nil, List.append_nil]; exact hkid⟩ (by repeat (first | exact List.Sublist.refl _ | apply List.Sublist.cons_cons | apply List.Sublist.cons))
    · refine RL.q (Y.loadAll rfl (by repeat (first | exact List.Mem.head _ | apply List.Mem.tail)) (by rfl) agg31) rfl ?_
      refine RL.nil ⟨keep_same (by repeat (first | exact List.Sublist.refl _ | exact List.nil_sublist _ | apply List.Sublist.cons_cons | apply List.Sublist.cons)), ?_⟩
      refine HL.step2 1 3 rfl rfl (by kernel_rfl) ?_ ?_
      · refine RL.callv rfl func30 rfl rfl (idOf_ok _ _ _ ((q + 1 : Nat) : Int) (by omega)) ?_
        refine RL.nil ⟨keep_same (by repeat (first | exact List.Sublist.refl _ | exact List.nil_sublist _ | apply List.Sublist.cons_cons | apply List.Sublist.cons)), ?_⟩
        refine HL.step 3 rfl (by kernel_rfl) ?_
        refine RL.buildSlice (vsOf (idOf (q : Int)) (.slice a k c)) elem28 rfl (by decide) (fill1 rfl (by rfl)) rfl fun b17 => ?_
        refine RL.nil ⟨keep_same (by repeat (first | exact List.Sublist.refl _ | exact List.nil_sublist _ | apply List.Sublist.cons_cons | apply List.Sublist.cons)), ?_⟩
        refine HL.take 4 rfl (by kernel_rfl) (by kernel_rfl) (by kernel_rfl) rfl (Y.build (vsOf (idOf ((q + 1 : Nat) : Int)) (.slice (some ⟨b17, 0, none⟩) 1 1)) rfl zero31 places31 (by rfl)) rfl ?_
        refine HL.step 5 rfl (by kernel_rfl) ?_
        refine RL.storeAgg (vsOf (idOf ((q + 1 : Nat) : Int)) (.slice (some ⟨b17, 0, none⟩) 1 1)) rfl rfl (by repeat (first | exact Repl.here _ | apply Repl.there)) (by rfl) (by simp [vsOf]) (by simp [vsOf, Value.oneCell']) size31 ?_
        refine RL.nil ⟨keep_same (by repeat (first | exact List.Sublist.refl _ | exact List.nil_sublist _ | apply List.Sublist.cons_cons | apply List.Sublist.cons)), ?_⟩
        refine HL.done (by kernel_rfl) ?_
        refine hK7 _ _ _ ?_
        refine CW.keep (Keep.cons 0 rfl (Keep.cons 1 rfl (Keep.cons 4 rfl (Keep.cons 5 rfl (Keep.cons 6 rfl (Keep.nil _)))))) ?_
        refine CW.sealAcc (u := .slice a k c) (by repeat (first | exact Pick.here _ | apply Pick.there)) hus (by unfold lim; omega) ?_
        intro M4 a9 c9 hs4 h9 hc9 hr9
        cases h9
        have hkid : RdL M4 (chn q).enc (vsOf (idOf (q : Int)) (.slice a k c)) := by rw [chn_mk]; exact vsOf_rd (by rw [hkl]; exact hr9)
        refine CW.pre ?_ (Keep.refl _) (fun _ hw => (hw.perm (Pick.perm (x := .own b17 31 (vsOf (idOf (q : Int)) (.slice a k c))) (by repeat (first | exact Pick.here _ | apply Pick.there)))).own_acc (n := 1) (sz := 15) rfl (by unfold maxLen; omega))
        refine CW.region ?_
        refine RL.q (Y.move rfl) rfl ?_
        refine RL.q (Y.add rfl rfl (by omega)) rfl ?_
        refine RL.q (Y.assign rfl) rfl ?_
        refine RL.nil ?_
        refine ⟨n - (q + 1), [(6, _)], ?_, (Keep.cons 6 rfl (Keep.cons 0 rfl (Keep.cons 1 rfl (Keep.cons 4 rfl (Keep.cons 5 rfl (Keep.nil _)))))), ?_⟩
        · omega
        · exact Turn.drop ⟨[.acc (.slice (some ⟨b17, 0, none⟩) 1 1) 31 15 1 _, .own b5 31 (vsOf (idOf ((q + 1 : Nat) : Int)) (.slice (some ⟨b17, 0, none⟩) 1 1))], rfl, hsub.trans hs4, q + 1, _, 1, 1, _, rfl, by omega, rfl, rfl, rfl, by omega, by rw [show (chn (q + 1)).kids = [chn q] from rfl, List.flatMap_cons, List.flatMap_nil, List.append_nil]; exact hkid⟩ (by repeat (first | exact List.Sublist.refl _ | apply List.Sublist.cons_cons | apply List.Sublist.cons))
      · refine RL.buildSlice (vsOf (idOf (q : Int)) (.slice a k c)) elem28 rfl (by decide) (fill1 rfl (by rfl)) rfl fun b17 => ?_
        refine RL.nil ⟨keep_same (by repeat (first | exact List.Sublist.refl _ | exact List.nil_sublist _ | apply List.Sublist.cons_cons | apply List.Sublist.cons)), ?_⟩
        refine HL.step 1 rfl (by kernel_rfl) ?_
        refine RL.callv rfl func30 rfl rfl (idOf_ok _ _ _ ((q + 1 : Nat) : Int) (by omega)) ?_
        refine RL.nil ⟨keep_same (by repeat (first | exact List.Sublist.refl _ | exact List.nil_sublist _ | apply List.Sublist.cons_cons | apply List.Sublist.cons)), ?_⟩
        refine HL.take 4 rfl (by kernel_rfl) (by kernel_rfl) (by kernel_rfl) rfl (Y.build (vsOf (idOf ((q + 1 : Nat) : Int)) (.slice (some ⟨b17, 0, none⟩) 1 1)) rfl zero31 places31 (by rfl)) rfl ?_
        refine HL.step 5 rfl (by kernel_rfl) ?_
        refine RL.storeAgg (vsOf (idOf ((q + 1 : Nat) : Int)) (.slice (some ⟨b17, 0, none⟩) 1 1)) rfl rfl (by repeat (first | exact Repl.here _ | apply Repl.there)) (by rfl) (by simp [vsOf]) (by simp [vsOf, Value.oneCell']) size31 ?_
        refine RL.nil ⟨keep_same (by repeat (first | exact List.Sublist.refl _ | exact List.nil_sublist _ | apply List.Sublist.cons_cons | apply List.Sublist.cons)), ?_⟩
        refine HL.done (by kernel_rfl) ?_
        refine hK7 _ _ _ ?_
        refine CW.keep (Keep.cons 0 rfl (Keep.cons 1 rfl (Keep.cons 4 rfl (Keep.cons 5 rfl (Keep.cons 6 rfl (Keep.nil _)))))) ?_
        refine CW.sealAcc (u := .slice a k c) (by repeat (first | exact Pick.here _ | apply Pick.there)) hus (by unfold lim; omega) ?_
        intro M4 a9 c9 hs4 h9 hc9 hr9
        cases h9
        have hkid : RdL M4 (chn q).enc (vsOf (idOf (q : Int)) (.slice a k c)) := by rw [chn_mk]; exact vsOf_rd (by rw [hkl]; exact hr9)
        refine CW.pre ?_ (Keep.refl _) (fun _ hw => (hw.perm (Pick.perm (x := .own b17 31 (vsOf (idOf (q : Int)) (.slice a k c))) (by repeat (first | exact Pick.here _ | apply Pick.there)))).own_acc (n := 1) (sz := 15) rfl (by unfold maxLen; omega))
        refine CW.region ?_
        refine RL.q (Y.move rfl) rfl ?_
        refine RL.q (Y.add rfl rfl (by omega)) rfl ?_
        refine RL.q (Y.assign rfl) rfl ?_
        refine RL.nil ?_
        refine ⟨n - (q + 1), [(6, _)], ?_, (Keep.cons 6 rfl (Keep.cons 0 rfl (Keep.cons 1 rfl (Keep.cons 4 rfl (Keep.cons 5 rfl (Keep.nil _)))))), ?_⟩
        · omega
        · exact Turn.drop ⟨[.acc (.slice (some ⟨b17, 0, none⟩) 1 1) 31 15 1 _, .own b5 31 (vsOf (idOf ((q + 1 : Nat) : Int)) (.slice (some ⟨b17, 0, none⟩) 1 1))], rfl, hsub.trans hs4, q + 1, _, 1, 1, _, rfl, by omega, rfl, rfl, rfl, by omega, by rw [show (chn (q + 1)).kids = [chn q] from rfl, List.flatMap_cons, List.flatMap_nil, List.append_nil]; exact hkid⟩ (by repeat (first | exact List.Sublist.refl _ | apply List.Sublist.cons_cons | apply List.Sublist.cons))
  · refine CW.exit ?_
    refine hK3 _ _ _ ?_
    refine CW.seq fun K8 hK8 => ?_
    refine CW.seq fun K9 hK9 => ?_
    refine CW.region ?_
    refine RL.q (Y.assign rfl) rfl ?_
    refine RL.nil ?_
    refine hK9 _ _ _ ?_
    refine CW.keep (Keep.cons 1 rfl (Keep.cons 4 rfl (Keep.cons 5 rfl (Keep.cons 7 rfl (Keep.nil _))))) ?_
    refine CW.block ?_
    -- LOOP 2: live [1, 4, 5, 7] changed [7]
    refine CW.keep (Keep.cons 7 rfl (Keep.cons 1 rfl (Keep.cons 4 rfl (Keep.cons 5 rfl (Keep.nil _))))) ?_
    have hqn : q = n := by omega
    subst hqn
    refine CW.loopF (fun mm Lc M2 Γc => ∃ (p : Nat) (a : Option Addr) (k c : Nat) (us : List Value), mm = j - p ∧ p ≤ j ∧ Lc = [(7, vint (p : Int))] ∧ Γc = [.acc (.slice a k c) 31 15 k us, .own b5 31 (vsOf (idOf (q : Int)) (.slice a k c))] ∧ ((chn q).kids ++ xtr p).length = k ∧ k ≤ 1 + p ∧ RdL M2 (((chn q).kids ++ xtr p).flatMap Ex.enc) us) j [(7, _)] [.acc (.slice a k c) 31 15 k us, .own b5 31 (vsOf (idOf (q : Int)) (.slice a k c))] rfl rfl ⟨0, a, k, c, us, rfl, Nat.zero_le _, rfl, rfl, by rw [show xtr 0 = [] from rfl, List.append_nil]; exact hkl, hk1, by rw [show xtr 0 = [] from rfl, List.append_nil]; exact hus⟩ ?_
    clear hus hkl hk1
    clear a k c us
    rintro mm Lc M2 Γc hsub2 ⟨p, a, k, c, us, rfl, hp, rfl, rfl, hkl, hk1, hus⟩
    have hul : us.length = k * 15 := by rw [hus.1, ← hkl]; exact flat_len _
    refine CW.seq fun K10 hK10 => ?_
    refine CW.seq fun K11 hK11 => ?_
    refine CW.region ?_
    refine RL.q (Y.move rfl) rfl ?_
    refine RL.q (Y.move rfl) rfl ?_
    refine RL.q (Y.lss rfl rfl) rfl ?_
    refine RL.nil ?_
    refine hK11 _ _ _ ?_
    refine CW.keep (Keep.cons 1 rfl (Keep.cons 4 rfl (Keep.cons 5 rfl (Keep.cons 7 rfl (Keep.cons 21 rfl (Keep.nil _)))))) ?_
    refine CW.ite rfl (fun h2 => ?_) (fun h2 => ?_)
    · refine CW.skip ?_
      refine hK10 _ _ _ ?_
      refine CW.seq fun K12 hK12 => ?_
      refine CW.block ?_
      refine CW.seq fun K13 hK13 => ?_
      refine CW.regionH mix _ [.own b4 31 [vint 0, vint 0, vint 0, vint 0, vint 0, vint 0, vint 0, vint 0, vint 0, vint 0, vint 0, vint 0, .slice none 0 0, .slice none 0 0, .slice none 0 0]] (fun _ hw => hw.sub (by repeat (first | exact List.Sublist.refl _ | exact List.nil_sublist _ | apply List.Sublist.cons_cons | apply List.Sublist.cons))) ?_
      refine HL.take 0 rfl (by kernel_rfl) (by kernel_rfl) (by kernel_rfl) rfl (Y.field rfl field31_5) rfl ?_
      refine HL.step2 1 2 rfl rfl (by kernel_rfl) ?_ ?_
      · first | refine RL.q (Y.loadOwnV rfl (by repeat (first | exact List.Mem.head _ | apply List.Mem.tail)) (by repeat (first | exact List.Mem.head _ | apply List.Mem.tail)) (by rfl) flat28) rfl ?_ | refine RL.q (Y.loadOwn rfl (by repeat (first | exact List.Mem.head _ | apply List.Mem.tail)) (by rfl) flat28) rfl ?_ | refine RL.loadOwnSl rfl rfl (by repeat (first | exact List.Mem.head _ | apply List.Mem.tail)) (by repeat (first | exact List.Mem.head _ | apply List.Mem.tail)) (by rfl) flat28 rfl fun a25 c25 hu25 hc25 hl25 => ?_
        refine RL.nil ⟨keep_same (by repeat (first | exact List.Sublist.refl _ | exact List.nil_sublist _ | apply List.Sublist.cons_cons | apply List.Sublist.cons)), ?_⟩
        refine HL.step 2 rfl (by kernel_rfl) ?_
        refine RL.callv rfl func44 rfl rfl (number0_ok _ _ _ 0) ?_
        refine RL.nil ⟨keep_same (by repeat (first | exact List.Sublist.refl _ | exact List.nil_sublist _ | apply List.Sublist.cons_cons | apply List.Sublist.cons)), ?_⟩
        refine HL.step 3 rfl (by kernel_rfl) ?_
        refine RL.buildSlice (vsOf (idN 0) (.slice none 0 0)) elem28 rfl (by decide) (fill1 rfl (by rfl)) rfl fun b27 => ?_
        refine RL.nil ⟨keep_same (by repeat (first | exact List.Sublist.refl _ | exact List.nil_sublist _ | apply List.Sublist.cons_cons | apply List.Sublist.cons)), ?_⟩
        refine HL.step 4 rfl (by kernel_rfl) ?_
        refine RL.append elem28 rfl rfl (by repeat (first | exact Pick.here _ | apply Pick.there)) (SrcOk.own (by repeat (first | exact List.Mem.head _ | apply List.Mem.tail)) (by rfl) (by simp [vsOf, Value.oneCell'])) (by first | omega | (unfold lim; omega)) (by first | omega | (unfold lim; omega)) rfl fun a28 c28 hc28 => ?_
        refine RL.nil ⟨keep_same (by repeat (first | exact List.Sublist.refl _ | exact List.nil_sublist _ | apply List.Sublist.cons_cons | apply List.Sublist.cons)), ?_⟩
        refine HL.take 5 rfl (by kernel_rfl) (by kernel_rfl) (by kernel_rfl) rfl (Y.field rfl field31_5) rfl ?_
        refine HL.step 6 rfl (by kernel_rfl) ?_
        refine RL.store (vsOf (idOf (q : Int)) (.slice a28 (k + 1) c28)) rfl rfl (by repeat (first | exact Repl.here _ | apply Repl.there)) (by rfl) (by simp [vsOf]) (by rfl) size28 ?_
        refine RL.nil ⟨keep_same (by repeat (first | exact List.Sublist.refl _ | exact List.nil_sublist _ | apply List.Sublist.cons_cons | apply List.Sublist.cons)), ?_⟩
        refine HL.done (by kernel_rfl) ?_
        refine hK13 _ _ _ ?_
        refine CW.keep (Keep.cons 1 rfl (Keep.cons 4 rfl (Keep.cons 5 rfl (Keep.cons 7 rfl (Keep.nil _))))) ?_
        have hcell : (us ++ vsOf (idN 0) (.slice none 0 0))[k * 15]? = some (vint 0) := by rw [← hul, List.getElem?_append_right (Nat.le_refl _), Nat.sub_self]; rfl
        refine CW.region ?_
        refine RL.q (Y.field rfl field31_5) rfl ?_
        first | refine RL.q (Y.loadOwnV rfl (by repeat (first | exact List.Mem.head _ | apply List.Mem.tail)) (by repeat (first | exact List.Mem.head _ | apply List.Mem.tail)) (by rfl) flat28) rfl ?_ | refine RL.q (Y.loadOwn rfl (by repeat (first | exact List.Mem.head _ | apply List.Mem.tail)) (by rfl) flat28) rfl ?_ | refine RL.loadOwnSl rfl rfl (by repeat (first | exact List.Mem.head _ | apply List.Mem.tail)) (by repeat (first | exact List.Mem.head _ | apply List.Mem.tail)) (by rfl) flat28 rfl fun a31 c31 hu31 hc31 hl31 => ?_
        refine RL.q (Y.field rfl field31_5) rfl ?_
        first | refine RL.q (Y.loadOwnV rfl (by repeat (first | exact List.Mem.head _ | apply List.Mem.tail)) (by repeat (first | exact List.Mem.head _ | apply List.Mem.tail)) (by rfl) flat28) rfl ?_ | refine RL.q (Y.loadOwn rfl (by repeat (first | exact List.Mem.head _ | apply List.Mem.tail)) (by rfl) flat28) rfl ?_ | refine RL.loadOwnSl rfl rfl (by repeat (first | exact List.Mem.head _ | apply List.Mem.tail)) (by repeat (first | exact List.Mem.head _ | apply List.Mem.tail)) (by rfl) flat28 rfl fun a33 c33 hu33 hc33 hl33 => ?_
        refine RL.q (Y.len rfl Try.underlying28) rfl ?_
        refine RL.q (Y.sub rfl rfl (by omega)) rfl ?_
        refine RL.q (Y.move rfl) rfl ?_
        refine RL.q (Y.add rfl rfl (by omega)) rfl ?_
        refine RL.q (Y.build [vint 5, vint (1 + (p : Int)), vint 7] rfl zero24 places24 (by rfl)) rfl ?_
        refine RL.q (Y.indexAcc k rfl rfl (by omega) (by omega) slice28 (by repeat (first | exact List.Mem.head _ | apply List.Mem.tail)) hcell) rfl ?_
        refine RL.q (Y.field rfl field31_0) rfl ?_
        refine RL_storeAggAcc (us ++ vsOf (xid p) (.slice none 0 0)) rfl rfl (splice_leaf hul _ _ _ _ _ rfl) (by rw [List.length_append, hul]; simp [vsOf]) (by simp [Value.oneCell']) size24 ?_
        refine RL.nil ?_
        refine hK12 _ _ _ ?_
        refine CW.keep (Keep.cons 1 rfl (Keep.cons 4 rfl (Keep.cons 5 rfl (Keep.cons 7 rfl (Keep.nil _))))) ?_
        refine CW.region ?_
        refine RL.q (Y.move rfl) rfl ?_
        refine RL.q (Y.add rfl rfl (by omega)) rfl ?_
        refine RL.q (Y.assign rfl) rfl ?_
        refine RL.nil ?_
        refine ⟨j - (p + 1), [(7, _)], ?_, (Keep.cons 7 rfl (Keep.cons 1 rfl (Keep.cons 4 rfl (Keep.cons 5 rfl (Keep.nil _))))), ?_⟩
        · omega
        · exact Turn.drop ⟨[.acc (.slice a28 (k + 1) c28) 31 15 (k + 1) _, .own b5 31 (vsOf (idOf (q : Int)) (.slice a28 (k + 1) c28))], rfl, hsub2, p + 1, _, k + 1, _, _, rfl, by omega, rfl, rfl, by rw [xtr_succ, ← List.append_assoc, List.length_append, hkl]; rfl, by omega, by rw [xtr_succ, ← List.append_assoc, List.flatMap_append, List.flatMap_cons, List.flatMap_nil, List.append_nil]; exact hus.append (vsOf_rd Rd.nilS)⟩ (by repeat (first | exact List.Sublist.refl _ | apply List.Sublist.cons_cons | apply List.Sublist.cons))
      · refine RL.callv rfl func44 rfl rfl (number0_ok _ _ _ 0) ?_
        refine RL.nil ⟨keep_same (by repeat (first | exact List.Sublist.refl _ | exact List.nil_sublist _ | apply List.Sublist.cons_cons | apply List.Sublist.cons)), ?_⟩
        refine HL.step2 1 3 rfl rfl (by kernel_rfl) ?_ ?_
        · first | refine RL.q (Y.loadOwnV rfl (by repeat (first | exact List.Mem.head _ | apply List.Mem.tail)) (by repeat (first | exact List.Mem.head _ | apply List.Mem.tail)) (by rfl) flat28) rfl ?_ | refine RL.q (Y.loadOwn rfl (by repeat (first | exact List.Mem.head _ | apply List.Mem.tail)) (by rfl) flat28) rfl ?_ | refine RL.loadOwnSl rfl rfl (by repeat (first | exact List.Mem.head _ | apply List.Mem.tail)) (by repeat (first | exact List.Mem.head _ | apply List.Mem.tail)) (by rfl) flat28 rfl fun a25 c25 hu25 hc25 hl25 => ?_
          refine RL.nil ⟨keep_same (by repeat (first | exact List.Sublist.refl _ | exact List.nil_sublist _ | apply List.Sublist.cons_cons | apply List.Sublist.cons)), ?_⟩
          refine HL.step 3 rfl (by kernel_rfl) ?_
          refine RL.buildSlice (vsOf (idN 0) (.slice none 0 0)) elem28 rfl (by decide) (fill1 rfl (by rfl)) rfl fun b27 => ?_
          refine RL.nil ⟨keep_same (by repeat (first | exact List.Sublist.refl _ | exact List.nil_sublist _ | apply List.Sublist.cons_cons | apply List.Sublist.cons)), ?_⟩
          refine HL.step 4 rfl (by kernel_rfl) ?_
          refine RL.append elem28 rfl rfl (by repeat (first | exact Pick.here _ | apply Pick.there)) (SrcOk.own (by repeat (first | exact List.Mem.head _ | apply List.Mem.tail)) (by rfl) (by simp [vsOf, Value.oneCell'])) (by first | omega | (unfold lim; omega)) (by first | omega | (unfold lim; omega)) rfl fun a28 c28 hc28 => ?_
          refine RL.nil ⟨keep_same (by repeat (first | exact List.Sublist.refl _ | exact List.nil_sublist _ | apply List.Sublist.cons_cons | apply List.Sublist.cons)), ?_⟩
          refine HL.take 5 rfl (by kernel_rfl) (by kernel_rfl) (by kernel_rfl) rfl (Y.field rfl field31_5) rfl ?_
          refine HL.step 6 rfl (by kernel_rfl) ?_
          refine RL.store (vsOf (idOf (q : Int)) (.slice a28 (k + 1) c28)) rfl rfl (by repeat (first | exact Repl.here _ | apply Repl.there)) (by rfl) (by simp [vsOf]) (by rfl) size28 ?_
          refine RL.nil ⟨keep_same (by repeat (first | exact List.Sublist.refl _ | exact List.nil_sublist _ | apply List.Sublist.cons_cons | apply List.Sublist.cons)), ?_⟩
          refine HL.done (by kernel_rfl) ?_
          refine hK13 _ _ _ ?_
          refine CW.keep (Keep.cons 1 rfl (Keep.cons 4 rfl (Keep.cons 5 rfl (Keep.cons 7 rfl (Keep.nil _))))) ?_
          have hcell : (us ++ vsOf (idN 0) (.slice none 0 0))[k * 15]? = some (vint 0) := by rw [← hul, List.getElem?_append_right (Nat.le_refl _), Nat.sub_self]; rfl
          refine CW.region ?_
          refine RL.q (Y.field rfl field31_5) rfl ?_
          first | refine RL.q (Y.loadOwnV rfl (by repeat (first | exact List.Mem.head _ | apply List.Mem.tail)) (by repeat (first | exact List.Mem.head _ | apply List.Mem.tail)) (by rfl) flat28) rfl ?_ | refine RL.q (Y.loadOwn rfl (by repeat (first | exact List.Mem.head _ | apply List.Mem.tail)) (by rfl) flat28) rfl ?_ | refine RL.loadOwnSl rfl rfl (by repeat (first | exact List.Mem.head _ | apply List.Mem.tail)) (by repeat (first | exact List.Mem.head _ | apply List.Mem.tail)) (by rfl) flat28 rfl fun a31 c31 hu31 hc31 hl31 => ?_
          refine RL.q (Y.field rfl field31_5) rfl ?_
          first | refine RL.q (Y.loadOwnV rfl (by repeat (first | exact List.Mem.head _ | apply List.Mem.tail)) (by repeat (first | exact List.Mem.head _ | apply List.Mem.tail)) (by rfl) flat28) rfl ?_ | refine RL.q (Y.loadOwn rfl (by repeat (first | exact List.Mem.head _ | apply List.Mem.tail)) (by rfl) flat28) rfl ?_ | refine RL.loadOwnSl rfl rfl (by repeat (first | exact List.Mem.head _ | apply List.Mem.tail)) (by repeat (first | exact List.Mem.head _ | apply List.Mem.tail)) (by rfl) flat28 rfl fun a33 c33 hu33 hc33 hl33 => ?_
          refine RL.q (Y.len rfl Try.underlying28) rfl ?_
          refine RL.q (Y.sub rfl rfl (by omega)) rfl ?_
          refine RL.q (Y.move rfl) rfl ?_
          refine RL.q (Y.add rfl rfl (by omega)) rfl ?_
          refine RL.q (Y.build [vint 5, vint (1 + (p : Int)), vint 7] rfl zero24 places24 (by rfl)) rfl ?_
          refine RL.q (Y.indexAcc k rfl rfl (by omega) (by omega) slice28 (by repeat (first | exact List.Mem.head _ | apply List.Mem.tail)) hcell) rfl ?_
          refine RL.q (Y.field rfl field31_0) rfl ?_
          refine RL_storeAggAcc (us ++ vsOf (xid p) (.slice none 0 0)) rfl rfl (splice_leaf hul _ _ _ _ _ rfl) (by rw [List.length_append, hul]; simp [vsOf]) (by simp [Value.oneCell']) size24 ?_
          refine RL.nil ?_
          refine hK12 _ _ _ ?_
          refine CW.keep (Keep.cons 1 rfl (Keep.cons 4 rfl (Keep.cons 5 rfl (Keep.cons 7 rfl (Keep.nil _))))) ?_
          refine CW.region ?_
          refine RL.q (Y.move rfl) rfl ?_
          refine RL.q (Y.add rfl rfl (by omega)) rfl ?_
          refine RL.q (Y.assign rfl) rfl ?_
          refine RL.nil ?_
          refine ⟨j - (p + 1), [(7, _)], ?_, (Keep.cons 7 rfl (Keep.cons 1 rfl (Keep.cons 4 rfl (Keep.cons 5 rfl (Keep.nil _))))), ?_⟩
          · omega
          · exact Turn.drop ⟨[.acc (.slice a28 (k + 1) c28) 31 15 (k + 1) _, .own b5 31 (vsOf (idOf (q : Int)) (.slice a28 (k + 1) c28))], rfl, hsub2, p + 1, _, k + 1, _, _, rfl, by omega, rfl, rfl, by rw [xtr_succ, ← List.append_assoc, List.length_append, hkl]; rfl, by omega, by rw [xtr_succ, ← List.append_assoc, List.flatMap_append, List.flatMap_cons, List.flatMap_nil, List.append_nil]; exact hus.append (vsOf_rd Rd.nilS)⟩ (by repeat (first | exact List.Sublist.refl _ | apply List.Sublist.cons_cons | apply List.Sublist.cons))
        · refine RL.buildSlice (vsOf (idN 0) (.slice none 0 0)) elem28 rfl (by decide) (fill1 rfl (by rfl)) rfl fun b27 => ?_
          refine RL.nil ⟨keep_same (by repeat (first | exact List.Sublist.refl _ | exact List.nil_sublist _ | apply List.Sublist.cons_cons | apply List.Sublist.cons)), ?_⟩
          refine HL.step 1 rfl (by kernel_rfl) ?_
          first | refine RL.q (Y.loadOwnV rfl (by repeat (first | exact List.Mem.head _ | apply List.Mem.tail)) (by repeat (first | exact List.Mem.head _ | apply List.Mem.tail)) (by rfl) flat28) rfl ?_ | refine RL.q (Y.loadOwn rfl (by repeat (first | exact List.Mem.head _ | apply List.Mem.tail)) (by rfl) flat28) rfl ?_ | refine RL.loadOwnSl rfl rfl (by repeat (first | exact List.Mem.head _ | apply List.Mem.tail)) (by repeat (first | exact List.Mem.head _ | apply List.Mem.tail)) (by rfl) flat28 rfl fun a25 c25 hu25 hc25 hl25 => ?_
          refine RL.nil ⟨keep_same (by repeat (first | exact List.Sublist.refl _ | exact List.nil_sublist _ | apply List.Sublist.cons_cons | apply List.Sublist.cons)), ?_⟩
          refine HL.step 4 rfl (by kernel_rfl) ?_
          refine RL.append elem28 rfl rfl (by repeat (first | exact Pick.here _ | apply Pick.there)) (SrcOk.own (by repeat (first | exact List.Mem.head _ | apply List.Mem.tail)) (by rfl) (by simp [vsOf, Value.oneCell'])) (by first | omega | (unfold lim; omega)) (by first | omega | (unfold lim; omega)) rfl fun a28 c28 hc28 => ?_
          refine RL.nil ⟨keep_same (by repeat (first | exact List.Sublist.refl _ | exact List.nil_sublist _ | apply List.Sublist.cons_cons | apply List.Sublist.cons)), ?_⟩
          refine HL.take 5 rfl (by kernel_rfl) (by kernel_rfl) (by kernel_rfl) rfl (Y.field rfl field31_5) rfl ?_
          refine HL.step 6 rfl (by kernel_rfl) ?_
          refine RL.store (vsOf (idOf (q : Int)) (.slice a28 (k + 1) c28)) rfl rfl (by repeat (first | exact Repl.here _ | apply Repl.there)) (by rfl) (by simp [vsOf]) (by rfl) size28 ?_
          refine RL.nil ⟨keep_same (by repeat (first | exact List.Sublist.refl _ | exact List.nil_sublist _ | apply List.Sublist.cons_cons | apply List.Sublist.cons)), ?_⟩
          refine HL.done (by kernel_rfl) ?_
          refine hK13 _ _ _ ?_
          refine CW.keep (Keep.cons 1 rfl (Keep.cons 4 rfl (Keep.cons 5 rfl (Keep.cons 7 rfl (Keep.nil _))))) ?_
          have hcell : (us ++ vsOf (idN 0) (.slice none 0 0))[k * 15]? = some (vint 0) := by rw [← hul, List.getElem?_append_right (Nat.le_refl _), Nat.sub_self]; rfl
          refine CW.region ?_
          refine RL.q (Y.field rfl field31_5) rfl ?_
          first | refine RL.q (Y.loadOwnV rfl (by repeat (first | exact List.Mem.head _ | apply List.Mem.tail)) (by repeat (first | exact List.Mem.head _ | apply List.Mem.tail)) (by rfl) flat28) rfl ?_ | refine RL.q (Y.loadOwn rfl (by repeat (first | exact List.Mem.head _ | apply List.Mem.tail)) (by rfl) flat28) rfl ?_ | refine RL.loadOwnSl rfl rfl (by repeat (first | exact List.Mem.head _ | apply List.Mem.tail)) (by repeat (first | exact List.Mem.head _ | apply List.Mem.tail)) (by rfl) flat28 rfl fun a31 c31 hu31 hc31 hl31 => ?_
          refine RL.q (Y.field rfl field31_5) rfl ?_
          first | refine RL.q (Y.loadOwnV rfl (by repeat (first | exact List.Mem.head _ | apply List.Mem.tail)) (by repeat (first | exact List.Mem.head _ | apply List.Mem.tail)) (by rfl) flat28) rfl ?_ | refine RL.q (Y.loadOwn rfl (by repeat (first | exact List.Mem.head _ | apply List.Mem.tail)) (by rfl) flat28) rfl ?_ | refine RL.loadOwnSl rfl rfl (by repeat (first | exact List.Mem.head _ | apply List.Mem.tail)) (by repeat (first | exact List.Mem.head _ | apply List.Mem.tail)) (by rfl) flat28 rfl fun a33 c33 hu33 hc33 hl33 => ?_
          refine RL.q (Y.len rfl Try.underlying28) rfl ?_
          refine RL.q (Y.sub rfl rfl (by omega)) rfl ?_
          refine RL.q (Y.move rfl) rfl ?_
          refine RL.q (Y.add rfl rfl (by omega)) rfl ?_
          refine RL.q (Y.build [vint 5, vint (1 + (p : Int)), vint 7] rfl zero24 places24 (by rfl)) rfl ?_
          refine RL.q (Y.indexAcc k rfl rfl (by omega) (by omega) slice28 (by repeat (first | exact List.Mem.head _ | apply List.Mem.tail)) hcell) rfl ?_
          refine RL.q (Y.field rfl field31_0) rfl ?_
          refine RL_storeAggAcc (us ++ vsOf (xid p) (.slice none 0 0)) rfl rfl (splice_leaf hul _ _ _ _ _ rfl) (by rw [List.length_append, hul]; simp [vsOf]) (by simp [Value.oneCell']) size24 ?_
          refine RL.nil ?_
          refine hK12 _ _ _ ?_
          refine CW.keep (Keep.cons 1 rfl (Keep.cons 4 rfl (Keep.cons 5 rfl (Keep.cons 7 rfl (Keep.nil _))))) ?_
          refine CW.region ?_
          refine RL.q (Y.move rfl) rfl ?_
          refine RL.q (Y.add rfl rfl (by omega)) rfl ?_
          refine RL.q (Y.assign rfl) rfl ?_
          refine RL.nil ?_
          refine ⟨j - (p + 1), [(7, _)], ?_, (Keep.cons 7 rfl (Keep.cons 1 rfl (Keep.cons 4 rfl (Keep.cons 5 rfl (Keep.nil _))))), ?_⟩
          · omega
          · exact Turn.drop ⟨[.acc (.slice a28 (k + 1) c28) 31 15 (k + 1) _, .own b5 31 (vsOf (idOf (q : Int)) (.slice a28 (k + 1) c28))], rfl, hsub2, p + 1, _, k + 1, _, _, rfl, by omega, rfl, rfl, by rw [xtr_succ, ← List.append_assoc, List.length_append, hkl]; rfl, by omega, by rw [xtr_succ, ← List.append_assoc, List.flatMap_append, List.flatMap_cons, List.flatMap_nil, List.append_nil]; exact hus.append (vsOf_rd Rd.nilS)⟩ (by repeat (first | exact List.Sublist.refl _ | apply List.Sublist.cons_cons | apply List.Sublist.cons))
    · refine CW.exit ?_
      refine hK8 _ _ _ ?_
      refine CW.seq fun K14 hK14 => ?_
      have hpj : p = j := by omega
      subst hpj
      refine CW.sealAcc (u := .slice a k c) (by repeat (first | exact Pick.here _ | apply Pick.there)) hus (by unfold lim; omega) ?_
      intro M5 a9 c9 hs5 h9 hc9 hr9
      cases h9
      have hfin : RdL M5 (chnM q p).enc (vsOf (idOf (q : Int)) (.slice a k c)) := by rw [chnM_mk]; exact vsOf_rd (by rw [hkl]; exact hr9)
      refine CW.region ?_
      refine RL.q (Y.loadAll rfl (by repeat (first | exact List.Mem.head _ | apply List.Mem.tail)) (by rfl) agg31) rfl ?_
      refine RL.storeAgg (vsOf (idOf (q : Int)) (.slice a k c)) rfl rfl (by repeat (first | exact Repl.here _ | apply Repl.there)) (by rfl) (by simp [vsOf]) (by simp [vsOf, Value.oneCell']) size31 ?_
      refine RL.nil ?_
      refine hK14 _ _ _ ?_
      refine CW.keep (Keep.cons 4 rfl (Keep.nil _)) ?_
      refine CW.ret ?_
      exact CellAt.mk rfl (by repeat (first | exact List.Mem.head _ | apply List.Mem.tail)) (by rfl) agg31 (Turn.drop ⟨hsub.trans (hsub2.trans hs5), rfl, _, rfl, hfin⟩ (by repeat (first | exact List.Sublist.refl _ | apply List.Sublist.cons_cons | apply List.Sublist.cons)))

theorem RL_noU {P : Program} {n : Nat} {w0 : World} {ops : Array Oper} {rest : List Oper} {L : Lm} {M : Mem} {Γ : List As} {K : Lm → Mem → List As → Prop} {op : Op} {ty : TypeId} {pos : String} {after : Array Edge} {j : Nat} {want : Bool} {d t : Nat} (ht : (ops[j]?).bind (·.dst) = some t) (hu : getL L t = some undef) (hd : Nat.blt d n = true)
    (h : RL P n w0 ops rest ((d, undef) :: L) M Γ K) : RL P n w0 ops (⟨some d, op, ty, pos, after, some (j, want)⟩ :: rest) L M Γ K := by
  intro R hR a w ha hw
  have hn : Region.wanted (⟨some d, op, ty, pos, after, some (j, want)⟩ : Oper) (yielded ops a.tmps) = false := by
    have := ha.get t _ hu
    simp only [Region.wanted, yielded, ht, Option.bind_some, this]
    rfl
  unfold wpList
  rw [if_neg (by rw [hn]; simp)]
  exact h R hR _ _ (ha.put hd) hw
theorem splice_app (p q o : List Value) : splice (p ++ q) p.length o = p ++ o ++ q.drop o.length := by
  rw [splice, List.take_left' rfl, ← List.drop_drop, List.drop_left' rfl]
theorem fill3 {sz : Nat} {v v' v'' : Value} {o1 o2 o3 : List Value} (h : cellsL v = o1) (hl : o1.length = sz) (h' : cellsL v' = o2) (hl' : o2.length = sz) (h'' : cellsL v'' = o3) (hl'' : o3.length = sz) : ∀ zs : List Value, zs.length = 3 * sz → fillL (fun i => some (i * sz, sz)) zs ([(0, v), (1, v'), (2, v'')].map fun p => (p.1, cellsL p.2)) = some (o1 ++ o2 ++ o3) := fun zs hz => by
  have h1 : (splice zs 0 o1).length = 3 * sz := by rw [splice_length (by omega), hz]
  have h2 : (splice (splice zs 0 o1) sz o2).length = 3 * sz := by rw [splice_length (by omega), h1]
  have e1 : splice zs 0 o1 = o1 ++ zs.drop sz := by simp [splice, hl]
  have e2 : splice (o1 ++ zs.drop sz) sz o2 = (o1 ++ o2) ++ zs.drop (sz + sz) := by
    have := splice_app o1 (zs.drop sz) o2
    rw [hl] at this
    rw [this, hl', List.drop_drop]
  have e3 : splice ((o1 ++ o2) ++ zs.drop (sz + sz)) (2 * sz) o3 = o1 ++ o2 ++ o3 := by
    have := splice_app (o1 ++ o2) (zs.drop (sz + sz)) o3
    rw [List.length_append, hl, hl'] at this
    rw [Nat.two_mul, this, List.drop_drop, List.drop_of_length_le (by omega), List.append_nil]
  simp only [List.map_cons, List.map_nil, h, h', h'', fillL, hl, hl', hl'', hz, Nat.zero_mul, Nat.zero_add, Nat.one_mul]
  rw [if_pos ⟨trivial, by omega⟩, h1, if_pos ⟨trivial, by omega⟩, h2, if_pos ⟨trivial, by omega⟩, e1, e2, e3]
noncomputable def gb (x : Ex) : Value := .bool (decide (good x))
theorem gb_of {x : Ex} {p : Prop} [Decidable p] (h : p ↔ good x) : Value.bool (decide p) = gb x := by
  unfold gb
  rw [Value.bool.injEq, decide_eq_decide]
  exact h
theorem MatchR_form {x a : Ex} {M : Mem} {v : Value} (ha : good a) (h : MatchR x a M v) : ∃ l n d ul ud, v = .tuple #[ul, vint n, ud] ∧ Rd M (PairD.encs l) ul ∧ Rd M (dtab d) ud ∧ l.length ≤ 1000 ∧ d.length ≤ 1000 ∧ (good x ↔ 0 ≤ n) ∧ (good x → CheckR x a l n d = 0) ∧ (¬ good x → CheckR x a l n d = 1 ∧ l.length = 0 ∧ d.length = 0) := by
  by_cases hg : good x
  · obtain ⟨d, n, Q, up, ud, rfl, hb, hp, hd⟩ := h.1 ⟨hg, ha⟩
    have h1 := leastV_eq ⟨hg, ha⟩ hb
    have h2 := leastV_nonneg ⟨hg, ha⟩
    have h3 := hb.mt.len
    have h4 := pon_le hg
    have h5 := hb.fix.ok.len
    refine ⟨_, n, d, up, ud, rfl, hp, hd, by rw [List.length_map]; omega, by omega, ⟨fun _ => by omega, fun _ => hg⟩, fun _ => CheckR_yes ⟨hg, ha⟩ (hb.check ⟨hg, ha⟩), fun h => absurd hg h⟩
  · obtain rfl := h.2 fun h => hg h.1
    exact ⟨[], -1, [], _, _, rfl, Rd.nilS, Rd.nilS, by simp, by simp, ⟨fun h => absurd h hg, fun h => absurd h (by decide)⟩, fun h => absurd h hg, fun _ => ⟨CheckR_bad fun h => hg h.1, rfl, rfl⟩⟩
theorem CostR_nil {x a : Ex} (ha : good a) : (good x → (CostR a x []).2 = 0) ∧ (¬ good x → (CostR a x []).2 = 1) := by
  refine ⟨fun h => ?_, fun h => ?_⟩
  · rw [CostR_some (n := ((pon a 0).length : Int) + (pon x 0).length - 2 * ([] : List PairD).length) ⟨ha, h⟩ rfl]
  · rw [CostR_bad fun h' => h h'.2]

set_option maxHeartbeats 4000000 in
theorem MatchUsable_ok (w0 : World) (M : Mem) (Γ : List As) (l : List Int) (lv1 sz2 at3 : Int) (ul : Value) (hl : Rd M (dints l) ul) (hli : ∀ x ∈ l, InI x) (h1i : InI lv1) (h2i : InI sz2) (h3i : InI at3) :
    CallOk Try.prog w0 M Γ 10 #[ul, vint lv1, vint sz2, vint at3] (Is M Γ (.bool true)) := by
  obtain ⟨a, ha⟩ : ∃ a, a = tree l 11 0 := ⟨_, rfl⟩
  have hga : good a := ha ▸ tree_good l 11 0 (by omega) (by omega)
  have hsa := tree_size l 11 0 (by omega)
  have hia := tree_id0 l 11 (by omega)
  rw [← ha] at hsa hia
  have hr1 := around_lt lv1 5 (by omega)
  have hr2 := around_lt sz2 5 (by omega)
  obtain ⟨q1, hq1⟩ : ∃ q : Nat, 22 + around lv1 5 = ((q + 1 : Nat) : Int) := ⟨(21 + around lv1 5).toNat, by omega⟩
  obtain ⟨q2, hq2⟩ : ∃ q : Nat, 126 + around sz2 5 - ((q1 + 1 : Nat) : Int) + ((q1 + 1 : Nat) : Int) - 2 = (q : Int) := ⟨(124 + around sz2 5).toNat, by omega⟩
  have hbad := edd_bad (x := at3) (w := at3) hia
  refine enter (f := 10) Try.func10 rfl Try.ntmps10 rfl rfl fun w1 hw1 => ?_
  refine CW.seq fun K1 hK1 => ?_
  refine CW.region ?_
  refine RL.q (Y.assign rfl) rfl ?_
  refine RL.nil ?_
  refine hK1 _ _ _ ?_
  refine CW.keep (Keep.cons 0 rfl (Keep.cons 1 rfl (Keep.cons 2 rfl (Keep.cons 3 rfl (Keep.nil _))))) ?_
  refine CW.seq fun K2 hK2 => ?_
  refine CW.region ?_
  refine RL.q (Y.move rfl) rfl ?_
  refine RL.call rfl func11 rfl rfl (ha ▸ tree_ok _ _ _ l _ 11 0 (hl) hli (by omega) (by omega)) ?_
  rintro _ M25 Γ ⟨hs25, rfl, us25, rfl, hu25⟩
  have hul25 : us25.length = 15 := hu25.1.trans (Ex.enc_len _)
  refine RL.alloc _ zero31 rfl rfl fun b9 => ?_
  refine RL.storeAgg us25 rfl rfl (by repeat (first | exact Repl.here _ | apply Repl.there)) (by simp [hul25]) (by simp [hul25]) (fun _ _ => hu25.one) (by rw [hul25]; exact size31) ?_
  refine RL.nil ?_
  refine hK2 _ _ _ ?_
  refine CW.keep (Keep.cons 1 rfl (Keep.cons 2 rfl (Keep.cons 3 rfl (Keep.cons 9 rfl (Keep.nil _))))) ?_
  refine CW.seq fun K3 hK3 => ?_
  refine CW.region ?_
  refine RL.q (Y.move rfl) rfl ?_
  refine RL.callv rfl func12 rfl rfl (around_ok _ _ _ lv1 5 h1i (by omega)) ?_
  refine RL.q (Y.add rfl rfl (by omega)) rfl ?_
  refine RL.q (Y.assign rfl) rfl ?_
  refine RL.nil ?_
  refine hK3 _ _ _ ?_
  refine CW.keep (Keep.cons 2 rfl (Keep.cons 3 rfl (Keep.cons 9 rfl (Keep.cons 10 rfl (Keep.nil _))))) ?_
  rw [hq1]
  refine CW.seq fun K4 hK4 => ?_
  refine CW.region ?_
  refine RL.q (Y.move rfl) rfl ?_
  refine RL.callv rfl func12 rfl rfl (around_ok _ _ _ sz2 5 h2i (by omega)) ?_
  refine RL.q (Y.add rfl rfl (by omega)) rfl ?_
  refine RL.q (Y.move rfl) rfl ?_
  refine RL.q (Y.sub rfl rfl (by omega)) rfl ?_
  refine RL.q (Y.assign rfl) rfl ?_
  refine RL.nil ?_
  refine hK4 _ _ _ ?_
  refine CW.keep (Keep.cons 3 rfl (Keep.cons 9 rfl (Keep.cons 10 rfl (Keep.cons 11 rfl (Keep.nil _))))) ?_
  refine CW.seq fun K5 hK5 => ?_
  refine CW.region ?_
  refine RL.q (Y.move rfl) rfl ?_
  refine RL.call rfl func32 rfl rfl (chain_ok _ _ _ q1 0 (by omega) (by omega)) ?_
  rintro _ M35 _ ⟨hs35, rfl, us35, rfl, hu35⟩
  have hul35 : us35.length = 15 := hu35.1.trans (Ex.enc_len _)
  refine RL.alloc _ zero31 rfl rfl fun b12 => ?_
  refine RL.storeAgg us35 rfl rfl (by repeat (first | exact Repl.here _ | apply Repl.there)) (by simp [hul35]) (by simp [hul35]) (fun _ _ => hu35.one) (by rw [hul35]; exact size31) ?_
  refine RL.nil ?_
  refine hK5 _ _ _ ?_
  refine CW.keep (Keep.cons 3 rfl (Keep.cons 9 rfl (Keep.cons 10 rfl (Keep.cons 11 rfl (Keep.cons 12 rfl (Keep.nil _)))))) ?_
  refine CW.seq fun K6 hK6 => ?_
  refine CW.region ?_
  refine RL.q (Y.move rfl) rfl ?_
  refine RL.q (Y.move rfl) rfl ?_
  refine RL.q (Y.add rfl rfl (by omega)) rfl ?_
  refine RL.q (Y.sub rfl rfl (by omega)) rfl ?_
  rw [hq2]
  refine RL.call rfl func32 rfl rfl (chain_ok _ _ _ 1 q2 (by omega) (by omega)) ?_
  rintro _ M40 _ ⟨hs40, rfl, us40, rfl, hu40⟩
  have hul40 : us40.length = 15 := hu40.1.trans (Ex.enc_len _)
  refine RL.alloc _ zero31 rfl rfl fun b13 => ?_
  refine RL.storeAgg us40 rfl rfl (by repeat (first | exact Repl.here _ | apply Repl.there)) (by simp [hul40]) (by simp [hul40]) (fun _ _ => hu40.one) (by rw [hul40]; exact size31) ?_
  refine RL.nil ?_
  refine hK6 _ _ _ ?_
  refine CW.keep (Keep.cons 3 rfl (Keep.cons 9 rfl (Keep.cons 10 rfl (Keep.cons 11 rfl (Keep.cons 12 rfl (Keep.cons 13 rfl (Keep.nil _))))))) ?_
  refine CW.cut (fun L' M' Γ' => ∃ (b14 : Nat) (us45 : List Value), Keep L' [(9, .pointer (some (adr (some ⟨b9, 0, none⟩) 0))), (10, vint ((q1 + 1 : Nat) : Int)), (11, vint (126 + around sz2 5 - ((q1 + 1 : Nat) : Int))), (12, .pointer (some (adr (some ⟨b12, 0, none⟩) 0))), (13, .pointer (some (adr (some ⟨b13, 0, none⟩) 0))), (14, .pointer (some (adr (some ⟨b14, 0, none⟩) 0)))] ∧ Sub M40 M' ∧ RdL M' (edd a at3 1 at3 (idOf ((0 : Nat) : Int))).enc us45 ∧ ∀ w, St w0 M' Γ' w → St w0 M' (.own b14 31 us45 :: .own b13 31 us40 :: .own b12 31 us35 :: .own b9 31 us25 :: Γ) w) ?_ ?_
  · refine CW.regionH mix _ _ (fun _ hw => hw) ?_
    refine HL.take 0 rfl (by kernel_rfl) (by kernel_rfl) (by kernel_rfl) rfl (Y.loadAll rfl (by repeat (first | exact List.Mem.head _ | apply List.Mem.tail)) hul25 agg31) rfl ?_
    refine HL.take 1 rfl (by kernel_rfl) (by kernel_rfl) (by kernel_rfl) rfl (Y.move rfl) rfl ?_
    refine HL.take 2 rfl (by kernel_rfl) (by kernel_rfl) (by kernel_rfl) rfl (Y.move rfl) rfl ?_
    refine HL.step2 3 5 rfl rfl (by kernel_rfl) ?_ ?_
    · refine RL.callv rfl func30 rfl rfl (idOf_ok _ _ _ ((0 : Nat) : Int) (by omega)) ?_
      refine RL.nil ⟨(by first | exact keep_same (by repeat (first | exact List.Sublist.refl _ | exact List.nil_sublist _ | apply List.Sublist.cons_cons | apply List.Sublist.cons)) | exact keep_more hs45 (by repeat (first | exact List.Sublist.refl _ | exact List.nil_sublist _ | apply List.Sublist.cons_cons | apply List.Sublist.cons))), ?_⟩
      refine HL.step2 4 5 rfl rfl (by kernel_rfl) ?_ ?_
      · refine RL.call rfl func28 rfl rfl (edd_ok _ _ _ a at3 1 at3 (idOf ((0 : Nat) : Int)) us25 ⟨hsa.1, by omega⟩ h3i (by unfold InI; omega) h3i (hu25.mono (hs35.trans (hs40)))) ?_
        rintro _ M45 _ ⟨hs45, rfl, us45, rfl, hu45⟩
        have hul45 : us45.length = 15 := hu45.1.trans (Ex.enc_len _)
        refine RL.nil ⟨(by first | exact keep_same (by repeat (first | exact List.Sublist.refl _ | exact List.nil_sublist _ | apply List.Sublist.cons_cons | apply List.Sublist.cons)) | exact keep_more hs45 (by repeat (first | exact List.Sublist.refl _ | exact List.nil_sublist _ | apply List.Sublist.cons_cons | apply List.Sublist.cons))), ?_⟩
        refine HL.step 5 rfl (by kernel_rfl) ?_
        refine RL.alloc _ zero31 rfl rfl fun b14 => ?_
        refine RL.nil ⟨(by first | exact keep_same (by repeat (first | exact List.Sublist.refl _ | exact List.nil_sublist _ | apply List.Sublist.cons_cons | apply List.Sublist.cons)) | exact keep_more hs45 (by repeat (first | exact List.Sublist.refl _ | exact List.nil_sublist _ | apply List.Sublist.cons_cons | apply List.Sublist.cons))), ?_⟩
        refine HL.step 6 rfl (by kernel_rfl) ?_
        refine RL.storeAgg us45 rfl rfl (by repeat (first | exact Repl.here _ | apply Repl.there)) (by simp [hul45]) (by simp [hul45]) (fun _ _ => hu45.one) (by rw [hul45]; exact size31) ?_
        refine RL.nil ⟨(by first | exact keep_same (by repeat (first | exact List.Sublist.refl _ | exact List.nil_sublist _ | apply List.Sublist.cons_cons | apply List.Sublist.cons)) | exact keep_more hs45 (by repeat (first | exact List.Sublist.refl _ | exact List.nil_sublist _ | apply List.Sublist.cons_cons | apply List.Sublist.cons))), ?_⟩
        refine HL.done (by kernel_rfl) ?_
        dsimp only [thenX]
        exact ⟨b14, us45, (by repeat (first | exact Keep.nil _ | refine Keep.cons _ rfl ?_)), hs45, hu45, fun _ hw => hw.sub (by repeat (first | exact List.Sublist.refl _ | exact List.nil_sublist _ | apply List.Sublist.cons_cons | apply List.Sublist.cons))⟩
      · refine RL.alloc _ zero31 rfl rfl fun b14 => ?_
        refine RL.nil ⟨(by first | exact keep_same (by repeat (first | exact List.Sublist.refl _ | exact List.nil_sublist _ | apply List.Sublist.cons_cons | apply List.Sublist.cons)) | exact keep_more hs45 (by repeat (first | exact List.Sublist.refl _ | exact List.nil_sublist _ | apply List.Sublist.cons_cons | apply List.Sublist.cons))), ?_⟩
        refine HL.step 4 rfl (by kernel_rfl) ?_
        refine RL.call rfl func28 rfl rfl (edd_ok _ _ _ a at3 1 at3 (idOf ((0 : Nat) : Int)) us25 ⟨hsa.1, by omega⟩ h3i (by unfold InI; omega) h3i (hu25.mono (hs35.trans (hs40)))) ?_
        rintro _ M45 _ ⟨hs45, rfl, us45, rfl, hu45⟩
        have hul45 : us45.length = 15 := hu45.1.trans (Ex.enc_len _)
        refine RL.nil ⟨(by first | exact keep_same (by repeat (first | exact List.Sublist.refl _ | exact List.nil_sublist _ | apply List.Sublist.cons_cons | apply List.Sublist.cons)) | exact keep_more hs45 (by repeat (first | exact List.Sublist.refl _ | exact List.nil_sublist _ | apply List.Sublist.cons_cons | apply List.Sublist.cons))), ?_⟩
        refine HL.step 6 rfl (by kernel_rfl) ?_
        refine RL.storeAgg us45 rfl rfl (by repeat (first | exact Repl.here _ | apply Repl.there)) (by simp [hul45]) (by simp [hul45]) (fun _ _ => hu45.one) (by rw [hul45]; exact size31) ?_
        refine RL.nil ⟨(by first | exact keep_same (by repeat (first | exact List.Sublist.refl _ | exact List.nil_sublist _ | apply List.Sublist.cons_cons | apply List.Sublist.cons)) | exact keep_more hs45 (by repeat (first | exact List.Sublist.refl _ | exact List.nil_sublist _ | apply List.Sublist.cons_cons | apply List.Sublist.cons))), ?_⟩
        refine HL.done (by kernel_rfl) ?_
        dsimp only [thenX]
        exact ⟨b14, us45, (by repeat (first | exact Keep.nil _ | refine Keep.cons _ rfl ?_)), hs45, hu45, fun _ hw => hw.sub (by repeat (first | exact List.Sublist.refl _ | exact List.nil_sublist _ | apply List.Sublist.cons_cons | apply List.Sublist.cons))⟩
    · refine RL.alloc _ zero31 rfl rfl fun b14 => ?_
      refine RL.nil ⟨(by first | exact keep_same (by repeat (first | exact List.Sublist.refl _ | exact List.nil_sublist _ | apply List.Sublist.cons_cons | apply List.Sublist.cons)) | exact keep_more hs45 (by repeat (first | exact List.Sublist.refl _ | exact List.nil_sublist _ | apply List.Sublist.cons_cons | apply List.Sublist.cons))), ?_⟩
      refine HL.step 3 rfl (by kernel_rfl) ?_
      refine RL.callv rfl func30 rfl rfl (idOf_ok _ _ _ ((0 : Nat) : Int) (by omega)) ?_
      refine RL.nil ⟨(by first | exact keep_same (by repeat (first | exact List.Sublist.refl _ | exact List.nil_sublist _ | apply List.Sublist.cons_cons | apply List.Sublist.cons)) | exact keep_more hs45 (by repeat (first | exact List.Sublist.refl _ | exact List.nil_sublist _ | apply List.Sublist.cons_cons | apply List.Sublist.cons))), ?_⟩
      refine HL.step 4 rfl (by kernel_rfl) ?_
      refine RL.call rfl func28 rfl rfl (edd_ok _ _ _ a at3 1 at3 (idOf ((0 : Nat) : Int)) us25 ⟨hsa.1, by omega⟩ h3i (by unfold InI; omega) h3i (hu25.mono (hs35.trans (hs40)))) ?_
      rintro _ M45 _ ⟨hs45, rfl, us45, rfl, hu45⟩
      have hul45 : us45.length = 15 := hu45.1.trans (Ex.enc_len _)
      refine RL.nil ⟨(by first | exact keep_same (by repeat (first | exact List.Sublist.refl _ | exact List.nil_sublist _ | apply List.Sublist.cons_cons | apply List.Sublist.cons)) | exact keep_more hs45 (by repeat (first | exact List.Sublist.refl _ | exact List.nil_sublist _ | apply List.Sublist.cons_cons | apply List.Sublist.cons))), ?_⟩
      refine HL.step 6 rfl (by kernel_rfl) ?_
      refine RL.storeAgg us45 rfl rfl (by repeat (first | exact Repl.here _ | apply Repl.there)) (by simp [hul45]) (by simp [hul45]) (fun _ _ => hu45.one) (by rw [hul45]; exact size31) ?_
      refine RL.nil ⟨(by first | exact keep_same (by repeat (first | exact List.Sublist.refl _ | exact List.nil_sublist _ | apply List.Sublist.cons_cons | apply List.Sublist.cons)) | exact keep_more hs45 (by repeat (first | exact List.Sublist.refl _ | exact List.nil_sublist _ | apply List.Sublist.cons_cons | apply List.Sublist.cons))), ?_⟩
      refine HL.done (by kernel_rfl) ?_
      dsimp only [thenX]
      exact ⟨b14, us45, (by repeat (first | exact Keep.nil _ | refine Keep.cons _ rfl ?_)), hs45, hu45, fun _ hw => hw.sub (by repeat (first | exact List.Sublist.refl _ | exact List.nil_sublist _ | apply List.Sublist.cons_cons | apply List.Sublist.cons))⟩
  · rintro _ M45 Γ6 ⟨b14, us45, hk6, hs45, hu45, hG6⟩
    refine CW.pre ?_ hk6 hG6
    have hul45 : us45.length = 15 := hu45.1.trans (Ex.enc_len _)
    refine CW.seq fun K7 hK7 => ?_
    refine CW.region ?_
    refine RL.q (Y.loadAll rfl (by repeat (first | exact List.Mem.head _ | apply List.Mem.tail)) hul35 agg31) rfl ?_
    refine RL.q (Y.loadAll rfl (by repeat (first | exact List.Mem.head _ | apply List.Mem.tail)) hul40 agg31) rfl ?_
    refine RL.q (Y.loadAll rfl (by repeat (first | exact List.Mem.head _ | apply List.Mem.tail)) hul45 agg31) rfl ?_
    refine RL.buildSlice (us35 ++ us40 ++ us45) elem28 rfl (by decide) (fill3 rfl hul35 rfl hul40 rfl hul45) rfl fun b49 => ?_
    refine RL.q (Y.assign rfl) rfl ?_
    refine RL.nil ?_
    refine hK7 _ _ _ ?_
    refine CW.keep (Keep.cons 9 rfl (Keep.cons 10 rfl (Keep.cons 11 rfl (Keep.cons 14 rfl (Keep.cons 15 rfl (Keep.nil _)))))) ?_
    obtain ⟨ks, hks⟩ : ∃ ks : List Ex, ks = [chnM q1 0, chnM 1 q2, (edd a at3 1 at3 (idOf ((0 : Nat) : Int)))] := ⟨_, rfl⟩
    have hkl : ks.length = 3 := by rw [hks]; rfl
    refine CW.sealOwn (b := b49) (k := 3) (sz := 15) (ds := ks.flatMap Ex.enc) (by repeat (first | exact Pick.here _ | apply Pick.there)) (by rw [hks, List.flatMap_cons, List.flatMap_cons, List.flatMap_cons, List.flatMap_nil, List.append_nil, ← List.append_assoc]; exact ((hu35.mono (hs40.trans (hs45))).append (hu40.mono hs45)).append hu45) (by simp [hul35, hul40, hul45]) (by unfold lim; omega) fun M7 hs7 hxk => ?_
    refine CW.cut (fun L' M' Γ' => ∃ (b61 : Nat), Keep L' [(9, .pointer (some (adr (some ⟨b9, 0, none⟩) 0))), (15, .slice (some ⟨b49, 0, none⟩) 3 3), (16, .slice (some ⟨b61, 0, none⟩) 3 3)] ∧ M' = M7 ∧ ∀ w, St w0 M' Γ' w → St w0 M7 (.own b61 4 [.bool (decide (((q1 + 1 : Nat) : Int) ≤ 24)), .bool (decide (126 + around sz2 5 - ((q1 + 1 : Nat) : Int) + ((q1 + 1 : Nat) : Int) ≤ 128)), .bool (decide (((edd a at3 1 at3 (idOf ((0 : Nat) : Int))).size : Int) = (a.size : Int)))] :: .own b14 31 us45 :: .own b13 31 us40 :: .own b12 31 us35 :: .own b9 31 us25 :: Γ) w) ?_ ?_
    · refine CW.regionH mix _ _ (fun _ hw => hw) ?_
      refine HL.take 0 rfl (by kernel_rfl) (by kernel_rfl) (by kernel_rfl) rfl (Y.move rfl) rfl ?_
      refine HL.take 1 rfl (by kernel_rfl) (by kernel_rfl) (by kernel_rfl) rfl (Y.leq rfl rfl) rfl ?_
      refine HL.take 2 rfl (by kernel_rfl) (by kernel_rfl) (by kernel_rfl) rfl (Y.move rfl) rfl ?_
      refine HL.take 3 rfl (by kernel_rfl) (by kernel_rfl) (by kernel_rfl) rfl (Y.move rfl) rfl ?_
      refine HL.take 4 rfl (by kernel_rfl) (by kernel_rfl) (by kernel_rfl) rfl (Y.add rfl rfl (by omega)) rfl ?_
      refine HL.take 5 rfl (by kernel_rfl) (by kernel_rfl) (by kernel_rfl) rfl (Y.leq rfl rfl) rfl ?_
      refine HL.take 6 rfl (by kernel_rfl) (by kernel_rfl) (by kernel_rfl) rfl (Y.loadAll rfl (by repeat (first | exact List.Mem.head _ | apply List.Mem.tail)) hul45 agg31) rfl ?_
      refine HL.take 8 rfl (by kernel_rfl) (by kernel_rfl) (by kernel_rfl) rfl (Y.loadAll rfl (by repeat (first | exact List.Mem.head _ | apply List.Mem.tail)) hul25 agg31) rfl ?_
      refine HL.step 7 rfl (by kernel_rfl) ?_
      refine RL.callv rfl func20 rfl rfl (rsize_ok _ _ _ _ (edd a at3 1 at3 (idOf ((0 : Nat) : Int))) us45 rfl (hu45.mono hs7) (by rw [hbad.2]; omega)) ?_
      refine RL.nil ⟨keep_same (by repeat (first | exact List.Sublist.refl _ | exact List.nil_sublist _ | apply List.Sublist.cons_cons | apply List.Sublist.cons)), ?_⟩
      refine HL.step 9 rfl (by kernel_rfl) ?_
      refine RL.callv rfl func20 rfl rfl (rsize_ok _ _ _ _ a us25 rfl (hu25.mono (hs35.trans (hs40.trans (hs45.trans (hs7))))) (by omega)) ?_
      refine RL.nil ⟨keep_same (by repeat (first | exact List.Sublist.refl _ | exact List.nil_sublist _ | apply List.Sublist.cons_cons | apply List.Sublist.cons)), ?_⟩
      refine HL.take 10 rfl (by kernel_rfl) (by kernel_rfl) (by kernel_rfl) rfl (Y.eql rfl rfl) rfl ?_
      refine HL.step 11 rfl (by kernel_rfl) ?_
      refine RL.buildSlice [.bool (decide (((q1 + 1 : Nat) : Int) ≤ 24)), .bool (decide (126 + around sz2 5 - ((q1 + 1 : Nat) : Int) + ((q1 + 1 : Nat) : Int) ≤ 128)), .bool (decide (((edd a at3 1 at3 (idOf ((0 : Nat) : Int))).size : Int) = (a.size : Int)))] elem71 rfl (by decide) (fun zs hz => by obtain ⟨z1, z2, z3, rfl⟩ := three hz; rfl) rfl fun b61 => ?_
      refine RL.nil ⟨keep_same (by repeat (first | exact List.Sublist.refl _ | exact List.nil_sublist _ | apply List.Sublist.cons_cons | apply List.Sublist.cons)), ?_⟩
      refine HL.take 12 rfl (by kernel_rfl) (by kernel_rfl) (by kernel_rfl) rfl (Y.assign rfl) rfl ?_
      refine HL.done (by kernel_rfl) ?_
      dsimp only [thenX]
      exact ⟨b61, (by repeat (first | exact Keep.nil _ | refine Keep.cons _ rfl ?_)), rfl, fun _ hw => hw⟩
    · rintro _ M7 Γ8 ⟨b61, hk8, rfl, hG8⟩
      refine CW.pre ?_ hk8 hG8
      have hbe : [.bool (decide (((q1 + 1 : Nat) : Int) ≤ 24)), .bool (decide (126 + around sz2 5 - ((q1 + 1 : Nat) : Int) + ((q1 + 1 : Nat) : Int) ≤ 128)), .bool (decide (((edd a at3 1 at3 (idOf ((0 : Nat) : Int))).size : Int) = (a.size : Int)))] = ks.map gb := by rw [hks]; show _ = [gb _, gb _, gb _]; rw [gb_of (x := chnM q1 0) (by rw [chnM_0, chn_good (by omega)]; omega), gb_of (x := chnM 1 q2) (by rw [chnM_good]; omega), gb_of (x := (edd a at3 1 at3 (idOf ((0 : Nat) : Int)))) (by rw [hbad.2]; exact ⟨fun h => by omega, fun h => absurd h hbad.1⟩)]
      rw [hbe]
      refine CW.sealOwn (b := b61) (k := 3) (sz := 1) (ds := (ks.map gb).map D.v) (by repeat (first | exact Pick.here _ | apply Pick.there)) (RdL.vals (by intro v hv; obtain ⟨x, _, rfl⟩ := List.mem_map.1 hv; rfl)) (by rw [List.length_map, hkl]) (by unfold lim; omega) fun M8 hs8 hxb => ?_
      refine CW.seq fun K8 hK8 => ?_
      refine CW.seq fun K9 hK9 => ?_
      refine CW.region ?_
      refine RL.q (Y.assign rfl) rfl ?_
      refine RL.nil ?_
      refine hK9 _ _ _ ?_
      refine CW.keep (Keep.cons 9 rfl (Keep.cons 15 rfl (Keep.cons 16 rfl (Keep.cons 17 rfl (Keep.nil _))))) ?_
      refine CW.block ?_
      -- LOOP 1: live [9, 15, 16, 17] changed [17]
      refine CW.keep (Keep.cons 17 rfl (Keep.cons 9 rfl (Keep.cons 15 rfl (Keep.cons 16 rfl (Keep.nil _))))) ?_
      refine CW.loopF (fun mm Lc M3 Γc => ∃ i : Nat, mm = 3 - i ∧ i ≤ 3 ∧ Lc = [(17, vint i)] ∧ Γc = []) 3 [(17, _)] [] rfl rfl ⟨0, rfl, by omega, rfl, rfl⟩ ?_
      rintro mm Lc M3 Γc hsub ⟨i, rfl, hi, rfl, rfl⟩
      refine CW.seq fun K10 hK10 => ?_
      refine CW.seq fun K11 hK11 => ?_
      refine CW.region ?_
      refine RL.q (Y.move rfl) rfl ?_
      refine RL.q (Y.lss rfl rfl) rfl ?_
      refine RL.nil ?_
      refine hK11 _ _ _ ?_
      refine CW.keep (Keep.cons 9 rfl (Keep.cons 15 rfl (Keep.cons 16 rfl (Keep.cons 17 rfl (Keep.cons 63 rfl (Keep.nil _)))))) ?_
      refine CW.ite rfl (fun h1 => ?_) (fun h1 => ?_)
      · refine CW.skip ?_
        refine hK10 _ _ _ ?_
        refine CW.seq fun K12 hK12 => ?_
        refine CW.block ?_
        refine CW.seq fun K13 hK13 => ?_
        have hik : i < ks.length := by omega
        have hsA := (hs35.trans (hs40.trans (hs45.trans (hs7.trans (hs8.trans (hsub))))))
        have hksI := Rd.mono (hs8.trans hsub) _ _ hxk
        refine CW.addRd hksI ?_
        refine CW.regionH mix _ _ (fun _ hw => hw) ?_
        refine HL.take 0 rfl (by kernel_rfl) (by kernel_rfl) (by kernel_rfl) rfl (Y.move rfl) rfl ?_
        refine HL.take 1 rfl (by kernel_rfl) (by kernel_rfl) (by kernel_rfl) rfl (Y.move rfl) rfl ?_
        refine HL.take 2 rfl (by kernel_rfl) (by kernel_rfl) (by kernel_rfl) rfl (Y.indexP i rfl rfl rfl (by omega) slice28 hksI) rfl ?_
        refine HL.loadAgg 3 rfl (by kernel_rfl) (by kernel_rfl) (by kernel_rfl) rfl rfl (by repeat (first | exact List.Mem.head _ | apply List.Mem.tail)) (flat_take Ex.enc_len _ i _ (List.getElem?_eq_getElem hik)) (by first | rfl | exact Ex.enc_len _ | exact Ty.enc_len _ | exact MNode.enc_len _ | exact RNode.enc_len _) agg31 rfl fun us70 hul70 hur70 => ?_
        refine HL.take 4 rfl (by kernel_rfl) (by kernel_rfl) (by kernel_rfl) rfl (Y.loadAll rfl (by repeat (first | exact List.Mem.head _ | apply List.Mem.tail)) hul25 agg31) rfl ?_
        refine HL.step 5 rfl (by kernel_rfl) ?_
        refine RL.call rfl func13 rfl rfl (match_ok _ _ _ ks[i] a us70 us25 hur70 (hu25.mono hsA)) ?_
        rintro v72 M72 _ ⟨hs72, rfl, hR⟩
        obtain ⟨l0, n0, d0, ul0, ud0, rfl, hl0, hd0, hll0, hdl0, hn0, hc0, hc1⟩ := MatchR_form hga hR
        obtain ⟨al0, cl0, rfl, _, _, _⟩ := hl0.slice
        obtain ⟨ad0, cd0, rfl, _, _, _⟩ := hd0.slice
        refine RL.nil ⟨keep_more hs72 (by repeat (first | exact List.Sublist.refl _ | exact List.nil_sublist _ | apply List.Sublist.cons_cons | apply List.Sublist.cons)), ?_⟩
        refine HL.take 6 rfl (by kernel_rfl) (by kernel_rfl) (by kernel_rfl) rfl (Y.move rfl) rfl ?_
        refine HL.take 7 rfl (by kernel_rfl) (by kernel_rfl) (by kernel_rfl) rfl (Y.extract rfl rfl) rfl ?_
        refine HL.take 8 rfl (by kernel_rfl) (by kernel_rfl) (by kernel_rfl) rfl (Y.extract rfl rfl) rfl ?_
        refine HL.take 9 rfl (by kernel_rfl) (by kernel_rfl) (by kernel_rfl) rfl (Y.extract rfl rfl) rfl ?_
        refine HL.take 10 rfl (by kernel_rfl) (by kernel_rfl) (by kernel_rfl) rfl (Y.assign rfl) rfl ?_
        refine HL.take 11 rfl (by kernel_rfl) (by kernel_rfl) (by kernel_rfl) rfl (Y.assign rfl) rfl ?_
        refine HL.take 12 rfl (by kernel_rfl) (by kernel_rfl) (by kernel_rfl) rfl (Y.assign rfl) rfl ?_
        refine HL.done (by kernel_rfl) ?_
        refine hK13 _ _ _ ?_
        refine CW.keep (Keep.cons 9 rfl (Keep.cons 15 rfl (Keep.cons 16 rfl (Keep.cons 17 rfl (Keep.cons 18 rfl (Keep.cons 19 rfl (Keep.cons 20 rfl (Keep.nil _)))))))) ?_
        refine CW.seq fun K14 hK14 => ?_
        have hsB := hsA.trans hs72
        have hksI := Rd.mono hs72 _ _ hksI
        refine CW.addRd hksI ?_
        refine CW.regionQ mix (by kernel_rfl) ?_
        refine QL.q (Y.loadAll rfl (by repeat (first | exact List.Mem.head _ | apply List.Mem.tail)) hul25 agg31) rfl ?_
        refine QL.q (Y.move rfl) rfl ?_
        refine QL.q (Y.move rfl) rfl ?_
        refine QL.q (Y.indexP i rfl rfl rfl (by omega) slice28 hksI) rfl ?_
        refine QL.loadAgg rfl rfl (by repeat (first | exact List.Mem.head _ | apply List.Mem.tail)) (flat_take Ex.enc_len _ i _ (List.getElem?_eq_getElem hik)) (by first | rfl | exact Ex.enc_len _ | exact Ty.enc_len _ | exact MNode.enc_len _ | exact RNode.enc_len _) agg31 rfl fun us81 hul81 hur81 => ?_
        refine QL.callv rfl func23 rfl rfl (fun _ _ => mCost_ok _ _ _ a ks[i] us25 us81 [] _ (hu25.mono hsB) hur81 Rd.nilS (by simp)) ?_
        refine QL.q (Y.move rfl) rfl ?_
        refine QL.q (Y.extract rfl rfl) rfl ?_
        refine QL.q (Y.extract rfl rfl) rfl ?_
        refine QL.q (Y.assign rfl) rfl ?_
        refine QL.q (Y.assign rfl) rfl ?_
        refine QL.nil ?_
        refine hK14 _ _ _ ?_
        refine CW.keep (Keep.cons 9 rfl (Keep.cons 15 rfl (Keep.cons 16 rfl (Keep.cons 17 rfl (Keep.cons 18 rfl (Keep.cons 19 rfl (Keep.cons 20 rfl (Keep.cons 22 rfl (Keep.nil _))))))))) ?_
        refine CW.seq fun K15 hK15 => ?_
        refine CW.addRd hksI ?_
        refine CW.regionQ mix (by kernel_rfl) ?_
        refine QL.q (Y.move rfl) rfl ?_
        refine QL.q (Y.move rfl) rfl ?_
        refine QL.q (Y.indexP i rfl rfl rfl (by omega) slice28 hksI) rfl ?_
        refine QL.loadAgg rfl rfl (by repeat (first | exact List.Mem.head _ | apply List.Mem.tail)) (flat_take Ex.enc_len _ i _ (List.getElem?_eq_getElem hik)) (by first | rfl | exact Ex.enc_len _ | exact Ty.enc_len _ | exact MNode.enc_len _ | exact RNode.enc_len _) agg31 rfl fun us88 hul88 hur88 => ?_
        refine QL.q (Y.loadAll rfl (by repeat (first | exact List.Mem.head _ | apply List.Mem.tail)) hul25 agg31) rfl ?_
        refine QL.q (Y.move rfl) rfl ?_
        refine QL.q (Y.move rfl) rfl ?_
        refine QL.q (Y.move rfl) rfl ?_
        refine QL.callv rfl func25 rfl rfl (fun _ _ => mCheck_ok _ _ _ ks[i] a us88 us25 l0 _ n0 d0 _ hur88 (hu25.mono hsB) hl0 hll0 hd0) ?_
        refine QL.q (Y.assign rfl) rfl ?_
        refine QL.nil ?_
        refine hK15 _ _ _ ?_
        refine CW.keep (Keep.cons 9 rfl (Keep.cons 15 rfl (Keep.cons 16 rfl (Keep.cons 17 rfl (Keep.cons 18 rfl (Keep.cons 19 rfl (Keep.cons 20 rfl (Keep.cons 22 rfl (Keep.cons 23 rfl (Keep.nil _)))))))))) ?_
        refine CW.seq fun K16 hK16 => ?_
        have hbsI := Rd.mono (hsub.trans hs72) _ _ hxb
        have hbg : ((ks.map gb).map D.v)[i * 1]? = some (.v (gb ks[i])) := by rw [Nat.mul_one]; exact (by rw [List.getElem?_map, List.getElem?_map, List.getElem?_eq_getElem hik]; rfl)
        have hcn := CostR_nil (x := ks[i]) hga
        refine CW.region ?_
        refine RL.q (Y.move rfl) rfl ?_
        refine RL.q (Y.move rfl) rfl ?_
        refine RL.q (Y.indexP i rfl rfl rfl (by omega) slice71 hbsI) rfl ?_
        refine RL.q (Y.loadP rfl hbsI hbg flat4) rfl ?_
        refine RL.q (Y.move rfl) rfl ?_
        refine RL.q (Y.geq rfl rfl) rfl ?_
        refine RL.qs (Y.neqD Try.underlying4 rfl rfl) rfl (fun g100 => ?_) (fun g100 => ?_)
        · refine RL.q (Y.move rfl) rfl ?_
          refine RL.no ⟨_, _, rfl, rfl, rfl⟩ rfl ?_
          refine RL.no ⟨_, _, rfl, rfl, rfl⟩ rfl ?_
          refine RL.no ⟨_, _, rfl, rfl, rfl⟩ rfl ?_
          refine RL.no ⟨_, _, rfl, rfl, rfl⟩ rfl ?_
          refine RL.no ⟨_, _, rfl, rfl, rfl⟩ rfl ?_
          refine RL.no ⟨_, _, rfl, rfl, rfl⟩ rfl ?_
          refine RL.no ⟨_, _, rfl, rfl, rfl⟩ rfl ?_
          refine RL.q (Y.pickT rfl rfl) rfl ?_
          refine RL.q (Y.move rfl) rfl ?_
          refine RL.no ⟨_, _, rfl, rfl, rfl⟩ rfl ?_
          refine RL.no ⟨_, _, rfl, rfl, rfl⟩ rfl ?_
          refine RL.no ⟨_, _, rfl, rfl, rfl⟩ rfl ?_
          refine RL.no ⟨_, _, rfl, rfl, rfl⟩ rfl ?_
          refine RL.no ⟨_, _, rfl, rfl, rfl⟩ rfl ?_
          refine RL.no ⟨_, _, rfl, rfl, rfl⟩ rfl ?_
          refine RL.no ⟨_, _, rfl, rfl, rfl⟩ rfl ?_
          refine RL.q (Y.pickT rfl rfl) rfl ?_
          refine RL.q (Y.move rfl) rfl ?_
          refine RL.no ⟨_, _, rfl, rfl, rfl⟩ rfl ?_
          refine RL.no ⟨_, _, rfl, rfl, rfl⟩ rfl ?_
          refine RL.no ⟨_, _, rfl, rfl, rfl⟩ rfl ?_
          refine RL.no ⟨_, _, rfl, rfl, rfl⟩ rfl ?_
          refine RL.no ⟨_, _, rfl, rfl, rfl⟩ rfl ?_
          refine RL.no ⟨_, _, rfl, rfl, rfl⟩ rfl ?_
          refine RL_noU rfl rfl rfl ?_
          refine RL_noU rfl rfl rfl ?_
          refine RL_noU rfl rfl rfl ?_
          refine RL_noU rfl rfl rfl ?_
          refine RL_noU rfl rfl rfl ?_
          refine RL_noU rfl rfl rfl ?_
          refine RL_noU rfl rfl rfl ?_
          refine RL_noU rfl rfl rfl ?_
          refine RL_noU rfl rfl rfl ?_
          refine RL_noU rfl rfl rfl ?_
          refine RL_noU rfl rfl rfl ?_
          refine RL_noU rfl rfl rfl ?_
          refine RL_noU rfl rfl rfl ?_
          refine RL_noU rfl rfl rfl ?_
          refine RL.no ⟨_, _, rfl, rfl, rfl⟩ rfl ?_
          refine RL.q (Y.pickT rfl rfl) rfl ?_
          refine RL.nil ?_
          refine hK16 _ _ _ ?_
          refine CW.keep (Keep.cons 9 rfl (Keep.cons 15 rfl (Keep.cons 16 rfl (Keep.cons 17 rfl (Keep.cons 141 rfl (Keep.nil _)))))) ?_
          refine CW.yes rfl ?_
          refine CW.seq fun K17 hK17 => ?_
          refine CW.region ?_
          refine RL.q (Y.assign rfl) rfl ?_
          refine RL.nil ?_
          refine hK17 _ _ _ ?_
          refine CW.keep (Keep.cons 8 rfl (Keep.nil _)) ?_
          refine CW.ret ?_
          exact absurd hn0 g100
        · refine RL.q (Y.move rfl) rfl ?_
          refine RL.qg ⟨_, _, rfl, rfl, rfl⟩ (Y.move rfl) rfl ?_
          refine RL.qg ⟨_, _, rfl, rfl, rfl⟩ (Y.move rfl) rfl ?_
          refine RL.qg ⟨_, _, rfl, rfl, rfl⟩ (Y.indexP i rfl rfl rfl (by omega) slice71 hbsI) rfl ?_
          refine RL.qg ⟨_, _, rfl, rfl, rfl⟩ (Y.loadP rfl hbsI hbg flat4) rfl ?_
          refine RL.qg ⟨_, _, rfl, rfl, rfl⟩ (Y.move rfl) rfl ?_
          refine RL.qg ⟨_, _, rfl, rfl, rfl⟩ (Y.eql rfl rfl) rfl ?_
          refine RL.qgs ⟨_, _, rfl, rfl, rfl⟩ (Y.neqD Try.underlying4 rfl rfl) rfl (fun g108 => ?_) (fun g108 => ?_)
          · refine RL.q (Y.pickF rfl rfl) rfl ?_
            refine RL.q (Y.move rfl) rfl ?_
            refine RL.no ⟨_, _, rfl, rfl, rfl⟩ rfl ?_
            refine RL.no ⟨_, _, rfl, rfl, rfl⟩ rfl ?_
            refine RL.no ⟨_, _, rfl, rfl, rfl⟩ rfl ?_
            refine RL.no ⟨_, _, rfl, rfl, rfl⟩ rfl ?_
            refine RL.no ⟨_, _, rfl, rfl, rfl⟩ rfl ?_
            refine RL.no ⟨_, _, rfl, rfl, rfl⟩ rfl ?_
            refine RL.no ⟨_, _, rfl, rfl, rfl⟩ rfl ?_
            refine RL.q (Y.pickT rfl rfl) rfl ?_
            refine RL.q (Y.move rfl) rfl ?_
            refine RL.no ⟨_, _, rfl, rfl, rfl⟩ rfl ?_
            refine RL.no ⟨_, _, rfl, rfl, rfl⟩ rfl ?_
            refine RL.no ⟨_, _, rfl, rfl, rfl⟩ rfl ?_
            refine RL.no ⟨_, _, rfl, rfl, rfl⟩ rfl ?_
            refine RL.no ⟨_, _, rfl, rfl, rfl⟩ rfl ?_
            refine RL.no ⟨_, _, rfl, rfl, rfl⟩ rfl ?_
            refine RL_noU rfl rfl rfl ?_
            refine RL_noU rfl rfl rfl ?_
            refine RL_noU rfl rfl rfl ?_
            refine RL_noU rfl rfl rfl ?_
            refine RL_noU rfl rfl rfl ?_
            refine RL_noU rfl rfl rfl ?_
            refine RL_noU rfl rfl rfl ?_
            refine RL_noU rfl rfl rfl ?_
            refine RL_noU rfl rfl rfl ?_
            refine RL_noU rfl rfl rfl ?_
            refine RL_noU rfl rfl rfl ?_
            refine RL_noU rfl rfl rfl ?_
            refine RL_noU rfl rfl rfl ?_
            refine RL_noU rfl rfl rfl ?_
            refine RL.no ⟨_, _, rfl, rfl, rfl⟩ rfl ?_
            refine RL.q (Y.pickT rfl rfl) rfl ?_
            refine RL.nil ?_
            refine hK16 _ _ _ ?_
            refine CW.keep (Keep.cons 9 rfl (Keep.cons 15 rfl (Keep.cons 16 rfl (Keep.cons 17 rfl (Keep.cons 141 rfl (Keep.nil _)))))) ?_
            refine CW.yes rfl ?_
            refine CW.seq fun K18 hK18 => ?_
            refine CW.region ?_
            refine RL.q (Y.assign rfl) rfl ?_
            refine RL.nil ?_
            refine hK18 _ _ _ ?_
            refine CW.keep (Keep.cons 8 rfl (Keep.nil _)) ?_
            refine CW.ret ?_
            exact absurd ⟨fun h => hcn.1 h, fun h => Classical.byContradiction fun hb => by have := hcn.2 hb; omega⟩ g108
          · refine RL.q (Y.pickF rfl rfl) rfl ?_
            refine RL.q (Y.move rfl) rfl ?_
            refine RL.qg ⟨_, _, rfl, rfl, rfl⟩ (Y.move rfl) rfl ?_
            refine RL.qg ⟨_, _, rfl, rfl, rfl⟩ (Y.move rfl) rfl ?_
            refine RL.qg ⟨_, _, rfl, rfl, rfl⟩ (Y.indexP i rfl rfl rfl (by omega) slice71 hbsI) rfl ?_
            refine RL.qg ⟨_, _, rfl, rfl, rfl⟩ (Y.loadP rfl hbsI hbg flat4) rfl ?_
            refine RL.qg ⟨_, _, rfl, rfl, rfl⟩ (Y.move rfl) rfl ?_
            refine RL.qg ⟨_, _, rfl, rfl, rfl⟩ (Y.eql rfl rfl) rfl ?_
            refine RL.qgs ⟨_, _, rfl, rfl, rfl⟩ (Y.neqD Try.underlying4 rfl rfl) rfl (fun g117 => ?_) (fun g117 => ?_)
            · refine RL.q (Y.pickF rfl rfl) rfl ?_
              refine RL.q (Y.move rfl) rfl ?_
              refine RL.no ⟨_, _, rfl, rfl, rfl⟩ rfl ?_
              refine RL.no ⟨_, _, rfl, rfl, rfl⟩ rfl ?_
              refine RL.no ⟨_, _, rfl, rfl, rfl⟩ rfl ?_
              refine RL.no ⟨_, _, rfl, rfl, rfl⟩ rfl ?_
              refine RL.no ⟨_, _, rfl, rfl, rfl⟩ rfl ?_
              refine RL.no ⟨_, _, rfl, rfl, rfl⟩ rfl ?_
              refine RL_noU rfl rfl rfl ?_
              refine RL_noU rfl rfl rfl ?_
              refine RL_noU rfl rfl rfl ?_
              refine RL_noU rfl rfl rfl ?_
              refine RL_noU rfl rfl rfl ?_
              refine RL_noU rfl rfl rfl ?_
              refine RL_noU rfl rfl rfl ?_
              refine RL_noU rfl rfl rfl ?_
              refine RL_noU rfl rfl rfl ?_
              refine RL_noU rfl rfl rfl ?_
              refine RL_noU rfl rfl rfl ?_
              refine RL_noU rfl rfl rfl ?_
              refine RL_noU rfl rfl rfl ?_
              refine RL_noU rfl rfl rfl ?_
              refine RL.no ⟨_, _, rfl, rfl, rfl⟩ rfl ?_
              refine RL.q (Y.pickT rfl rfl) rfl ?_
              refine RL.nil ?_
              refine hK16 _ _ _ ?_
              refine CW.keep (Keep.cons 9 rfl (Keep.cons 15 rfl (Keep.cons 16 rfl (Keep.cons 17 rfl (Keep.cons 141 rfl (Keep.nil _)))))) ?_
              refine CW.yes rfl ?_
              refine CW.seq fun K19 hK19 => ?_
              refine CW.region ?_
              refine RL.q (Y.assign rfl) rfl ?_
              refine RL.nil ?_
              refine hK19 _ _ _ ?_
              refine CW.keep (Keep.cons 8 rfl (Keep.nil _)) ?_
              refine CW.ret ?_
              exact absurd ⟨fun h => hc0 h, fun h => Classical.byContradiction fun hb => by have := (hc1 hb).1; omega⟩ g117
            · refine RL.q (Y.pickF rfl rfl) rfl ?_
              refine RL.q (Y.move rfl) rfl ?_
              refine RL.qg ⟨_, _, rfl, rfl, rfl⟩ (Y.move rfl) rfl ?_
              refine RL.qg ⟨_, _, rfl, rfl, rfl⟩ (Y.move rfl) rfl ?_
              refine RL.qg ⟨_, _, rfl, rfl, rfl⟩ (Y.indexP i rfl rfl rfl (by omega) slice71 hbsI) rfl ?_
              refine RL.qgs ⟨_, _, rfl, rfl, rfl⟩ (Y.loadP rfl hbsI hbg flat4) rfl (fun g123 => ?_) (fun g123 => ?_)
              · refine RL.qg ⟨_, _, rfl, rfl, rfl⟩ (Y.not rfl) rfl ?_
                refine RL.qg ⟨_, _, rfl, rfl, rfl⟩ (Y.move rfl) rfl ?_
                refine RL.no ⟨_, _, rfl, rfl, rfl⟩ rfl ?_
                refine RL.no ⟨_, _, rfl, rfl, rfl⟩ rfl ?_
                refine RL.no ⟨_, _, rfl, rfl, rfl⟩ rfl ?_
                refine RL.no ⟨_, _, rfl, rfl, rfl⟩ rfl ?_
                refine RL.no ⟨_, _, rfl, rfl, rfl⟩ rfl ?_
                refine RL.no ⟨_, _, rfl, rfl, rfl⟩ rfl ?_
                refine RL.no ⟨_, _, rfl, rfl, rfl⟩ rfl ?_
                refine RL_noU rfl rfl rfl ?_
                refine RL_noU rfl rfl rfl ?_
                refine RL.no ⟨_, _, rfl, rfl, rfl⟩ rfl ?_
                refine RL.no ⟨_, _, rfl, rfl, rfl⟩ rfl ?_
                refine RL_noU rfl rfl rfl ?_
                refine RL_noU rfl rfl rfl ?_
                refine RL.no ⟨_, _, rfl, rfl, rfl⟩ rfl ?_
                refine RL.qg ⟨_, _, rfl, rfl, rfl⟩ (Y.pickF rfl rfl) rfl ?_
                refine RL.q (Y.pickF rfl rfl) rfl ?_
                refine RL.nil ?_
                refine hK16 _ _ _ ?_
                refine CW.keep (Keep.cons 9 rfl (Keep.cons 15 rfl (Keep.cons 16 rfl (Keep.cons 17 rfl (Keep.cons 141 rfl (Keep.nil _)))))) ?_
                refine CW.no rfl ?_
                refine CW.skip ?_
                refine hK12 _ _ _ ?_
                refine CW.region ?_
                refine RL.q (Y.move rfl) rfl ?_
                refine RL.q (Y.add rfl rfl (by omega)) rfl ?_
                refine RL.q (Y.assign rfl) rfl ?_
                refine RL.nil ?_
                refine ⟨3 - (i + 1), [(17, _)], ?_, (Keep.cons 17 rfl (Keep.cons 9 rfl (Keep.cons 15 rfl (Keep.cons 16 rfl (Keep.nil _))))), ?_⟩
                · omega
                · exact Turn.drop ⟨[], rfl, hsub.trans hs72, i + 1, rfl, by omega, rfl, rfl⟩ (by repeat (first | exact List.Sublist.refl _ | apply List.Sublist.cons_cons | apply List.Sublist.cons))
              · refine RL.qg ⟨_, _, rfl, rfl, rfl⟩ (Y.not rfl) rfl ?_
                refine RL.qg ⟨_, _, rfl, rfl, rfl⟩ (Y.move rfl) rfl ?_
                refine RL.qg ⟨_, _, rfl, rfl, rfl⟩ (Y.move rfl) rfl ?_
                refine RL.qg ⟨_, _, rfl, rfl, rfl⟩ (Y.len rfl Try.underlying34) rfl ?_
                refine RL.qg ⟨_, _, rfl, rfl, rfl⟩ (Y.move rfl) rfl ?_
                refine RL.qg ⟨_, _, rfl, rfl, rfl⟩ (Y.len rfl Try.underlying35) rfl ?_
                refine RL.qg ⟨_, _, rfl, rfl, rfl⟩ (Y.add rfl rfl (by omega)) rfl ?_
                refine RL.qgs ⟨_, _, rfl, rfl, rfl⟩ (Y.gtr rfl rfl) rfl (fun g131 => ?_) (fun g131 => ?_)
                · refine RL.qg ⟨_, _, rfl, rfl, rfl⟩ (Y.move rfl) rfl ?_
                  refine RL.no ⟨_, _, rfl, rfl, rfl⟩ rfl ?_
                  refine RL.no ⟨_, _, rfl, rfl, rfl⟩ rfl ?_
                  refine RL.qg ⟨_, _, rfl, rfl, rfl⟩ (Y.pickT rfl rfl) rfl ?_
                  refine RL.qg ⟨_, _, rfl, rfl, rfl⟩ (Y.move rfl) rfl ?_
                  refine RL.no ⟨_, _, rfl, rfl, rfl⟩ rfl ?_
                  refine RL.no ⟨_, _, rfl, rfl, rfl⟩ rfl ?_
                  refine RL.qg ⟨_, _, rfl, rfl, rfl⟩ (Y.pickT rfl rfl) rfl ?_
                  refine RL.qg ⟨_, _, rfl, rfl, rfl⟩ (Y.pickT rfl rfl) rfl ?_
                  refine RL.q (Y.pickF rfl rfl) rfl ?_
                  refine RL.nil ?_
                  refine hK16 _ _ _ ?_
                  refine CW.keep (Keep.cons 9 rfl (Keep.cons 15 rfl (Keep.cons 16 rfl (Keep.cons 17 rfl (Keep.cons 141 rfl (Keep.nil _)))))) ?_
                  refine CW.yes rfl ?_
                  refine CW.seq fun K20 hK20 => ?_
                  refine CW.region ?_
                  refine RL.q (Y.assign rfl) rfl ?_
                  refine RL.nil ?_
                  refine hK20 _ _ _ ?_
                  refine CW.keep (Keep.cons 8 rfl (Keep.nil _)) ?_
                  refine CW.ret ?_
                  exact absurd g131 (by have := hc1 g123; omega)
                · refine RL.qg ⟨_, _, rfl, rfl, rfl⟩ (Y.move rfl) rfl ?_
                  refine RL.qg ⟨_, _, rfl, rfl, rfl⟩ (Y.move rfl) rfl ?_
                  refine RL.qgs ⟨_, _, rfl, rfl, rfl⟩ (Y.neq rfl rfl) rfl (fun g134 => ?_) (fun g134 => ?_)
                  · refine RL.qg ⟨_, _, rfl, rfl, rfl⟩ (Y.pickF rfl rfl) rfl ?_
                    refine RL.qg ⟨_, _, rfl, rfl, rfl⟩ (Y.move rfl) rfl ?_
                    refine RL.no ⟨_, _, rfl, rfl, rfl⟩ rfl ?_
                    refine RL.no ⟨_, _, rfl, rfl, rfl⟩ rfl ?_
                    refine RL.qg ⟨_, _, rfl, rfl, rfl⟩ (Y.pickT rfl rfl) rfl ?_
                    refine RL.qg ⟨_, _, rfl, rfl, rfl⟩ (Y.pickT rfl rfl) rfl ?_
                    refine RL.q (Y.pickF rfl rfl) rfl ?_
                    refine RL.nil ?_
                    refine hK16 _ _ _ ?_
                    refine CW.keep (Keep.cons 9 rfl (Keep.cons 15 rfl (Keep.cons 16 rfl (Keep.cons 17 rfl (Keep.cons 141 rfl (Keep.nil _)))))) ?_
                    refine CW.yes rfl ?_
                    refine CW.seq fun K21 hK21 => ?_
                    refine CW.region ?_
                    refine RL.q (Y.assign rfl) rfl ?_
                    refine RL.nil ?_
                    refine hK21 _ _ _ ?_
                    refine CW.keep (Keep.cons 8 rfl (Keep.nil _)) ?_
                    refine CW.ret ?_
                    exact absurd (hcn.2 g123) g134
                  · refine RL.qg ⟨_, _, rfl, rfl, rfl⟩ (Y.pickF rfl rfl) rfl ?_
                    refine RL.qg ⟨_, _, rfl, rfl, rfl⟩ (Y.move rfl) rfl ?_
                    refine RL.qg ⟨_, _, rfl, rfl, rfl⟩ (Y.move rfl) rfl ?_
                    refine RL.qg ⟨_, _, rfl, rfl, rfl⟩ (Y.neq rfl rfl) rfl ?_
                    refine RL.qg ⟨_, _, rfl, rfl, rfl⟩ (Y.pickF rfl rfl) rfl ?_
                    refine RL.qg ⟨_, _, rfl, rfl, rfl⟩ (Y.pickT rfl rfl) rfl ?_
                    refine RL.q (Y.pickF rfl rfl) rfl ?_
                    refine RL.nil ?_
                    refine hK16 _ _ _ ?_
                    refine CW.keep (Keep.cons 9 rfl (Keep.cons 15 rfl (Keep.cons 16 rfl (Keep.cons 17 rfl (Keep.cons 141 rfl (Keep.nil _)))))) ?_
                    refine CW.ite rfl (fun h8 => ?_) (fun h8 => ?_)
                    · refine CW.seq fun K22 hK22 => ?_
                      refine CW.region ?_
                      refine RL.q (Y.assign rfl) rfl ?_
                      refine RL.nil ?_
                      refine hK22 _ _ _ ?_
                      refine CW.keep (Keep.cons 8 rfl (Keep.nil _)) ?_
                      refine CW.ret ?_
                      exact absurd (hc1 g123).1 h8
                    · refine CW.skip ?_
                      refine hK12 _ _ _ ?_
                      refine CW.region ?_
                      refine RL.q (Y.move rfl) rfl ?_
                      refine RL.q (Y.add rfl rfl (by omega)) rfl ?_
                      refine RL.q (Y.assign rfl) rfl ?_
                      refine RL.nil ?_
                      refine ⟨3 - (i + 1), [(17, _)], ?_, (Keep.cons 17 rfl (Keep.cons 9 rfl (Keep.cons 15 rfl (Keep.cons 16 rfl (Keep.nil _))))), ?_⟩
                      · omega
                      · exact Turn.drop ⟨[], rfl, hsub.trans hs72, i + 1, rfl, by omega, rfl, rfl⟩ (by repeat (first | exact List.Sublist.refl _ | apply List.Sublist.cons_cons | apply List.Sublist.cons))
      · refine CW.exit ?_
        refine hK8 _ _ _ ?_
        refine CW.seq fun K23 hK23 => ?_
        refine CW.region ?_
        refine RL.callv rfl func21 rfl rfl (lives_ok _ _ _) ?_
        refine RL.q (Y.assign rfl) rfl ?_
        refine RL.nil ?_
        refine hK23 _ _ _ ?_
        refine CW.keep (Keep.cons 8 rfl (Keep.nil _)) ?_
        refine CW.ret ?_
        refine ⟨_, rfl, ?_⟩
        exact Turn.back hw1 (hs25.trans (hs35.trans (hs40.trans (hs45.trans (hs7.trans (hs8.trans (hsub))))))) ⟨rfl, rfl, rfl⟩ (by repeat (first | exact List.Sublist.refl _ | apply List.Sublist.cons_cons | apply List.Sublist.cons))
end Go.Proofs.Ytjkcjbicleohkaa
