/- THE WALKS, 17: small functions of the reference. Printed by m04q.py. -/
import Derived.Test.YtfgkhhfkodlbpaaVp
import Derived.Test.YtfgkhhfkodlbpaaPureA
namespace Go.Proofs.Ytfgkhhfkodlbpaa
open Xe

theorem num_ok (w0 : World) (M : Mem) (Γ : List As) (n : Int)    :
    CallOk Try.prog w0 M Γ 26 #[vint n] (Is M Γ (.agg [vint 0, vint n, .slice none 0 0].toArray)) := by
  refine enterCell (f := 26) Try.func26 rfl Try.ntmps26 rfl rfl fun w1 hw1 => ?_
  refine CW.seq fun K1 hK1 => ?_
  refine CW.region ?_
  refine RL.alloc _ zero53 rfl rfl fun b2 => ?_
  refine RL.nil ?_
  refine hK1 _ _ _ ?_
  refine CW.kp [0, 2] rfl ?_
  refine CW.seq fun K2 hK2 => ?_
  refine CW.region ?_
  refine RL.q (Y.move rfl) rfl ?_
  refine RL.q (Y.build [_, _, _] rfl zero53 places53 (by rfl)) rfl ?_
  refine RL.storeAgg _ rfl rfl RP (by rfl) (by first | (simp; done) | simp [IdT.vals]) (by first | (simp [Value.oneCell']; done) | simp [Value.oneCell', IdT.vals]) size53 ?_
  refine RL.nil ?_
  refine hK2 _ _ _ ?_
  refine CW.kp [2] rfl ?_
  refine CW.ret ?_
  exact CellAt.mk rfl MM (by first | rfl | assumption) agg53 (Turn.drop ⟨rfl, rfl, rfl⟩ SB)

theorem id_ok (w0 : World) (M : Mem) (Γ : List As) (n : Int)   (h0 : 0 ≤ n) (h1 : n ≤ 1099511627776) :
    CallOk Try.prog w0 M Γ 14 #[vint n] (Is M Γ (.agg (idK n).vals.toArray)) := by
  have ht : n.tdiv 32 = n / 32 := Int.tdiv_eq_ediv_of_nonneg h0
  refine enterCell (f := 14) Try.func14 rfl Try.ntmps14 rfl rfl fun w1 hw1 => ?_
  refine CW.seq fun K1 hK1 => ?_
  refine CW.region ?_
  refine RL.alloc _ zero28 rfl rfl fun b2 => ?_
  refine RL.nil ?_
  refine hK1 _ _ _ ?_
  refine CW.kp [0, 2] rfl ?_
  refine CW.seq fun K2 hK2 => ?_
  refine CW.region ?_
  refine RL.q (Y.move rfl) rfl ?_
  refine RL.q (Y.quo rfl rfl OM OM) rfl ?_
  refine RL.q (Y.add rfl rfl OM) rfl ?_
  refine RL.q (Y.move rfl) rfl ?_
  refine RL.q (Y.rem rfl rfl OM) rfl ?_
  refine RL.q (Y.build [_, _, _] rfl zero28 places28 (by rfl)) rfl ?_
  refine RL.storeAgg _ rfl rfl RP (by rfl) (by first | (simp; done) | simp [IdT.vals]) (by first | (simp [Value.oneCell']; done) | simp [Value.oneCell', IdT.vals]) size28 ?_
  refine RL.nil ?_
  refine hK2 _ _ _ ?_
  refine CW.kp [2] rfl ?_
  refine CW.ret ?_
  exact CellAt.mk rfl MM (by first | rfl | assumption) agg28 (Turn.drop ⟨rfl, rfl, rfl⟩ SB)

theorem of_ok (w0 : World) (M : Mem) (Γ : List As) (i : IdT)    :
    CallOk Try.prog w0 M Γ 13 #[.agg i.vals.toArray] (Is M Γ (.agg [vint 3, vint i.shop, vint i.seq, vint i.index, .slice none 0 0].toArray)) := by
  refine enterCell (f := 13) Try.func13 rfl Try.ntmps13 rfl rfl fun w1 hw1 => ?_
  refine CW.seq fun K1 hK1 => ?_
  refine CW.region ?_
  refine RL.box _ rfl rfl rfl fun b1 => ?_
  refine RL.alloc _ zero31 rfl rfl fun b2 => ?_
  refine RL.nil ?_
  refine hK1 _ _ _ ?_
  refine CW.kp [1, 2] rfl ?_
  refine CW.seq fun K2 hK2 => ?_
  refine CW.region ?_
  refine RL.q (Y.loadAll rfl MM (by rfl) agg28) rfl ?_
  refine RL.q (Y.build [_, _, _, _, _] rfl zero31 places31 (by rfl)) rfl ?_
  refine RL.storeAgg _ rfl rfl RP (by rfl) (by first | (simp; done) | simp [IdT.vals]) (by first | (simp [Value.oneCell']; done) | simp [Value.oneCell', IdT.vals]) size31 ?_
  refine RL.nil ?_
  refine hK2 _ _ _ ?_
  refine CW.kp [2] rfl ?_
  refine CW.ret ?_
  exact CellAt.mk rfl MM (by first | rfl | assumption) agg31 (Turn.drop ⟨rfl, rfl, rfl⟩ SB)

theorem list_ok (w0 : World) (M : Mem) (Γ : List As) (t : Ty) (ust : List Value)  (ht : Kn w0 M Γ (RdL M t.enc ust))  :
    CallOk Try.prog w0 M Γ 12 #[.agg ust.toArray] (Gives M Γ fun M' v => ∃ us, v = .agg us.toArray ∧ RdL M' (listT t).enc us) := by
  refine CallOk.kn ht fun ht => ?_
  rw [Ty.enc_eq] at ht
  refine enterCell (f := 12) Try.func12 rfl Try.ntmps12 rfl rfl fun w1 hw1 => ?_
  refine CW.addRds ht ?_
  refine CW.seq fun K1 hK1 => ?_
  refine CW.region ?_
  refine RL.box _ rfl rfl rfl fun b1 => ?_
  refine RL.alloc _ zero31 rfl rfl fun b2 => ?_
  refine RL.nil ?_
  refine hK1 _ _ _ ?_
  refine CW.kp [1, 2] rfl ?_
  refine CW.seq fun K2 hK2 => ?_
  refine CW.region ?_
  refine RL.q (Y.loadAllR rfl MM MM EL agg31) rfl ?_
  refine RL.buildSlice ust elem29 rfl (by decide) (fill1 rfl (by rw [ht.1]; rfl)) rfl fun b4 => ?_
  refine RL.q (Y.build [_, _, _, _, _] rfl zero31 places31 (by rfl)) rfl ?_
  refine RL.storeAgg _ rfl rfl RP (by rfl) (by first | (simp; done) | simp [IdT.vals]) (by first | (simp [Value.oneCell']; done) | simp [Value.oneCell', IdT.vals]) size31 ?_
  refine RL.nil ?_
  refine hK2 _ _ _ ?_
  refine CW.kp [2] rfl ?_
  refine CW.ret ?_
  refine CellAt.mk rfl MM (by rfl) agg31 (Turn.sealOwn (b := b4) (n := 1) (sz := 5) (ds := t.enc) PK (by rw [Ty.enc_eq]; exact ht) (by rw [ht.1]; rfl) (by unfold lim; omega) SB fun M1 hs1 hr1 => ⟨hs1, rfl, _, rfl, ?_⟩)
  rw [Ty.enc_eq]
  exact RdL.cons (Rd.i _) (RdL.cons (Rd.i _) (RdL.cons (Rd.i _) (RdL.cons (Rd.i _) (RdL.cons (by simpa [listT, Ty.kids] using hr1) (RdL.nil _)))))

theorem around_ok (w0 : World) (M : Mem) (Γ : List As) (n : Int) (m : Int)   (hn : InI n) (hm : 1 ≤ m) :
    CallOk Try.prog w0 M Γ 11 #[vint n, vint m] (Is M Γ (vint (around n m))) := by
  obtain ⟨hn1, hn2⟩ := hn
  refine enter (f := 11) Try.func11 rfl Try.ntmps11 rfl rfl fun w1 hw1 => ?_
  refine CW.seq fun K1 hK1 => ?_
  refine CW.region ?_
  refine RL.q (Y.assign rfl) rfl ?_
  refine RL.nil ?_
  refine hK1 _ _ _ ?_
  refine CW.kp [0, 1] rfl ?_
  refine CW.seq fun K2 hK2 => ?_
  refine CW.seq fun K3 hK3 => ?_
  refine CW.region ?_
  refine RL.q (Y.move rfl) rfl ?_
  refine RL.q (Y.lss rfl rfl) rfl ?_
  refine RL.nil ?_
  refine hK3 _ _ _ ?_
  refine CW.kp [0, 1, 6] rfl ?_
  refine CW.ite rfl (fun h1 => ?_) (fun h1 => ?_)
  ·refine CW.region ?_
   refine RL.q (Y.move rfl) rfl ?_
   refine RL.q (Y.add rfl rfl OM) rfl ?_
   refine RL.q (Y.neg rfl OM) rfl ?_
   refine RL.q (Y.assign rfl) rfl ?_
   refine RL.nil ?_
   refine hK2 _ _ _ ?_
   refine CW.kp [0, 1] rfl ?_
   refine CW.seq fun K4 hK4 => ?_
   refine CW.region ?_
   refine RL.q (Y.move rfl) rfl ?_
   refine RL.q (Y.move rfl) rfl ?_
   refine RL.q (Y.rem rfl rfl OM) rfl ?_
   refine RL.q (Y.assign rfl) rfl ?_
   refine RL.nil ?_
   refine hK4 _ _ _ ?_
   refine CW.kp [4] rfl ?_
   refine CW.ret ?_
   exact ⟨_, rfl, Turn.drop ⟨(by first | (rw [around_eq n m hm]; simp only [h1, if_true]; done) | fail), rfl, rfl⟩ SB⟩
  refine CW.skip ?_
  refine hK2 _ _ _ ?_
  refine CW.seq fun K5 hK5 => ?_
  refine CW.region ?_
  refine RL.q (Y.move rfl) rfl ?_
  refine RL.q (Y.move rfl) rfl ?_
  refine RL.q (Y.rem rfl rfl OM) rfl ?_
  refine RL.q (Y.assign rfl) rfl ?_
  refine RL.nil ?_
  refine hK5 _ _ _ ?_
  refine CW.kp [4] rfl ?_
  refine CW.ret ?_
  exact ⟨_, rfl, Turn.drop ⟨(by first | (rw [around_eq n m hm]; simp only [h1, if_false]; done) | fail), rfl, rfl⟩ SB⟩

theorem at_ok (w0 : World) (M : Mem) (Γ : List As) (l : List Int) (ul : Value) (i : Int) (m : Int)  (hl : Kn w0 M Γ (Rd M (dints l) ul)) (hli : ∀ x ∈ l, InI x) (hm : 1 ≤ m) :
    CallOk Try.prog w0 M Γ 41 #[ul, vint i, vint m] (Is M Γ (vint (atL l i m))) := by
  refine CallOk.kn hl fun hl => ?_
  obtain ⟨al, cl, rfl, hcl, hliml, hlenl⟩ := hl.slice
  refine enter (f := 41) Try.func41 rfl Try.ntmps41 rfl rfl fun w1 hw1 => ?_
  refine CW.addRd hl ?_
  refine CW.seq fun K1 hK1 => ?_
  refine CW.region ?_
  refine RL.q (Y.assign rfl) rfl ?_
  refine RL.nil ?_
  refine hK1 _ _ _ ?_
  refine CW.kp [0, 1, 2] rfl ?_
  refine CW.seq fun K2 hK2 => ?_
  refine CW.seq fun K3 hK3 => ?_
  refine CW.region ?_
  refine RL.q (Y.move rfl) rfl ?_
  refine RL.qs (Y.lss rfl rfl) rfl (fun g8 => ?_) (fun g8 => ?_)
  ·refine RL.q (Y.move rfl) rfl ?_
   refine RL.no WG rfl ?_
   refine RL.no WG rfl ?_
   refine RL.no WG rfl ?_
   refine RL.no WG rfl ?_
   refine RL.q (Y.pickT rfl rfl) rfl ?_
   refine RL.nil ?_
   refine hK3 _ _ _ ?_
   refine CW.kp [0, 1, 2, 14] rfl ?_
   refine CW.yes rfl ?_
   refine CW.seq fun K4 hK4 => ?_
   refine CW.region ?_
   refine RL.q (Y.assign rfl) rfl ?_
   refine RL.nil ?_
   refine hK4 _ _ _ ?_
   refine CW.kp [6] rfl ?_
   refine CW.ret ?_
   exact ⟨_, rfl, Turn.drop ⟨(by rw [atL, if_pos (Or.inl g8)]), rfl, rfl⟩ SB⟩
  refine RL.q (Y.move rfl) rfl ?_
  refine RL.qg WG (Y.move rfl) rfl ?_
  refine RL.qg WG (Y.move rfl) rfl ?_
  refine RL.qg WG (Y.len rfl Try.underlying22) rfl ?_
  refine RL.qg WG (Y.geq rfl rfl) rfl ?_
  refine RL.q (Y.pickF rfl rfl) rfl ?_
  refine RL.nil ?_
  refine hK3 _ _ _ ?_
  refine CW.kp [0, 1, 2, 14] rfl ?_
  refine CW.ite rfl (fun h1 => ?_) (fun h1 => ?_)
  ·refine CW.seq fun K5 hK5 => ?_
   refine CW.region ?_
   refine RL.q (Y.assign rfl) rfl ?_
   refine RL.nil ?_
   refine hK5 _ _ _ ?_
   refine CW.kp [6] rfl ?_
   refine CW.ret ?_
   exact ⟨_, rfl, Turn.drop ⟨(by rw [atL, if_pos (Or.inr h1)]), rfl, rfl⟩ SB⟩
  refine CW.skip ?_
  refine hK2 _ _ _ ?_
  refine CW.seq fun K6 hK6 => ?_
  obtain ⟨k, rfl⟩ := Int.eq_ofNat_of_zero_le (show 0 ≤ i by omega)
  have hk : k < l.length := by omega
  have hInI := hli _ (List.getElem_mem hk)
  refine CW.region ?_
  refine RL.q (Y.move rfl) rfl ?_
  refine RL.q (Y.move rfl) rfl ?_
  refine RL.q (Y.index k rfl rfl rfl hk slice22 (fun _ hw => hw.rd_some MM OM)) rfl ?_
  refine RL.q (Y.loadRd rfl MM (dints_get (List.getElem?_eq_getElem AO)) flat3) rfl ?_
  refine RL.q (Y.move rfl) rfl ?_
  refine RL.callv rfl func11 rfl rfl (by exact around_ok _ _ _ _ _ AO AO) ?_
  refine RL.q (Y.assign rfl) rfl ?_
  refine RL.nil ?_
  refine hK6 _ _ _ ?_
  refine CW.kp [6] rfl ?_
  refine CW.ret ?_
  exact ⟨_, rfl, Turn.drop ⟨by rw [atL, if_neg OM]; simp [hk], rfl, rfl⟩ SB⟩
end Go.Proofs.Ytfgkhhfkodlbpaa
