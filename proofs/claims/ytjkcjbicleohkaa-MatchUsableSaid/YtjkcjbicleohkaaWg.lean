/- THE WALKS, 7: nodes of the examples and of the generator. Printed by m16g.py. -/
import Derived.Test.YtjkcjbicleohkaaWf
namespace Go.Proofs.Ytjkcjbicleohkaa
open Xe

theorem idN_ok (w0 : World) (M : Mem) (Γ : List As) (n : Int) :
    CallOk Try.prog w0 M Γ 45 #[vint n] (Is M Γ (.agg (idN n).vals.toArray)) := by
  refine enterCell (f := 45) Try.func45 rfl Try.ntmps45 rfl rfl fun w1 hw1 => ?_
  refine CW.seq fun K1 hK1 => ?_
  refine CW.region ?_
  refine RL.alloc _ zero24 rfl rfl fun b2 => ?_
  refine RL.nil ?_
  refine hK1 _ _ _ ?_
  refine CW.keep (Keep.cons 0 rfl (Keep.cons 2 rfl (Keep.nil _))) ?_
  refine CW.seq fun K2 hK2 => ?_
  refine CW.region ?_
  refine RL.q (Y.move rfl) rfl ?_
  refine RL.q (Y.build [vint 0, vint 1, vint n] rfl zero24 places24 (by rfl)) rfl ?_
  refine RL.storeAgg _ rfl rfl (by repeat (first | exact Repl.here _ | apply Repl.there)) (by rfl) (by first | (simp; done) | simp [IdT.vals]) (by first | (simp [Value.oneCell']; done) | simp [Value.oneCell', IdT.vals]) size24 ?_
  refine RL.nil ?_
  refine hK2 _ _ _ ?_
  refine CW.keep (Keep.cons 2 rfl (Keep.nil _)) ?_
  refine CW.ret ?_
  exact CellAt.mk rfl (by repeat (first | exact List.Mem.head _ | apply List.Mem.tail)) (by rfl) agg24 (Turn.drop ⟨rfl, rfl, rfl⟩ (by repeat (first | exact List.Sublist.refl _ | apply List.Sublist.cons_cons | apply List.Sublist.cons)))

theorem idOf_ok (w0 : World) (M : Mem) (Γ : List As) (n : Int) (hn : 0 ≤ n ∧ n < 9223372036854775807) :
    CallOk Try.prog w0 M Γ 30 #[vint n] (Is M Γ (.agg (idOf n).vals.toArray)) := by
  have ht : n.tdiv 96 = n / 96 := Int.tdiv_eq_ediv_of_nonneg hn.1
  refine enterCell (f := 30) Try.func30 rfl Try.ntmps30 rfl rfl fun w1 hw1 => ?_
  refine CW.seq fun K1 hK1 => ?_
  refine CW.region ?_
  refine RL.alloc _ zero24 rfl rfl fun b2 => ?_
  refine RL.nil ?_
  refine hK1 _ _ _ ?_
  refine CW.keep (Keep.cons 0 rfl (Keep.cons 2 rfl (Keep.nil _))) ?_
  refine CW.seq fun K2 hK2 => ?_
  refine CW.region ?_
  refine RL.q (Y.move rfl) rfl ?_
  refine RL.q (Y.rem rfl rfl (by omega)) rfl ?_
  refine RL.q (Y.move rfl) rfl ?_
  refine RL.q (Y.quo rfl rfl (by omega) (by omega)) rfl ?_
  refine RL.q (Y.add rfl rfl (by omega)) rfl ?_
  refine RL.q (Y.move rfl) rfl ?_
  refine RL.q (Y.rem rfl rfl (by omega)) rfl ?_
  refine RL.q (Y.build [vint (n.tmod 3), vint (1 + n.tdiv 96), vint (n.tmod 32)] rfl zero24 places24 (by rfl)) rfl ?_
  refine RL.storeAgg _ rfl rfl (by repeat (first | exact Repl.here _ | apply Repl.there)) (by rfl) (by first | (simp; done) | simp [IdT.vals]) (by first | (simp [Value.oneCell']; done) | simp [Value.oneCell', IdT.vals]) size24 ?_
  refine RL.nil ?_
  refine hK2 _ _ _ ?_
  refine CW.keep (Keep.cons 2 rfl (Keep.nil _)) ?_
  refine CW.ret ?_
  exact CellAt.mk rfl (by repeat (first | exact List.Mem.head _ | apply List.Mem.tail)) (by rfl) agg24 (Turn.drop ⟨rfl, rfl, rfl⟩ (by repeat (first | exact List.Sublist.refl _ | apply List.Sublist.cons_cons | apply List.Sublist.cons)))

theorem numberE_ok (w0 : World) (M : Mem) (Γ : List As) (i n : Int) :
    CallOk Try.prog w0 M Γ 44 #[vint i, vint n] (Gives M Γ fun M' v => ∃ us, v = .agg us.toArray ∧ RdL M' (Ex.mk (idN i) 0 n id0 ty0 [] []).enc us) := by
  refine enterCell (f := 44) Try.func44 rfl Try.ntmps44 rfl rfl fun w1 hw1 => ?_
  refine CW.seq fun K1 hK1 => ?_
  refine CW.region ?_
  refine RL.alloc _ zero31 rfl rfl fun b4 => ?_
  refine RL.nil ?_
  refine hK1 _ _ _ ?_
  refine CW.keep (Keep.cons 0 rfl (Keep.cons 1 rfl (Keep.cons 4 rfl (Keep.nil _)))) ?_
  refine CW.seq fun K2 hK2 => ?_
  refine CW.region ?_
  refine RL.q (Y.move rfl) rfl ?_
  refine RL.callv rfl func45 rfl rfl (idN_ok _ _ _ _) ?_
  refine RL.q (Y.move rfl) rfl ?_
  refine RL.q (Y.build [vint 0, vint 1, vint i, vint 0, vint n, vint 0, vint 0, vint 0, vint 0, vint 0, vint 0, vint 0, .slice none 0 0, .slice none 0 0, .slice none 0 0] rfl zero31 places31 (by rfl)) rfl ?_
  refine RL.storeAgg _ rfl rfl (by repeat (first | exact Repl.here _ | apply Repl.there)) (by rfl) (by first | (simp; done) | simp [IdT.vals]) (by first | (simp [Value.oneCell']; done) | simp [Value.oneCell', IdT.vals]) size31 ?_
  refine RL.nil ?_
  refine hK2 _ _ _ ?_
  refine CW.keep (Keep.cons 4 rfl (Keep.nil _)) ?_
  refine CW.ret ?_
  exact CellAt.mk rfl (by repeat (first | exact List.Mem.head _ | apply List.Mem.tail)) (by rfl) agg31 (Turn.drop ⟨Sub.refl _, rfl, _, rfl, (by repeat (first | exact RdL.nil _ | refine RdL.cons (by first | exact Rd.i _ | exact Rd.nilS | assumption) ?_))⟩ (by repeat (first | exact List.Sublist.refl _ | apply List.Sublist.cons_cons | apply List.Sublist.cons)))

theorem operation_ok (w0 : World) (M : Mem) (Γ : List As) (i n : Int) (l : List Ex) (u : Value) (hu : Rd M (.sl l.length 15 (l.flatMap Ex.enc)) u) :
    CallOk Try.prog w0 M Γ 43 #[vint i, vint n, u] (Gives M Γ fun M' v => ∃ us, v = .agg us.toArray ∧ RdL M' (Ex.mk (idN i) 4 n id0 ty0 l []).enc us) := by
  obtain ⟨a1, c1, rfl, hc1, hlim1, hlen1⟩ := hu.slice
  have hu2 := hu
  rw [← Ex.encs_eq] at hu2
  refine enterCell (f := 43) Try.func43 rfl Try.ntmps43 rfl rfl fun w1 hw1 => ?_
  refine CW.seq fun K1 hK1 => ?_
  refine CW.region ?_
  refine RL.alloc _ zero31 rfl rfl fun b6 => ?_
  refine RL.nil ?_
  refine hK1 _ _ _ ?_
  refine CW.keep (Keep.cons 0 rfl (Keep.cons 1 rfl (Keep.cons 2 rfl (Keep.cons 6 rfl (Keep.nil _))))) ?_
  refine CW.seq fun K2 hK2 => ?_
  refine CW.region ?_
  refine RL.q (Y.move rfl) rfl ?_
  refine RL.callv rfl func45 rfl rfl (idN_ok _ _ _ _) ?_
  refine RL.q (Y.move rfl) rfl ?_
  refine RL.q (Y.move rfl) rfl ?_
  refine RL.q (Y.build [vint 0, vint 1, vint i, vint 4, vint n, vint 0, vint 0, vint 0, vint 0, vint 0, vint 0, vint 0, .slice none 0 0, .slice a1 l.length c1, .slice none 0 0] rfl zero31 places31 (by rfl)) rfl ?_
  refine RL.storeAgg _ rfl rfl (by repeat (first | exact Repl.here _ | apply Repl.there)) (by rfl) (by first | (simp; done) | simp [IdT.vals]) (by first | (simp [Value.oneCell']; done) | simp [Value.oneCell', IdT.vals]) size31 ?_
  refine RL.nil ?_
  refine hK2 _ _ _ ?_
  refine CW.keep (Keep.cons 6 rfl (Keep.nil _)) ?_
  refine CW.ret ?_
  exact CellAt.mk rfl (by repeat (first | exact List.Mem.head _ | apply List.Mem.tail)) (by rfl) agg31 (Turn.drop ⟨Sub.refl _, rfl, _, rfl, (by repeat (first | exact RdL.nil _ | refine RdL.cons (by first | exact Rd.i _ | exact Rd.nilS | assumption) ?_))⟩ (by repeat (first | exact List.Sublist.refl _ | apply List.Sublist.cons_cons | apply List.Sublist.cons)))

theorem content_ok (w0 : World) (M : Mem) (Γ : List As) (n : Int) (id : IdT) (hn : InI n) :
    CallOk Try.prog w0 M Γ 33 #[vint n, .agg id.vals.toArray] (Gives M Γ fun M' v => ∃ us, v = .agg us.toArray ∧ RdL M' (contentE n id).enc us) := by
  obtain ⟨hk0, hk1⟩ := around_lt n 1000 (by omega)
  generalize hk : around n 1000 = k at hk0 hk1
  have ht1 : k.tdiv 4 = k / 4 := Int.tdiv_eq_ediv_of_nonneg hk0
  have ht2 : k.tmod 7 = k % 7 := Int.tmod_eq_emod_of_nonneg hk0
  refine enterCell (f := 33) Try.func33 rfl Try.ntmps33 rfl rfl fun w1 hw1 => ?_
  refine CW.seq fun K1 hK1 => ?_
  refine CW.region ?_
  refine RL.box id.vals rfl rfl rfl fun b3 => ?_
  refine RL.alloc _ zero31 rfl rfl fun b4 => ?_
  refine RL.nil ?_
  refine hK1 _ _ _ ?_
  refine CW.keep (Keep.cons 0 rfl (Keep.cons 3 rfl (Keep.cons 4 rfl (Keep.nil _)))) ?_
  refine CW.seq fun K2 hK2 => ?_
  refine CW.region ?_
  refine RL.q (Y.move rfl) rfl ?_
  refine RL.callv rfl func12 rfl rfl (hk ▸ around_ok _ _ _ _ _ hn (by omega)) ?_
  refine RL.q (Y.assign rfl) rfl ?_
  refine RL.nil ?_
  refine hK2 _ _ _ ?_
  refine CW.keep (Keep.cons 3 rfl (Keep.cons 4 rfl (Keep.cons 5 rfl (Keep.nil _)))) ?_
  refine CW.seq fun K3 hK3 => ?_
  refine CW.region ?_
  first | refine RL.q (Y.loadAggV [_, _, _] rfl (by repeat (first | exact List.Mem.head _ | apply List.Mem.tail)) (by repeat (first | exact List.Mem.head _ | apply List.Mem.tail)) (by rfl) agg24) rfl ?_ | refine RL.q (Y.loadAll rfl (by repeat (first | exact List.Mem.head _ | apply List.Mem.tail)) (by rfl) agg24) rfl ?_
  refine RL.q (Y.move rfl) rfl ?_
  refine RL.q (Y.rem rfl rfl (by omega)) rfl ?_
  refine RL.q (Y.move rfl) rfl ?_
  refine RL.q (Y.quo rfl rfl (by omega) (by omega)) rfl ?_
  refine RL.q (Y.rem rfl rfl (by omega)) rfl ?_
  refine RL.q (Y.build [vint id.shop, vint id.seq, vint id.index, vint (k.tmod 4), vint ((k.tdiv 4).tmod 3), vint 0, vint 0, vint 0, vint 0, vint 0, vint 0, vint 0, .slice none 0 0, .slice none 0 0, .slice none 0 0] rfl zero31 places31 (by rfl)) rfl ?_
  refine RL.alloc _ zero31 rfl rfl fun b6 => ?_
  refine RL.storeAgg _ rfl rfl (by repeat (first | exact Repl.here _ | apply Repl.there)) (by rfl) (by first | (simp; done) | simp [IdT.vals]) (by first | (simp [Value.oneCell']; done) | simp [Value.oneCell', IdT.vals]) size31 ?_
  refine RL.nil ?_
  refine hK3 _ _ _ ?_
  refine CW.keep (Keep.cons 4 rfl (Keep.cons 5 rfl (Keep.cons 6 rfl (Keep.nil _)))) ?_
  refine CW.seq fun K4 hK4 => ?_
  refine CW.seq fun K5 hK5 => ?_
  refine CW.region ?_
  refine RL.q (Y.move rfl) rfl ?_
  refine RL.q (Y.rem rfl rfl (by omega)) rfl ?_
  refine RL.q (Y.eql rfl rfl) rfl ?_
  refine RL.nil ?_
  refine hK5 _ _ _ ?_
  refine CW.keep (Keep.cons 4 rfl (Keep.cons 5 rfl (Keep.cons 6 rfl (Keep.cons 18 rfl (Keep.nil _))))) ?_
  refine CW.ite rfl (fun h1 => ?_) (fun h1 => ?_)
  · refine CW.region ?_
    refine RL.q (Y.move rfl) rfl ?_
    refine RL.q (Y.rem rfl rfl (by omega)) rfl ?_
    refine RL.callv rfl func30 rfl rfl (idOf_ok _ _ _ _ (by omega)) ?_
    refine RL.q (Y.field rfl field31_3) rfl ?_
    refine RL.storeAgg [vint id.shop, vint id.seq, vint id.index, vint (k.tmod 4), vint ((k.tdiv 4).tmod 3), vint (idOf (k.tmod 7)).shop, vint (idOf (k.tmod 7)).seq, vint (idOf (k.tmod 7)).index, vint 0, vint 0, vint 0, vint 0, .slice none 0 0, .slice none 0 0, .slice none 0 0] rfl rfl (by repeat (first | exact Repl.here _ | apply Repl.there)) (by rfl) (by first | (simp; done) | simp [IdT.vals]) (by first | (simp [Value.oneCell']; done) | simp [Value.oneCell', IdT.vals]) size24 ?_
    refine RL.nil ?_
    refine hK4 _ _ _ ?_
    refine CW.keep (Keep.cons 4 rfl (Keep.cons 5 rfl (Keep.cons 6 rfl (Keep.nil _)))) ?_
    refine CW.seq fun K6 hK6 => ?_
    refine CW.seq fun K7 hK7 => ?_
    refine CW.region ?_
    refine RL.q (Y.move rfl) rfl ?_
    refine RL.q (Y.rem rfl rfl (by omega)) rfl ?_
    refine RL.q (Y.eql rfl rfl) rfl ?_
    refine RL.nil ?_
    refine hK7 _ _ _ ?_
    refine CW.keep (Keep.cons 4 rfl (Keep.cons 5 rfl (Keep.cons 6 rfl (Keep.cons 25 rfl (Keep.nil _))))) ?_
    refine CW.ite rfl (fun h2 => ?_) (fun h2 => ?_)
    · refine CW.region ?_
      refine RL.q (Y.move rfl) rfl ?_
      refine RL.q (Y.rem rfl rfl (by omega)) rfl ?_
      refine RL.q (Y.build [vint (k.tmod 2), vint 0, vint 0, vint 0, .slice none 0 0] rfl zero27 places27 (by rfl)) rfl ?_
      refine RL.buildSlice [vint (k.tmod 2), vint 0, vint 0, vint 0, .slice none 0 0] elem25 rfl (by decide) (fill1 rfl rfl) rfl fun b29 => ?_
      refine RL.q (Y.build [vint 2, vint 0, vint 0, vint 0, .slice (some ⟨b29, 0, none⟩) 1 1] rfl zero27 places27 (by rfl)) rfl ?_
      refine RL.q (Y.field rfl field31_4) rfl ?_
      refine RL.storeAgg _ rfl rfl (by repeat (first | exact Repl.here _ | apply Repl.there)) (by rfl) (by first | (simp; done) | simp [IdT.vals]) (by first | (simp [Value.oneCell']; done) | simp [Value.oneCell', IdT.vals]) size27 ?_
      refine RL.nil ?_
      refine hK6 _ _ _ ?_
      refine CW.keep (Keep.cons 4 rfl (Keep.cons 6 rfl (Keep.nil _))) ?_
      refine CW.seq fun K8 hK8 => ?_
      refine CW.region ?_
      refine RL.q (Y.loadAll rfl (by repeat (first | exact List.Mem.head _ | apply List.Mem.tail)) (by rfl) agg31) rfl ?_
      refine RL.storeAgg _ rfl rfl (by repeat (first | exact Repl.here _ | apply Repl.there)) (by rfl) (by first | (simp; done) | simp [IdT.vals]) (by first | (simp [Value.oneCell']; done) | simp [Value.oneCell', IdT.vals]) size31 ?_
      refine RL.nil ?_
      refine hK8 _ _ _ ?_
      refine CW.keep (Keep.cons 4 rfl (Keep.nil _)) ?_
      refine CW.ret ?_
      simp only [contentE, hk, h1, h2, reduceIte]
      refine CellAt.mk rfl (by repeat (first | exact List.Mem.head _ | apply List.Mem.tail)) (by rfl) agg31 (Turn.sealOwn (b := b29) (n := 1) (sz := 5) (ds := (Ty.mk (k.tmod 2) id0 []).enc) (by repeat (first | exact Pick.here _ | apply Pick.there)) (by rw [Ty.enc_eq]; exact (by repeat (first | exact RdL.nil _ | refine RdL.cons (by first | exact Rd.i _ | exact Rd.nilS | assumption) ?_))) rfl (by unfold lim; omega) (by repeat (first | exact List.Sublist.refl _ | apply List.Sublist.cons_cons | apply List.Sublist.cons)) fun M1 hs1 hr1 => ⟨hs1, rfl, _, rfl, ?_⟩)
      rw [Ex.enc_eq]
      exact (by repeat (first | exact RdL.nil _ | refine RdL.cons (by first | exact Rd.i _ | exact Rd.nilS | assumption) ?_))
    · refine CW.skip ?_
      refine hK6 _ _ _ ?_
      refine CW.seq fun K9 hK9 => ?_
      refine CW.region ?_
      refine RL.q (Y.loadAll rfl (by repeat (first | exact List.Mem.head _ | apply List.Mem.tail)) (by rfl) agg31) rfl ?_
      refine RL.storeAgg _ rfl rfl (by repeat (first | exact Repl.here _ | apply Repl.there)) (by rfl) (by first | (simp; done) | simp [IdT.vals]) (by first | (simp [Value.oneCell']; done) | simp [Value.oneCell', IdT.vals]) size31 ?_
      refine RL.nil ?_
      refine hK9 _ _ _ ?_
      refine CW.keep (Keep.cons 4 rfl (Keep.nil _)) ?_
      refine CW.ret ?_
      simp only [contentE, hk, h1, h2, reduceIte]
      exact CellAt.mk rfl (by repeat (first | exact List.Mem.head _ | apply List.Mem.tail)) (by rfl) agg31 (Turn.drop ⟨Sub.refl _, rfl, _, rfl, by rw [Ex.enc_eq]; exact (by repeat (first | exact RdL.nil _ | refine RdL.cons (by first | exact Rd.i _ | exact Rd.nilS | assumption) ?_))⟩ (by repeat (first | exact List.Sublist.refl _ | apply List.Sublist.cons_cons | apply List.Sublist.cons)))
  · refine CW.skip ?_
    refine hK4 _ _ _ ?_
    refine CW.seq fun K10 hK10 => ?_
    refine CW.seq fun K11 hK11 => ?_
    refine CW.region ?_
    refine RL.q (Y.move rfl) rfl ?_
    refine RL.q (Y.rem rfl rfl (by omega)) rfl ?_
    refine RL.q (Y.eql rfl rfl) rfl ?_
    refine RL.nil ?_
    refine hK11 _ _ _ ?_
    refine CW.keep (Keep.cons 4 rfl (Keep.cons 5 rfl (Keep.cons 6 rfl (Keep.cons 25 rfl (Keep.nil _))))) ?_
    refine CW.ite rfl (fun h3 => ?_) (fun h3 => ?_)
    · refine CW.region ?_
      refine RL.q (Y.move rfl) rfl ?_
      refine RL.q (Y.rem rfl rfl (by omega)) rfl ?_
      refine RL.q (Y.build [vint (k.tmod 2), vint 0, vint 0, vint 0, .slice none 0 0] rfl zero27 places27 (by rfl)) rfl ?_
      refine RL.buildSlice [vint (k.tmod 2), vint 0, vint 0, vint 0, .slice none 0 0] elem25 rfl (by decide) (fill1 rfl rfl) rfl fun b29 => ?_
      refine RL.q (Y.build [vint 2, vint 0, vint 0, vint 0, .slice (some ⟨b29, 0, none⟩) 1 1] rfl zero27 places27 (by rfl)) rfl ?_
      refine RL.q (Y.field rfl field31_4) rfl ?_
      refine RL.storeAgg _ rfl rfl (by repeat (first | exact Repl.here _ | apply Repl.there)) (by rfl) (by first | (simp; done) | simp [IdT.vals]) (by first | (simp [Value.oneCell']; done) | simp [Value.oneCell', IdT.vals]) size27 ?_
      refine RL.nil ?_
      refine hK10 _ _ _ ?_
      refine CW.keep (Keep.cons 4 rfl (Keep.cons 6 rfl (Keep.nil _))) ?_
      refine CW.seq fun K12 hK12 => ?_
      refine CW.region ?_
      refine RL.q (Y.loadAll rfl (by repeat (first | exact List.Mem.head _ | apply List.Mem.tail)) (by rfl) agg31) rfl ?_
      refine RL.storeAgg _ rfl rfl (by repeat (first | exact Repl.here _ | apply Repl.there)) (by rfl) (by first | (simp; done) | simp [IdT.vals]) (by first | (simp [Value.oneCell']; done) | simp [Value.oneCell', IdT.vals]) size31 ?_
      refine RL.nil ?_
      refine hK12 _ _ _ ?_
      refine CW.keep (Keep.cons 4 rfl (Keep.nil _)) ?_
      refine CW.ret ?_
      simp only [contentE, hk, h1, h3, reduceIte]
      refine CellAt.mk rfl (by repeat (first | exact List.Mem.head _ | apply List.Mem.tail)) (by rfl) agg31 (Turn.sealOwn (b := b29) (n := 1) (sz := 5) (ds := (Ty.mk (k.tmod 2) id0 []).enc) (by repeat (first | exact Pick.here _ | apply Pick.there)) (by rw [Ty.enc_eq]; exact (by repeat (first | exact RdL.nil _ | refine RdL.cons (by first | exact Rd.i _ | exact Rd.nilS | assumption) ?_))) rfl (by unfold lim; omega) (by repeat (first | exact List.Sublist.refl _ | apply List.Sublist.cons_cons | apply List.Sublist.cons)) fun M1 hs1 hr1 => ⟨hs1, rfl, _, rfl, ?_⟩)
      rw [Ex.enc_eq]
      exact (by repeat (first | exact RdL.nil _ | refine RdL.cons (by first | exact Rd.i _ | exact Rd.nilS | assumption) ?_))
    · refine CW.skip ?_
      refine hK10 _ _ _ ?_
      refine CW.seq fun K13 hK13 => ?_
      refine CW.region ?_
      refine RL.q (Y.loadAll rfl (by repeat (first | exact List.Mem.head _ | apply List.Mem.tail)) (by rfl) agg31) rfl ?_
      refine RL.storeAgg _ rfl rfl (by repeat (first | exact Repl.here _ | apply Repl.there)) (by rfl) (by first | (simp; done) | simp [IdT.vals]) (by first | (simp [Value.oneCell']; done) | simp [Value.oneCell', IdT.vals]) size31 ?_
      refine RL.nil ?_
      refine hK13 _ _ _ ?_
      refine CW.keep (Keep.cons 4 rfl (Keep.nil _)) ?_
      refine CW.ret ?_
      simp only [contentE, hk, h1, h3, reduceIte]
      exact CellAt.mk rfl (by repeat (first | exact List.Mem.head _ | apply List.Mem.tail)) (by rfl) agg31 (Turn.drop ⟨Sub.refl _, rfl, _, rfl, by rw [Ex.enc_eq]; exact (by repeat (first | exact RdL.nil _ | refine RdL.cons (by first | exact Rd.i _ | exact Rd.nilS | assumption) ?_))⟩ (by repeat (first | exact List.Sublist.refl _ | apply List.Sublist.cons_cons | apply List.Sublist.cons)))
end Go.Proofs.Ytjkcjbicleohkaa
