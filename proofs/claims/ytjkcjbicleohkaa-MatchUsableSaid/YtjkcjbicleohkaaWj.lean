/- THE WALKS, 10: the numbers D of the program. Printed by m16j.py. -/
import Derived.Test.YtjkcjbicleohkaaWi
namespace Go.Proofs.Ytjkcjbicleohkaa
open Xe

theorem table_ok (w0 : World) (M : Mem) (Γ : List As) (a b : List MNode) (u v ud : Value) (i j : Nat) (dual : List (List Int)) (hu : Rd M (MNode.encs a) u) (hv0 : Rd M (MNode.encs b) v) (hd : Rd M (dtab dual) ud)
    (hpa : Post1 a) (hpb : Post1 b) (hdo : DualOk a b dual) (hi : i < a.length) (hj : j < b.length) (hla : a.length ≤ 1000) (hlb : b.length ≤ 1000) :
    CallOk Try.prog w0 M Γ 35 #[u, v, vint i, vint j, ud] (GivesN M Γ fun M' v => Rd M' (dtab (dpTab a b dual i j)) v) := by
  obtain ⟨a1, c1, rfl, hc1, hlim1, hlen1⟩ := hu.slice
  obtain ⟨a2, c2, rfl, hcc2, hlim2, hlen2⟩ := hv0.slice
  obtain ⟨a3, c3, rfl, hc3, hlim3, hlen3⟩ := hd.slice
  obtain ⟨hpi1, hpi2⟩ := hpa i hi
  obtain ⟨hpj1, hpj2⟩ := hpb j hj
  have hnA : sizeAt a i = i - fstAt a i + 1 := rfl
  have hnB : sizeAt b j = j - fstAt b j + 1 := rfl
  refine enter (f := 35) Try.func35 rfl Try.ntmps35 rfl rfl fun w1 hw1 => ?_
  refine CW.addRd hu ?_
  refine CW.addRd hv0 ?_
  refine CW.seq fun K1 hK1 => ?_
  refine CW.region ?_
  refine RL.q (Y.assign rfl) rfl ?_
  refine RL.nil ?_
  refine hK1 _ _ _ ?_
  refine CW.keep (Keep.cons 0 rfl (Keep.cons 1 rfl (Keep.cons 2 rfl (Keep.cons 3 rfl (Keep.cons 4 rfl (Keep.nil _)))))) ?_
  refine CW.seq fun K2 hK2 => ?_
  refine CW.regionQ mix (by kernel_rfl) ?_
  refine QL.q (Y.move rfl) rfl ?_
  refine QL.q (Y.move rfl) rfl ?_
  refine QL.q (Y.move rfl) rfl ?_
  refine QL.q (Y.index i rfl rfl rfl hi slice74 (fun _ hw => hw.rd_some (by repeat (first | exact List.Mem.head _ | apply List.Mem.tail)) (by omega))) rfl ?_
  refine QL.q (Y.field rfl field80_1) rfl ?_
  refine QL.q (Y.loadRd rfl (by repeat (first | exact List.Mem.head _ | apply List.Mem.tail)) (mfirst hi) flat3) rfl ?_
  refine QL.q (Y.sub rfl rfl (by omega)) rfl ?_
  refine QL.q (Y.add rfl rfl (by omega)) rfl ?_
  refine QL.q (Y.move rfl) rfl ?_
  refine QL.q (Y.move rfl) rfl ?_
  refine QL.q (Y.move rfl) rfl ?_
  refine QL.q (Y.index j rfl rfl rfl hj slice74 (fun _ hw => hw.rd_some (by repeat (first | exact List.Mem.head _ | apply List.Mem.tail)) (by omega))) rfl ?_
  refine QL.q (Y.field rfl field80_1) rfl ?_
  refine QL.q (Y.loadRd rfl (by repeat (first | exact List.Mem.head _ | apply List.Mem.tail)) (mfirst hj) flat3) rfl ?_
  refine QL.q (Y.sub rfl rfl (by omega)) rfl ?_
  refine QL.q (Y.add rfl rfl (by omega)) rfl ?_
  refine QL.q (Y.assign rfl) rfl ?_
  refine QL.q (Y.assign rfl) rfl ?_
  refine QL.nil ?_
  refine hK2 _ _ _ ?_
  refine CW.keep (Keep.cons 0 rfl (Keep.cons 1 rfl (Keep.cons 2 rfl (Keep.cons 3 rfl (Keep.cons 4 rfl (Keep.cons 11 rfl (Keep.cons 12 rfl (Keep.nil _)))))))) ?_
  rw [show (i : Int) - (fstAt a i : Nat) + 1 = ((sizeAt a i : Nat) : Int) from by omega, show (j : Int) - (fstAt b j : Nat) + 1 = ((sizeAt b j : Nat) : Int) from by omega]
  refine CW.seq fun K3 hK3 => ?_
  refine CW.region ?_
  refine RL.q (Y.move rfl) rfl ?_
  refine RL.q (Y.add rfl rfl (by omega)) rfl ?_
  refine RL.make (k := sizeAt a i + 1) elem35 zero22 rfl rfl (by omega) (by omega) (by first | omega | (unfold lim; omega)) (by first | omega | (unfold lim; omega)) rfl fun b37 => ?_
  refine RL.q (Y.assign rfl) rfl ?_
  refine RL.nil ?_
  refine hK3 _ _ _ ?_
  refine CW.keep (Keep.cons 0 rfl (Keep.cons 1 rfl (Keep.cons 2 rfl (Keep.cons 3 rfl (Keep.cons 4 rfl (Keep.cons 12 rfl (Keep.cons 13 rfl (Keep.nil _)))))))) ?_
  rw [made_nils]
  refine CW.seq fun K4 hK4 => ?_
  refine CW.seq fun K5 hK5 => ?_
  refine CW.region ?_
  refine RL.q (Y.move rfl) rfl ?_
  refine RL.q (Y.len rfl Try.underlying35) rfl ?_
  refine RL.q (Y.move rfl) rfl ?_
  refine RL.nil ?_
  refine hK5 _ _ _ ?_
  refine CW.keep (Keep.cons 0 rfl (Keep.cons 1 rfl (Keep.cons 2 rfl (Keep.cons 3 rfl (Keep.cons 4 rfl (Keep.cons 12 rfl (Keep.cons 13 rfl (Keep.cons 39 rfl (Keep.cons 40 rfl (Keep.nil _)))))))))) ?_
  refine CW.block ?_
  -- LOOP 1: live [0, 1, 2, 3, 4, 12, 13, 39, 40] changed [40]
  refine CW.keep (Keep.cons 40 rfl (Keep.cons 0 rfl (Keep.cons 1 rfl (Keep.cons 2 rfl (Keep.cons 3 rfl (Keep.cons 4 rfl (Keep.cons 12 rfl (Keep.cons 13 rfl (Keep.cons 39 rfl (Keep.nil _)))))))))) ?_
  refine CW.loopF (fun mm Lc M1 Γc => ∃ (x : Nat) (us : List Value), mm = sizeAt a i + 1 - x ∧ x ≤ sizeAt a i + 1 ∧ Lc = [(40, vint x)] ∧ Γc = [.own b37 22 (outerP us (sizeAt a i + 1))] ∧ us.length = x ∧ RdL (M1.diff M) ((List.range x).map fun k => dints (dpRow a b dual i j k)) us) (sizeAt a i + 1) [(40, _)] [.own _ _ _] rfl rfl ⟨0, [], rfl, Nat.zero_le _, rfl, rfl, rfl, RdL.nil _⟩ ?_
  rintro mm Lc M1 Γc hsub ⟨x, us, rfl, hx, rfl, rfl, hul, hus⟩
  have husM := hus.mono (Mem.diff_sub M1 M)
  refine CW.seq fun K6 hK6 => ?_
  refine CW.region ?_
  refine RL.q (Y.lss rfl rfl) rfl ?_
  refine RL.nil ?_
  refine hK6 _ _ _ ?_
  refine CW.keep (Keep.cons 0 rfl (Keep.cons 1 rfl (Keep.cons 2 rfl (Keep.cons 3 rfl (Keep.cons 4 rfl (Keep.cons 12 rfl (Keep.cons 13 rfl (Keep.cons 39 rfl (Keep.cons 40 rfl (Keep.cons 41 rfl (Keep.nil _))))))))))) ?_
  refine CW.seq fun K7 hK7 => ?_
  refine CW.ite rfl (fun h1 => ?_) (fun h1 => ?_)
  · refine CW.skip ?_
    refine hK7 _ _ _ ?_
    refine CW.seq fun K8 hK8 => ?_
    refine CW.block ?_
    refine CW.seq fun K9 hK9 => ?_
    refine CW.region ?_
    refine RL.q (Y.move rfl) rfl ?_
    refine RL.q (Y.assign rfl) rfl ?_
    refine RL.nil ?_
    refine hK9 _ _ _ ?_
    refine CW.keep (Keep.cons 0 rfl (Keep.cons 1 rfl (Keep.cons 2 rfl (Keep.cons 3 rfl (Keep.cons 4 rfl (Keep.cons 12 rfl (Keep.cons 13 rfl (Keep.cons 14 rfl (Keep.cons 39 rfl (Keep.cons 40 rfl (Keep.nil _))))))))))) ?_
    refine CW.seq fun K10 hK10 => ?_
    refine CW.region ?_
    refine RL.q (Y.move rfl) rfl ?_
    refine RL.q (Y.move rfl) rfl ?_
    refine RL.q (Y.move rfl) rfl ?_
    refine RL.q (Y.add rfl rfl (by omega)) rfl ?_
    refine RL.make (k := sizeAt b j + 1) elem22 zero3 rfl rfl (by omega) (by omega) (by first | omega | (unfold lim; omega)) (by first | omega | (unfold lim; omega)) rfl fun b47 => ?_
    refine RL.q (Y.index x rfl rfl rfl (by omega) slice35 (fun _ _ => rfl)) rfl ?_
    refine RL.store (outerP (us ++ [Value.slice (some ⟨b47, 0, none⟩) (sizeAt b j + 1) (sizeAt b j + 1)]) (sizeAt a i + 1)) rfl rfl (by repeat (first | exact Repl.here _ | apply Repl.there)) (outerP_set (by omega) (by omega)) (by rw [outerP_len (by omega)]; omega) (by rfl) size22 ?_
    refine RL.nil ?_
    refine hK10 _ _ _ ?_
    refine CW.keep (Keep.cons 0 rfl (Keep.cons 1 rfl (Keep.cons 2 rfl (Keep.cons 3 rfl (Keep.cons 4 rfl (Keep.cons 12 rfl (Keep.cons 13 rfl (Keep.cons 14 rfl (Keep.cons 39 rfl (Keep.cons 40 rfl (Keep.nil _))))))))))) ?_
    rw [made_ints, ← part_zero (dp a b dual i j x)]
    refine CW.seq fun K11 hK11 => ?_
    have hux : (us ++ [Value.slice (some ⟨b47, 0, none⟩) (sizeAt b j + 1) (sizeAt b j + 1)])[x]? = some (Value.slice (some ⟨b47, 0, none⟩) (sizeAt b j + 1) (sizeAt b j + 1)) := by rw [List.getElem?_append_right (by omega), hul, Nat.sub_self]; rfl
    refine CW.region ?_
    refine RL.q (Y.move rfl) rfl ?_
    refine RL.q (Y.move rfl) rfl ?_
    refine RL.q (Y.index x rfl rfl rfl (by omega) slice35 (fun _ _ => rfl)) rfl ?_
    refine RL.q (Y.loadOwn rfl (by repeat (first | exact List.Mem.head _ | apply List.Mem.tail)) (outerP_get hux) flat22) rfl ?_
    refine RL.q (Y.len rfl Try.underlying22) rfl ?_
    refine RL.q (Y.move rfl) rfl ?_
    refine RL.nil ?_
    refine hK11 _ _ _ ?_
    refine CW.keep (Keep.cons 0 rfl (Keep.cons 1 rfl (Keep.cons 2 rfl (Keep.cons 3 rfl (Keep.cons 4 rfl (Keep.cons 12 rfl (Keep.cons 13 rfl (Keep.cons 14 rfl (Keep.cons 39 rfl (Keep.cons 40 rfl (Keep.cons 53 rfl (Keep.cons 54 rfl (Keep.nil _))))))))))))) ?_
    refine CW.front (x := .own b47 _ _) (by repeat (first | exact Pick.here _ | apply Pick.there)) ?_
    refine CW.block ?_
    -- LOOP 2: live [0, 1, 2, 3, 4, 12, 13, 14, 39, 40, 53, 54] changed [54]
    refine CW.keep (Keep.cons 54 rfl (Keep.cons 0 rfl (Keep.cons 1 rfl (Keep.cons 2 rfl (Keep.cons 3 rfl (Keep.cons 4 rfl (Keep.cons 12 rfl (Keep.cons 13 rfl (Keep.cons 14 rfl (Keep.cons 39 rfl (Keep.cons 40 rfl (Keep.cons 53 rfl (Keep.nil _))))))))))))) ?_
    refine CW.loopF (fun mm Lc M3 Γc => ∃ y : Nat, mm = sizeAt b j + 1 - y ∧ y ≤ sizeAt b j + 1 ∧ Lc = [(54, vint y)] ∧ Γc = [.own b47 3 (ints (rowP (dp a b dual i j x) y (sizeAt b j + 1)))] ∧ M3 = M1) (sizeAt b j + 1) [(54, _)] [.own _ _ _] rfl rfl ⟨0, rfl, Nat.zero_le _, rfl, rfl, rfl⟩ ?_
    rintro mm Lc M3 Γc hsub3 ⟨y, rfl, hy, rfl, rfl, rfl⟩
    refine CW.seq fun K12 hK12 => ?_
    refine CW.region ?_
    refine RL.q (Y.lss rfl rfl) rfl ?_
    refine RL.nil ?_
    refine hK12 _ _ _ ?_
    refine CW.keep (Keep.cons 0 rfl (Keep.cons 1 rfl (Keep.cons 2 rfl (Keep.cons 3 rfl (Keep.cons 4 rfl (Keep.cons 12 rfl (Keep.cons 13 rfl (Keep.cons 14 rfl (Keep.cons 39 rfl (Keep.cons 40 rfl (Keep.cons 53 rfl (Keep.cons 54 rfl (Keep.cons 55 rfl (Keep.nil _)))))))))))))) ?_
    refine CW.seq fun K13 hK13 => ?_
    refine CW.ite rfl (fun h2 => ?_) (fun h2 => ?_)
    · refine CW.skip ?_
      refine hK13 _ _ _ ?_
      refine CW.seq fun K14 hK14 => ?_
      refine CW.block ?_
      refine CW.seq fun K15 hK15 => ?_
      refine CW.region ?_
      refine RL.q (Y.move rfl) rfl ?_
      refine RL.q (Y.assign rfl) rfl ?_
      refine RL.nil ?_
      refine hK15 _ _ _ ?_
      refine CW.keep (Keep.cons 0 rfl (Keep.cons 1 rfl (Keep.cons 2 rfl (Keep.cons 3 rfl (Keep.cons 4 rfl (Keep.cons 12 rfl (Keep.cons 13 rfl (Keep.cons 14 rfl (Keep.cons 15 rfl (Keep.cons 39 rfl (Keep.cons 40 rfl (Keep.cons 53 rfl (Keep.cons 54 rfl (Keep.nil _)))))))))))))) ?_
      refine CW.seq fun K16 hK16 => ?_
      refine CW.seq fun K17 hK17 => ?_
      refine CW.region ?_
      refine RL.q (Y.move rfl) rfl ?_
      refine RL.qs (Y.eql rfl rfl) rfl (fun g58 => ?_) (fun g58 => ?_)
      · refine RL.q (Y.move rfl) rfl ?_
        refine RL.no ⟨_, _, rfl, rfl, rfl⟩ rfl ?_
        refine RL.no ⟨_, _, rfl, rfl, rfl⟩ rfl ?_
        refine RL.q (Y.pickT rfl rfl) rfl ?_
        refine RL.nil ?_
        refine hK17 _ _ _ ?_
        refine CW.keep (Keep.cons 0 rfl (Keep.cons 1 rfl (Keep.cons 2 rfl (Keep.cons 3 rfl (Keep.cons 4 rfl (Keep.cons 12 rfl (Keep.cons 13 rfl (Keep.cons 14 rfl (Keep.cons 15 rfl (Keep.cons 39 rfl (Keep.cons 40 rfl (Keep.cons 53 rfl (Keep.cons 54 rfl (Keep.cons 62 rfl (Keep.nil _))))))))))))))) ?_
        refine CW.yes rfl ?_
        refine CW.seq fun K18 hK18 => ?_
        have hz : x = 0 ∨ y = 0 := by omega
        refine CW.region ?_
        refine RL.q (Y.move rfl) rfl ?_
        refine RL.q (Y.move rfl) rfl ?_
        refine RL.q (Y.index x rfl rfl rfl (by omega) slice35 (fun _ _ => rfl)) rfl ?_
        refine RL.q (Y.loadOwn rfl (by repeat (first | exact List.Mem.head _ | apply List.Mem.tail)) (outerP_get hux) flat22) rfl ?_
        refine RL.q (Y.move rfl) rfl ?_
        refine RL.q (Y.move rfl) rfl ?_
        refine RL.q (Y.move rfl) rfl ?_
        refine RL.q (Y.add rfl rfl (by omega)) rfl ?_
        refine RL.q (Y.index y rfl rfl (by omega) (by omega) slice22 (fun _ _ => rfl)) rfl ?_
        refine RL.store (ints (rowP (dp a b dual i j x) (y + 1) (sizeAt b j + 1))) rfl rfl (by repeat (first | exact Repl.here _ | apply Repl.there)) (fill_one (by omega) (by omega) (by rw [dp_zero hz]; omega)) (by rw [ints_len, part_len]; omega) (by rfl) size3 ?_
        refine RL.nil ?_
        refine hK18 _ _ _ ?_
        refine CW.keep (Keep.cons 0 rfl (Keep.cons 1 rfl (Keep.cons 2 rfl (Keep.cons 3 rfl (Keep.cons 4 rfl (Keep.cons 12 rfl (Keep.cons 13 rfl (Keep.cons 14 rfl (Keep.cons 39 rfl (Keep.cons 40 rfl (Keep.cons 53 rfl (Keep.cons 54 rfl (Keep.nil _))))))))))))) ?_
        refine CW.exit ?_
        refine hK14 _ _ _ ?_
        refine CW.region ?_
        refine RL.q (Y.add rfl rfl (by omega)) rfl ?_
        refine RL.q (Y.move rfl) rfl ?_
        refine RL.nil ?_
        refine ⟨sizeAt b j + 1 - (y + 1), [(54, _)], ?_, (Keep.cons 54 rfl (Keep.cons 0 rfl (Keep.cons 1 rfl (Keep.cons 2 rfl (Keep.cons 3 rfl (Keep.cons 4 rfl (Keep.cons 12 rfl (Keep.cons 13 rfl (Keep.cons 14 rfl (Keep.cons 39 rfl (Keep.cons 40 rfl (Keep.cons 53 rfl (Keep.nil _))))))))))))), ?_⟩
        · omega
        · exact Turn.drop ⟨[_], rfl, hsub3, y + 1, rfl, by omega, rfl, rfl, rfl⟩ (by repeat (first | exact List.Sublist.refl _ | apply List.Sublist.cons_cons | apply List.Sublist.cons))
      · refine RL.q (Y.move rfl) rfl ?_
        refine RL.qg ⟨_, _, rfl, rfl, rfl⟩ (Y.move rfl) rfl ?_
        refine RL.qg ⟨_, _, rfl, rfl, rfl⟩ (Y.eql rfl rfl) rfl ?_
        refine RL.q (Y.pickF rfl rfl) rfl ?_
        refine RL.nil ?_
        refine hK17 _ _ _ ?_
        refine CW.keep (Keep.cons 0 rfl (Keep.cons 1 rfl (Keep.cons 2 rfl (Keep.cons 3 rfl (Keep.cons 4 rfl (Keep.cons 12 rfl (Keep.cons 13 rfl (Keep.cons 14 rfl (Keep.cons 15 rfl (Keep.cons 39 rfl (Keep.cons 40 rfl (Keep.cons 53 rfl (Keep.cons 54 rfl (Keep.cons 62 rfl (Keep.nil _))))))))))))))) ?_
        refine CW.ite rfl (fun h4 => ?_) (fun h4 => ?_)
        · refine CW.seq fun K19 hK19 => ?_
          have hz : x = 0 ∨ y = 0 := by omega
          refine CW.region ?_
          refine RL.q (Y.move rfl) rfl ?_
          refine RL.q (Y.move rfl) rfl ?_
          refine RL.q (Y.index x rfl rfl rfl (by omega) slice35 (fun _ _ => rfl)) rfl ?_
          refine RL.q (Y.loadOwn rfl (by repeat (first | exact List.Mem.head _ | apply List.Mem.tail)) (outerP_get hux) flat22) rfl ?_
          refine RL.q (Y.move rfl) rfl ?_
          refine RL.q (Y.move rfl) rfl ?_
          refine RL.q (Y.move rfl) rfl ?_
          refine RL.q (Y.add rfl rfl (by omega)) rfl ?_
          refine RL.q (Y.index y rfl rfl (by omega) (by omega) slice22 (fun _ _ => rfl)) rfl ?_
          refine RL.store (ints (rowP (dp a b dual i j x) (y + 1) (sizeAt b j + 1))) rfl rfl (by repeat (first | exact Repl.here _ | apply Repl.there)) (fill_one (by omega) (by omega) (by rw [dp_zero hz]; omega)) (by rw [ints_len, part_len]; omega) (by rfl) size3 ?_
          refine RL.nil ?_
          refine hK19 _ _ _ ?_
          refine CW.keep (Keep.cons 0 rfl (Keep.cons 1 rfl (Keep.cons 2 rfl (Keep.cons 3 rfl (Keep.cons 4 rfl (Keep.cons 12 rfl (Keep.cons 13 rfl (Keep.cons 14 rfl (Keep.cons 39 rfl (Keep.cons 40 rfl (Keep.cons 53 rfl (Keep.cons 54 rfl (Keep.nil _))))))))))))) ?_
          refine CW.exit ?_
          refine hK14 _ _ _ ?_
          refine CW.region ?_
          refine RL.q (Y.add rfl rfl (by omega)) rfl ?_
          refine RL.q (Y.move rfl) rfl ?_
          refine RL.nil ?_
          refine ⟨sizeAt b j + 1 - (y + 1), [(54, _)], ?_, (Keep.cons 54 rfl (Keep.cons 0 rfl (Keep.cons 1 rfl (Keep.cons 2 rfl (Keep.cons 3 rfl (Keep.cons 4 rfl (Keep.cons 12 rfl (Keep.cons 13 rfl (Keep.cons 14 rfl (Keep.cons 39 rfl (Keep.cons 40 rfl (Keep.cons 53 rfl (Keep.nil _))))))))))))), ?_⟩
          · omega
          · exact Turn.drop ⟨[_], rfl, hsub3, y + 1, rfl, by omega, rfl, rfl, rfl⟩ (by repeat (first | exact List.Sublist.refl _ | apply List.Sublist.cons_cons | apply List.Sublist.cons))
        · refine CW.skip ?_
          refine hK16 _ _ _ ?_
          refine CW.seq fun K20 hK20 => ?_
          have hx0 : 0 < x := by omega
          have hy0 : 0 < y := by omega
          refine CW.regionQ mix (by kernel_rfl) ?_
          refine QL.q (Y.move rfl) rfl ?_
          refine QL.q (Y.move rfl) rfl ?_
          refine QL.q (Y.index i rfl rfl rfl hi slice74 (fun _ hw => hw.rd_some (by repeat (first | exact List.Mem.head _ | apply List.Mem.tail)) (by omega))) rfl ?_
          refine QL.q (Y.field rfl field80_1) rfl ?_
          refine QL.q (Y.loadRd rfl (by repeat (first | exact List.Mem.head _ | apply List.Mem.tail)) (mfirst hi) flat3) rfl ?_
          refine QL.q (Y.move rfl) rfl ?_
          refine QL.q (Y.add rfl rfl (by omega)) rfl ?_
          refine QL.q (Y.sub rfl rfl (by omega)) rfl ?_
          refine QL.q (Y.move rfl) rfl ?_
          refine QL.q (Y.move rfl) rfl ?_
          refine QL.q (Y.index j rfl rfl rfl hj slice74 (fun _ hw => hw.rd_some (by repeat (first | exact List.Mem.head _ | apply List.Mem.tail)) (by omega))) rfl ?_
          refine QL.q (Y.field rfl field80_1) rfl ?_
          refine QL.q (Y.loadRd rfl (by repeat (first | exact List.Mem.head _ | apply List.Mem.tail)) (mfirst hj) flat3) rfl ?_
          refine QL.q (Y.move rfl) rfl ?_
          refine QL.q (Y.add rfl rfl (by omega)) rfl ?_
          refine QL.q (Y.sub rfl rfl (by omega)) rfl ?_
          refine QL.q (Y.assign rfl) rfl ?_
          refine QL.q (Y.assign rfl) rfl ?_
          refine QL.nil ?_
          refine hK20 _ _ _ ?_
          refine CW.keep (Keep.cons 0 rfl (Keep.cons 1 rfl (Keep.cons 2 rfl (Keep.cons 3 rfl (Keep.cons 4 rfl (Keep.cons 12 rfl (Keep.cons 13 rfl (Keep.cons 14 rfl (Keep.cons 15 rfl (Keep.cons 16 rfl (Keep.cons 17 rfl (Keep.cons 39 rfl (Keep.cons 40 rfl (Keep.cons 53 rfl (Keep.cons 54 rfl (Keep.nil _)))))))))))))))) ?_
          rw [show ((fstAt a i : Nat) : Int) + (x : Int) - 1 = ((fstAt a i + x - 1 : Nat) : Int) from by omega, show ((fstAt b j : Nat) : Int) + (y : Int) - 1 = ((fstAt b j + y - 1 : Nat) : Int) from by omega]
          have hv : fstAt a i + x - 1 < a.length := by omega
          have hvp := (hpa _ hv).1
          have hvq := hpi2 (fstAt a i + x - 1) (by omega) (by omega)
          have hw : fstAt b j + y - 1 < b.length := by omega
          have hwp := (hpb _ hw).1
          have hwq := hpj2 (fstAt b j + y - 1) (by omega) (by omega)
          refine CW.seq fun K21 hK21 => ?_
          obtain ⟨u1, hu10, hr1⟩ := RdL.get husM (range_get (fun k => dints (dpRow a b dual i j k)) (show x - 1 < x by omega))
          obtain ⟨ax, cx, rfl, _, _, _⟩ := hr1.slice
          have hu1 : (us ++ [Value.slice (some ⟨b47, 0, none⟩) (sizeAt b j + 1) (sizeAt b j + 1)])[x - 1]? = some (.slice ax (dpRow a b dual i j (x - 1)).length cx) := by rw [List.getElem?_append_left (by omega)]; exact hu10
          have hb1 := dp_le (a := a) (b := b) (i := i) (j := j) hdo.num _ (x - 1) y (Nat.le_refl _)
          have hb2 := dp_le (a := a) (b := b) (i := i) (j := j) hdo.num _ x (y - 1) (Nat.le_refl _)
          refine CW.regionQ mix (by kernel_rfl) ?_
          refine QL.q (Y.move rfl) rfl ?_
          refine QL.q (Y.move rfl) rfl ?_
          refine QL.q (Y.sub rfl rfl (by omega)) rfl ?_
          refine QL.q (Y.index (x - 1) rfl rfl (by omega) (by omega) slice35 (fun _ _ => rfl)) rfl ?_
          refine QL.q (Y.loadOwn rfl (by repeat (first | exact List.Mem.head _ | apply List.Mem.tail)) (outerP_get hu1) flat22) rfl ?_
          refine QL.q (Y.move rfl) rfl ?_
          refine QL.q (Y.indexP y rfl rfl (by omega) (by rw [dpRow_len]; omega) slice22 hr1) rfl ?_
          refine QL.q (Y.loadP rfl hr1 (dints_get (dpRow_get _ _ _ _ _ _ y (by omega))) flat3) rfl ?_
          refine QL.q (Y.move rfl) rfl ?_
          refine QL.q (Y.move rfl) rfl ?_
          refine QL.q (Y.index x rfl rfl rfl (by omega) slice35 (fun _ _ => rfl)) rfl ?_
          refine QL.q (Y.loadOwn rfl (by repeat (first | exact List.Mem.head _ | apply List.Mem.tail)) (outerP_get hux) flat22) rfl ?_
          refine QL.q (Y.move rfl) rfl ?_
          refine QL.q (Y.sub rfl rfl (by omega)) rfl ?_
          refine QL.q (Y.index (y - 1) rfl rfl (by omega) (by omega) slice22 (fun _ _ => rfl)) rfl ?_
          refine QL.q (Y.loadOwn rfl (by repeat (first | exact List.Mem.head _ | apply List.Mem.tail)) (ints_get (k := y - 1) (part_get2 _ (by omega) (by omega)) (by omega)) flat3) rfl ?_
          refine QL.q (Y.min2 rfl rfl) rfl ?_
          refine QL.q (Y.add rfl rfl (by omega)) rfl ?_
          refine QL.q (Y.assign rfl) rfl ?_
          refine QL.nil ?_
          refine hK21 _ _ _ ?_
          refine CW.keep (Keep.cons 0 rfl (Keep.cons 1 rfl (Keep.cons 2 rfl (Keep.cons 3 rfl (Keep.cons 4 rfl (Keep.cons 12 rfl (Keep.cons 13 rfl (Keep.cons 14 rfl (Keep.cons 15 rfl (Keep.cons 16 rfl (Keep.cons 17 rfl (Keep.cons 18 rfl (Keep.cons 39 rfl (Keep.cons 40 rfl (Keep.cons 53 rfl (Keep.cons 54 rfl (Keep.nil _))))))))))))))))) ?_
          refine CW.seq fun K22 hK22 => ?_
          refine CW.seq fun K23 hK23 => ?_
          refine CW.region ?_
          refine RL.q (Y.move rfl) rfl ?_
          refine RL.q (Y.move rfl) rfl ?_
          refine RL.qs (Y.eql rfl rfl) rfl (fun g108 => ?_) (fun g108 => ?_)
          · refine RL.q (Y.move rfl) rfl ?_
            refine RL.qg ⟨_, _, rfl, rfl, rfl⟩ (Y.move rfl) rfl ?_
            refine RL.qg ⟨_, _, rfl, rfl, rfl⟩ (Y.move rfl) rfl ?_
            refine RL.qg ⟨_, _, rfl, rfl, rfl⟩ (Y.eql rfl rfl) rfl ?_
            refine RL.q (Y.pickT rfl rfl) rfl ?_
            refine RL.nil ?_
            refine hK23 _ _ _ ?_
            refine CW.keep (Keep.cons 0 rfl (Keep.cons 1 rfl (Keep.cons 2 rfl (Keep.cons 3 rfl (Keep.cons 4 rfl (Keep.cons 12 rfl (Keep.cons 13 rfl (Keep.cons 14 rfl (Keep.cons 15 rfl (Keep.cons 16 rfl (Keep.cons 17 rfl (Keep.cons 18 rfl (Keep.cons 39 rfl (Keep.cons 40 rfl (Keep.cons 53 rfl (Keep.cons 54 rfl (Keep.cons 113 rfl (Keep.nil _)))))))))))))))))) ?_
            refine CW.ite rfl (fun h5 => ?_) (fun h5 => ?_)
            · have hb3 := dp_le (a := a) (b := b) (i := i) (j := j) hdo.num _ (x - 1) (y - 1) (Nat.le_refl _)
              have hcv : 0 ≤ (if (a[fstAt a i + x - 1]).e.like (b[fstAt b j + y - 1]).e then (0 : Int) else 1) ∧ (if (a[fstAt a i + x - 1]).e.like (b[fstAt b j + y - 1]).e then (0 : Int) else 1) ≤ 1 := by split <;> omega
              refine CW.regionQ mix (by kernel_rfl) ?_
              refine QL.q (Y.move rfl) rfl ?_
              refine QL.q (Y.move rfl) rfl ?_
              refine QL.q (Y.move rfl) rfl ?_
              refine QL.q (Y.sub rfl rfl (by omega)) rfl ?_
              refine QL.q (Y.index (x - 1) rfl rfl (by omega) (by omega) slice35 (fun _ _ => rfl)) rfl ?_
              refine QL.q (Y.loadOwn rfl (by repeat (first | exact List.Mem.head _ | apply List.Mem.tail)) (outerP_get hu1) flat22) rfl ?_
              refine QL.q (Y.move rfl) rfl ?_
              refine QL.q (Y.sub rfl rfl (by omega)) rfl ?_
              refine QL.q (Y.indexP (y - 1) rfl rfl (by omega) (by rw [dpRow_len]; omega) slice22 hr1) rfl ?_
              refine QL.q (Y.loadP rfl hr1 (dints_get (dpRow_get _ _ _ _ _ _ (y - 1) (by omega))) flat3) rfl ?_
              refine QL.q (Y.move rfl) rfl ?_
              refine QL.q (Y.move rfl) rfl ?_
              refine QL.q (Y.index (fstAt a i + x - 1) rfl rfl rfl hv slice74 (fun _ hw => hw.rd_some (by repeat (first | exact List.Mem.head _ | apply List.Mem.tail)) (by omega))) rfl ?_
              refine QL.loadAgg rfl rfl (by repeat (first | exact List.Mem.head _ | apply List.Mem.tail)) (flat_take MNode.enc_len _ (fstAt a i + x - 1) _ (List.getElem?_eq_getElem hv)) (by first | rfl | exact Ex.enc_len _ | exact Ty.enc_len _ | exact MNode.enc_len _ | exact RNode.enc_len _) agg80 rfl fun us127 hul127 hur127 => ?_
              refine QL.q (Y.move rfl) rfl ?_
              refine QL.q (Y.move rfl) rfl ?_
              refine QL.q (Y.index (fstAt b j + y - 1) rfl rfl rfl hw slice74 (fun _ hw => hw.rd_some (by repeat (first | exact List.Mem.head _ | apply List.Mem.tail)) (by omega))) rfl ?_
              refine QL.loadAgg rfl rfl (by repeat (first | exact List.Mem.head _ | apply List.Mem.tail)) (flat_take MNode.enc_len _ (fstAt b j + y - 1) _ (List.getElem?_eq_getElem hw)) (by first | rfl | exact Ex.enc_len _ | exact Ty.enc_len _ | exact MNode.enc_len _ | exact RNode.enc_len _) agg80 rfl fun us131 hul131 hur131 => ?_
              refine QL.callv rfl func52 rfl rfl (fun _ _ => change_ok _ _ _ (a[fstAt a i + x - 1]) (b[fstAt b j + y - 1]) _ _ hur127 hur131) ?_
              refine QL.q (Y.add rfl rfl (by omega)) rfl ?_
              refine QL.q (Y.min2 rfl rfl) rfl ?_
              refine QL.q (Y.assign rfl) rfl ?_
              refine QL.nil ?_
              refine hK22 _ _ _ ?_
              refine CW.keep (Keep.cons 0 rfl (Keep.cons 1 rfl (Keep.cons 2 rfl (Keep.cons 3 rfl (Keep.cons 4 rfl (Keep.cons 12 rfl (Keep.cons 13 rfl (Keep.cons 14 rfl (Keep.cons 15 rfl (Keep.cons 18 rfl (Keep.cons 39 rfl (Keep.cons 40 rfl (Keep.cons 53 rfl (Keep.cons 54 rfl (Keep.nil _))))))))))))))) ?_
              refine CW.region ?_
              refine RL.q (Y.move rfl) rfl ?_
              refine RL.q (Y.move rfl) rfl ?_
              refine RL.q (Y.index x rfl rfl rfl (by omega) slice35 (fun _ _ => rfl)) rfl ?_
              refine RL.q (Y.loadOwn rfl (by repeat (first | exact List.Mem.head _ | apply List.Mem.tail)) (outerP_get hux) flat22) rfl ?_
              refine RL.q (Y.move rfl) rfl ?_
              refine RL.q (Y.move rfl) rfl ?_
              refine RL.q (Y.index y rfl rfl (by omega) (by omega) slice22 (fun _ _ => rfl)) rfl ?_
              refine RL.store (ints (rowP (dp a b dual i j x) (y + 1) (sizeAt b j + 1))) rfl rfl (by repeat (first | exact Repl.here _ | apply Repl.there)) (fill_one (by omega) (by omega) (by first | (rw [dp_root hx0 hy0 (by omega), exAt_M hv, exAt_M hw]; first | done | rfl) | (rw [dp_part hx0 hy0 (by omega) hvp hwp]))) (by rw [ints_len, part_len]; omega) (by rfl) size3 ?_
              refine RL.nil ?_
              refine hK14 _ _ _ ?_
              refine CW.keep (Keep.cons 0 rfl (Keep.cons 1 rfl (Keep.cons 2 rfl (Keep.cons 3 rfl (Keep.cons 4 rfl (Keep.cons 12 rfl (Keep.cons 13 rfl (Keep.cons 14 rfl (Keep.cons 39 rfl (Keep.cons 40 rfl (Keep.cons 53 rfl (Keep.cons 54 rfl (Keep.nil _))))))))))))) ?_
              refine CW.region ?_
              refine RL.q (Y.add rfl rfl (by omega)) rfl ?_
              refine RL.q (Y.move rfl) rfl ?_
              refine RL.nil ?_
              refine ⟨sizeAt b j + 1 - (y + 1), [(54, _)], ?_, (Keep.cons 54 rfl (Keep.cons 0 rfl (Keep.cons 1 rfl (Keep.cons 2 rfl (Keep.cons 3 rfl (Keep.cons 4 rfl (Keep.cons 12 rfl (Keep.cons 13 rfl (Keep.cons 14 rfl (Keep.cons 39 rfl (Keep.cons 40 rfl (Keep.cons 53 rfl (Keep.nil _))))))))))))), ?_⟩
              · omega
              · exact Turn.drop ⟨[_], rfl, hsub3, y + 1, rfl, by omega, rfl, rfl, rfl⟩ (by repeat (first | exact List.Sublist.refl _ | apply List.Sublist.cons_cons | apply List.Sublist.cons))
            · obtain ⟨uz, huz0, hrz⟩ := RdL.get husM (range_get (fun k => dints (dpRow a b dual i j k)) (show (fstAt a (fstAt a i + x - 1) - fstAt a i) < x by omega))
              obtain ⟨az, cz, rfl, _, _, _⟩ := hrz.slice
              have huz : (us ++ [Value.slice (some ⟨b47, 0, none⟩) (sizeAt b j + 1) (sizeAt b j + 1)])[(fstAt a (fstAt a i + x - 1) - fstAt a i)]? = some (.slice az (dpRow a b dual i j (fstAt a (fstAt a i + x - 1) - fstAt a i)).length cz) := by rw [List.getElem?_append_left (by omega)]; exact huz0
              have hb3 := dp_le (a := a) (b := b) (i := i) (j := j) hdo.num _ (fstAt a (fstAt a i + x - 1) - fstAt a i) (fstAt b (fstAt b j + y - 1) - fstAt b j) (Nat.le_refl _)
              obtain ⟨r, hr0, hr1d, hr2, hr3⟩ := hdo.get hv hw
              obtain ⟨u2, hc2, hrr2⟩ := (Rd.mono hsub _ _ hd).cell (q := (fstAt a i + x - 1) * 1) (dtab_get hr0)
              obtain ⟨ar, cr, rfl, _, _, _⟩ := hrr2.slice
              refine CW.regionQ mix (by kernel_rfl) ?_
              refine QL.q (Y.move rfl) rfl ?_
              refine QL.q (Y.move rfl) rfl ?_
              refine QL.q (Y.move rfl) rfl ?_
              refine QL.q (Y.move rfl) rfl ?_
              refine QL.q (Y.index (fstAt a i + x - 1) rfl rfl rfl hv slice74 (fun _ hw => hw.rd_some (by repeat (first | exact List.Mem.head _ | apply List.Mem.tail)) (by omega))) rfl ?_
              refine QL.q (Y.field rfl field80_1) rfl ?_
              refine QL.q (Y.loadRd rfl (by repeat (first | exact List.Mem.head _ | apply List.Mem.tail)) (mfirst hv) flat3) rfl ?_
              refine QL.q (Y.move rfl) rfl ?_
              refine QL.q (Y.move rfl) rfl ?_
              refine QL.q (Y.index i rfl rfl rfl hi slice74 (fun _ hw => hw.rd_some (by repeat (first | exact List.Mem.head _ | apply List.Mem.tail)) (by omega))) rfl ?_
              refine QL.q (Y.field rfl field80_1) rfl ?_
              refine QL.q (Y.loadRd rfl (by repeat (first | exact List.Mem.head _ | apply List.Mem.tail)) (mfirst hi) flat3) rfl ?_
              refine QL.q (Y.sub rfl rfl (by omega)) rfl ?_
              refine QL.q (Y.index (fstAt a (fstAt a i + x - 1) - fstAt a i) rfl rfl (by omega) (by omega) slice35 (fun _ _ => rfl)) rfl ?_
              refine QL.q (Y.loadOwn rfl (by repeat (first | exact List.Mem.head _ | apply List.Mem.tail)) (outerP_get huz) flat22) rfl ?_
              refine QL.q (Y.move rfl) rfl ?_
              refine QL.q (Y.move rfl) rfl ?_
              refine QL.q (Y.index (fstAt b j + y - 1) rfl rfl rfl hw slice74 (fun _ hw => hw.rd_some (by repeat (first | exact List.Mem.head _ | apply List.Mem.tail)) (by omega))) rfl ?_
              refine QL.q (Y.field rfl field80_1) rfl ?_
              refine QL.q (Y.loadRd rfl (by repeat (first | exact List.Mem.head _ | apply List.Mem.tail)) (mfirst hw) flat3) rfl ?_
              refine QL.q (Y.move rfl) rfl ?_
              refine QL.q (Y.move rfl) rfl ?_
              refine QL.q (Y.index j rfl rfl rfl hj slice74 (fun _ hw => hw.rd_some (by repeat (first | exact List.Mem.head _ | apply List.Mem.tail)) (by omega))) rfl ?_
              refine QL.q (Y.field rfl field80_1) rfl ?_
              refine QL.q (Y.loadRd rfl (by repeat (first | exact List.Mem.head _ | apply List.Mem.tail)) (mfirst hj) flat3) rfl ?_
              refine QL.q (Y.sub rfl rfl (by omega)) rfl ?_
              refine QL.q (Y.indexP (fstAt b (fstAt b j + y - 1) - fstAt b j) rfl rfl (by omega) (by rw [dpRow_len]; omega) slice22 hrz) rfl ?_
              refine QL.q (Y.loadP rfl hrz (dints_get (dpRow_get _ _ _ _ _ _ (fstAt b (fstAt b j + y - 1) - fstAt b j) (by omega))) flat3) rfl ?_
              refine QL.q (Y.move rfl) rfl ?_
              refine QL.q (Y.move rfl) rfl ?_
              refine QL.q (Y.indexP (fstAt a i + x - 1) rfl rfl rfl (by rw [hdo.len]; exact hv) slice35 (Rd.mono hsub _ _ hd)) rfl ?_
              refine QL.q (Y.loadC rfl hc2 flat22) rfl ?_
              refine QL.q (Y.move rfl) rfl ?_
              refine QL.q (Y.indexP (fstAt b j + y - 1) rfl rfl rfl (by rw [hdo.row _ (List.mem_of_getElem? hr0)]; exact hw) slice22 hrr2) rfl ?_
              refine QL.q (Y.loadP rfl hrr2 (dints_get hr1d) flat3) rfl ?_
              refine QL.q (Y.add rfl rfl (by omega)) rfl ?_
              refine QL.q (Y.min2 rfl rfl) rfl ?_
              refine QL.q (Y.assign rfl) rfl ?_
              refine QL.nil ?_
              refine hK22 _ _ _ ?_
              refine CW.keep (Keep.cons 0 rfl (Keep.cons 1 rfl (Keep.cons 2 rfl (Keep.cons 3 rfl (Keep.cons 4 rfl (Keep.cons 12 rfl (Keep.cons 13 rfl (Keep.cons 14 rfl (Keep.cons 15 rfl (Keep.cons 18 rfl (Keep.cons 39 rfl (Keep.cons 40 rfl (Keep.cons 53 rfl (Keep.cons 54 rfl (Keep.nil _))))))))))))))) ?_
              refine CW.region ?_
              refine RL.q (Y.move rfl) rfl ?_
              refine RL.q (Y.move rfl) rfl ?_
              refine RL.q (Y.index x rfl rfl rfl (by omega) slice35 (fun _ _ => rfl)) rfl ?_
              refine RL.q (Y.loadOwn rfl (by repeat (first | exact List.Mem.head _ | apply List.Mem.tail)) (outerP_get hux) flat22) rfl ?_
              refine RL.q (Y.move rfl) rfl ?_
              refine RL.q (Y.move rfl) rfl ?_
              refine RL.q (Y.index y rfl rfl (by omega) (by omega) slice22 (fun _ _ => rfl)) rfl ?_
              refine RL.store (ints (rowP (dp a b dual i j x) (y + 1) (sizeAt b j + 1))) rfl rfl (by repeat (first | exact Repl.here _ | apply Repl.there)) (fill_one (by omega) (by omega) (by first | (rw [dp_root hx0 hy0 (by omega), exAt_M hv, exAt_M hw]; first | done | rfl) | (rw [dp_part hx0 hy0 (by omega) hvp hwp]))) (by rw [ints_len, part_len]; omega) (by rfl) size3 ?_
              refine RL.nil ?_
              refine hK14 _ _ _ ?_
              refine CW.keep (Keep.cons 0 rfl (Keep.cons 1 rfl (Keep.cons 2 rfl (Keep.cons 3 rfl (Keep.cons 4 rfl (Keep.cons 12 rfl (Keep.cons 13 rfl (Keep.cons 14 rfl (Keep.cons 39 rfl (Keep.cons 40 rfl (Keep.cons 53 rfl (Keep.cons 54 rfl (Keep.nil _))))))))))))) ?_
              refine CW.region ?_
              refine RL.q (Y.add rfl rfl (by omega)) rfl ?_
              refine RL.q (Y.move rfl) rfl ?_
              refine RL.nil ?_
              refine ⟨sizeAt b j + 1 - (y + 1), [(54, _)], ?_, (Keep.cons 54 rfl (Keep.cons 0 rfl (Keep.cons 1 rfl (Keep.cons 2 rfl (Keep.cons 3 rfl (Keep.cons 4 rfl (Keep.cons 12 rfl (Keep.cons 13 rfl (Keep.cons 14 rfl (Keep.cons 39 rfl (Keep.cons 40 rfl (Keep.cons 53 rfl (Keep.nil _))))))))))))), ?_⟩
              · omega
              · exact Turn.drop ⟨[_], rfl, hsub3, y + 1, rfl, by omega, rfl, rfl, rfl⟩ (by repeat (first | exact List.Sublist.refl _ | apply List.Sublist.cons_cons | apply List.Sublist.cons))
          · refine RL.q (Y.move rfl) rfl ?_
            refine RL.no ⟨_, _, rfl, rfl, rfl⟩ rfl ?_
            refine RL.no ⟨_, _, rfl, rfl, rfl⟩ rfl ?_
            refine RL.no ⟨_, _, rfl, rfl, rfl⟩ rfl ?_
            refine RL.q (Y.pickF rfl rfl) rfl ?_
            refine RL.nil ?_
            refine hK23 _ _ _ ?_
            refine CW.keep (Keep.cons 0 rfl (Keep.cons 1 rfl (Keep.cons 2 rfl (Keep.cons 3 rfl (Keep.cons 4 rfl (Keep.cons 12 rfl (Keep.cons 13 rfl (Keep.cons 14 rfl (Keep.cons 15 rfl (Keep.cons 16 rfl (Keep.cons 17 rfl (Keep.cons 18 rfl (Keep.cons 39 rfl (Keep.cons 40 rfl (Keep.cons 53 rfl (Keep.cons 54 rfl (Keep.cons 113 rfl (Keep.nil _)))))))))))))))))) ?_
            refine CW.no rfl ?_
            obtain ⟨uz, huz0, hrz⟩ := RdL.get husM (range_get (fun k => dints (dpRow a b dual i j k)) (show (fstAt a (fstAt a i + x - 1) - fstAt a i) < x by omega))
            obtain ⟨az, cz, rfl, _, _, _⟩ := hrz.slice
            have huz : (us ++ [Value.slice (some ⟨b47, 0, none⟩) (sizeAt b j + 1) (sizeAt b j + 1)])[(fstAt a (fstAt a i + x - 1) - fstAt a i)]? = some (.slice az (dpRow a b dual i j (fstAt a (fstAt a i + x - 1) - fstAt a i)).length cz) := by rw [List.getElem?_append_left (by omega)]; exact huz0
            have hb3 := dp_le (a := a) (b := b) (i := i) (j := j) hdo.num _ (fstAt a (fstAt a i + x - 1) - fstAt a i) (fstAt b (fstAt b j + y - 1) - fstAt b j) (Nat.le_refl _)
            obtain ⟨r, hr0, hr1d, hr2, hr3⟩ := hdo.get hv hw
            obtain ⟨u2, hc2, hrr2⟩ := (Rd.mono hsub _ _ hd).cell (q := (fstAt a i + x - 1) * 1) (dtab_get hr0)
            obtain ⟨ar, cr, rfl, _, _, _⟩ := hrr2.slice
            refine CW.regionQ mix (by kernel_rfl) ?_
            refine QL.q (Y.move rfl) rfl ?_
            refine QL.q (Y.move rfl) rfl ?_
            refine QL.q (Y.move rfl) rfl ?_
            refine QL.q (Y.move rfl) rfl ?_
            refine QL.q (Y.index (fstAt a i + x - 1) rfl rfl rfl hv slice74 (fun _ hw => hw.rd_some (by repeat (first | exact List.Mem.head _ | apply List.Mem.tail)) (by omega))) rfl ?_
            refine QL.q (Y.field rfl field80_1) rfl ?_
            refine QL.q (Y.loadRd rfl (by repeat (first | exact List.Mem.head _ | apply List.Mem.tail)) (mfirst hv) flat3) rfl ?_
            refine QL.q (Y.move rfl) rfl ?_
            refine QL.q (Y.move rfl) rfl ?_
            refine QL.q (Y.index i rfl rfl rfl hi slice74 (fun _ hw => hw.rd_some (by repeat (first | exact List.Mem.head _ | apply List.Mem.tail)) (by omega))) rfl ?_
            refine QL.q (Y.field rfl field80_1) rfl ?_
            refine QL.q (Y.loadRd rfl (by repeat (first | exact List.Mem.head _ | apply List.Mem.tail)) (mfirst hi) flat3) rfl ?_
            refine QL.q (Y.sub rfl rfl (by omega)) rfl ?_
            refine QL.q (Y.index (fstAt a (fstAt a i + x - 1) - fstAt a i) rfl rfl (by omega) (by omega) slice35 (fun _ _ => rfl)) rfl ?_
            refine QL.q (Y.loadOwn rfl (by repeat (first | exact List.Mem.head _ | apply List.Mem.tail)) (outerP_get huz) flat22) rfl ?_
            refine QL.q (Y.move rfl) rfl ?_
            refine QL.q (Y.move rfl) rfl ?_
            refine QL.q (Y.index (fstAt b j + y - 1) rfl rfl rfl hw slice74 (fun _ hw => hw.rd_some (by repeat (first | exact List.Mem.head _ | apply List.Mem.tail)) (by omega))) rfl ?_
            refine QL.q (Y.field rfl field80_1) rfl ?_
            refine QL.q (Y.loadRd rfl (by repeat (first | exact List.Mem.head _ | apply List.Mem.tail)) (mfirst hw) flat3) rfl ?_
            refine QL.q (Y.move rfl) rfl ?_
            refine QL.q (Y.move rfl) rfl ?_
            refine QL.q (Y.index j rfl rfl rfl hj slice74 (fun _ hw => hw.rd_some (by repeat (first | exact List.Mem.head _ | apply List.Mem.tail)) (by omega))) rfl ?_
            refine QL.q (Y.field rfl field80_1) rfl ?_
            refine QL.q (Y.loadRd rfl (by repeat (first | exact List.Mem.head _ | apply List.Mem.tail)) (mfirst hj) flat3) rfl ?_
            refine QL.q (Y.sub rfl rfl (by omega)) rfl ?_
            refine QL.q (Y.indexP (fstAt b (fstAt b j + y - 1) - fstAt b j) rfl rfl (by omega) (by rw [dpRow_len]; omega) slice22 hrz) rfl ?_
            refine QL.q (Y.loadP rfl hrz (dints_get (dpRow_get _ _ _ _ _ _ (fstAt b (fstAt b j + y - 1) - fstAt b j) (by omega))) flat3) rfl ?_
            refine QL.q (Y.move rfl) rfl ?_
            refine QL.q (Y.move rfl) rfl ?_
            refine QL.q (Y.indexP (fstAt a i + x - 1) rfl rfl rfl (by rw [hdo.len]; exact hv) slice35 (Rd.mono hsub _ _ hd)) rfl ?_
            refine QL.q (Y.loadC rfl hc2 flat22) rfl ?_
            refine QL.q (Y.move rfl) rfl ?_
            refine QL.q (Y.indexP (fstAt b j + y - 1) rfl rfl rfl (by rw [hdo.row _ (List.mem_of_getElem? hr0)]; exact hw) slice22 hrr2) rfl ?_
            refine QL.q (Y.loadP rfl hrr2 (dints_get hr1d) flat3) rfl ?_
            refine QL.q (Y.add rfl rfl (by omega)) rfl ?_
            refine QL.q (Y.min2 rfl rfl) rfl ?_
            refine QL.q (Y.assign rfl) rfl ?_
            refine QL.nil ?_
            refine hK22 _ _ _ ?_
            refine CW.keep (Keep.cons 0 rfl (Keep.cons 1 rfl (Keep.cons 2 rfl (Keep.cons 3 rfl (Keep.cons 4 rfl (Keep.cons 12 rfl (Keep.cons 13 rfl (Keep.cons 14 rfl (Keep.cons 15 rfl (Keep.cons 18 rfl (Keep.cons 39 rfl (Keep.cons 40 rfl (Keep.cons 53 rfl (Keep.cons 54 rfl (Keep.nil _))))))))))))))) ?_
            refine CW.region ?_
            refine RL.q (Y.move rfl) rfl ?_
            refine RL.q (Y.move rfl) rfl ?_
            refine RL.q (Y.index x rfl rfl rfl (by omega) slice35 (fun _ _ => rfl)) rfl ?_
            refine RL.q (Y.loadOwn rfl (by repeat (first | exact List.Mem.head _ | apply List.Mem.tail)) (outerP_get hux) flat22) rfl ?_
            refine RL.q (Y.move rfl) rfl ?_
            refine RL.q (Y.move rfl) rfl ?_
            refine RL.q (Y.index y rfl rfl (by omega) (by omega) slice22 (fun _ _ => rfl)) rfl ?_
            refine RL.store (ints (rowP (dp a b dual i j x) (y + 1) (sizeAt b j + 1))) rfl rfl (by repeat (first | exact Repl.here _ | apply Repl.there)) (fill_one (by omega) (by omega) (by first | (rw [dp_root hx0 hy0 (by omega), exAt_M hv, exAt_M hw]; first | done | rfl) | (rw [dp_part hx0 hy0 (by omega) hvp hwp]))) (by rw [ints_len, part_len]; omega) (by rfl) size3 ?_
            refine RL.nil ?_
            refine hK14 _ _ _ ?_
            refine CW.keep (Keep.cons 0 rfl (Keep.cons 1 rfl (Keep.cons 2 rfl (Keep.cons 3 rfl (Keep.cons 4 rfl (Keep.cons 12 rfl (Keep.cons 13 rfl (Keep.cons 14 rfl (Keep.cons 39 rfl (Keep.cons 40 rfl (Keep.cons 53 rfl (Keep.cons 54 rfl (Keep.nil _))))))))))))) ?_
            refine CW.region ?_
            refine RL.q (Y.add rfl rfl (by omega)) rfl ?_
            refine RL.q (Y.move rfl) rfl ?_
            refine RL.nil ?_
            refine ⟨sizeAt b j + 1 - (y + 1), [(54, _)], ?_, (Keep.cons 54 rfl (Keep.cons 0 rfl (Keep.cons 1 rfl (Keep.cons 2 rfl (Keep.cons 3 rfl (Keep.cons 4 rfl (Keep.cons 12 rfl (Keep.cons 13 rfl (Keep.cons 14 rfl (Keep.cons 39 rfl (Keep.cons 40 rfl (Keep.cons 53 rfl (Keep.nil _))))))))))))), ?_⟩
            · omega
            · exact Turn.drop ⟨[_], rfl, hsub3, y + 1, rfl, by omega, rfl, rfl, rfl⟩ (by repeat (first | exact List.Sublist.refl _ | apply List.Sublist.cons_cons | apply List.Sublist.cons))
    · refine CW.exit ?_
      refine hK8 _ _ _ ?_
      have hy : y = sizeAt b j + 1 := by omega
      subst hy
      rw [dp_row_eq]
      refine CW.sealOwnD (M0 := M) hsub (b := b47) (k := (dpRow a b dual i j x).length) (sz := 1) (by repeat (first | exact Pick.here _ | apply Pick.there)) (ints_rd (dpRow a b dual i j x)) (by simp) (by rw [dpRow_len]; unfold lim; omega) fun M2 hs2 hrow => ?_
      have hrow2 : Rd (M2.diff M) (dints (dpRow a b dual i j x)) (.slice (some ⟨b47, 0, none⟩) (sizeAt b j + 1) (sizeAt b j + 1)) := by have h := hrow; rw [dpRow_len] at h; unfold dints; rw [dpRow_len]; exact h
      refine CW.region ?_
      refine RL.q (Y.add rfl rfl (by omega)) rfl ?_
      refine RL.q (Y.move rfl) rfl ?_
      refine RL.nil ?_
      refine ⟨sizeAt a i + 1 - (x + 1), [(40, _)], ?_, (Keep.cons 40 rfl (Keep.cons 0 rfl (Keep.cons 1 rfl (Keep.cons 2 rfl (Keep.cons 3 rfl (Keep.cons 4 rfl (Keep.cons 12 rfl (Keep.cons 13 rfl (Keep.cons 39 rfl (Keep.nil _)))))))))), ?_⟩
      · omega
      · exact Turn.drop ⟨[_], rfl, hsub.trans hs2, x + 1, us ++ [Value.slice (some ⟨b47, 0, none⟩) (sizeAt b j + 1) (sizeAt b j + 1)], rfl, by omega, rfl, rfl, by rw [List.length_append, hul]; rfl, by rw [dp_rows_succ]; exact (hus.mono (Mem.diff_mono hs2)).append (RdL.cons hrow2 (RdL.nil _))⟩ (by repeat (first | exact List.Sublist.refl _ | apply List.Sublist.cons_cons | apply List.Sublist.cons))
  · refine CW.exit ?_
    refine hK4 _ _ _ ?_
    refine CW.seq fun K24 hK24 => ?_
    refine CW.region ?_
    refine RL.q (Y.move rfl) rfl ?_
    refine RL.q (Y.assign rfl) rfl ?_
    refine RL.nil ?_
    refine hK24 _ _ _ ?_
    refine CW.keep (Keep.cons 10 rfl (Keep.nil _)) ?_
    refine CW.ret ?_
    refine ⟨_, rfl, ?_⟩
    have hx2 : x = sizeAt a i + 1 := by omega
    subst hx2
    rw [outerP_full hul]
    refine Turn.sealOwnD (M0 := M) hsub (b := b37) (n := (dpTab a b dual i j).length) (sz := 1) (ds := (dpTab a b dual i j).map dints) (by repeat (first | exact Pick.here _ | apply Pick.there)) (by rw [dpTab, List.map_map]; exact hus) (by simp [dpTab, hul]) (by simp [dpTab]; unfold lim; omega) (by repeat (first | exact List.Sublist.refl _ | apply List.Sublist.cons_cons | apply List.Sublist.cons)) fun M' h1 h2 => ⟨hsub.trans h1, rfl, ?_⟩
    rw [show (dpTab a b dual i j).length = sizeAt a i + 1 from by simp [dpTab]] at h2
    unfold dtab
    rw [show (dpTab a b dual i j).length = sizeAt a i + 1 from by simp [dpTab]]
    exact h2
end Go.Proofs.Ytjkcjbicleohkaa
