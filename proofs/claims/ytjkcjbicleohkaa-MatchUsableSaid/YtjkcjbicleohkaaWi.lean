/- THE WALKS, 9: the numbers D of the reference. Printed by m16i.py. -/
import Derived.Test.YtjkcjbicleohkaaWh
import Derived.Test.YtjkcjbicleohkaaDp
namespace Go.Proofs.Ytjkcjbicleohkaa
open Xe

theorem F_ok (w0 : World) (M : Mem) (Γ : List As) (a b : List RNode) (u v ud : Value) (i j : Nat) (dual : List (List Int)) (hu : Rd M (RNode.encs a) u) (hv0 : Rd M (RNode.encs b) v) (hd : Rd M (dtab dual) ud)
    (hpa : Post1 (a.map RNode.toM)) (hpb : Post1 (b.map RNode.toM)) (hdo : DualLe (b.map RNode.toM) i dual) (hi : i < a.length) (hj : j < b.length) (hla : a.length ≤ 1000) (hlb : b.length ≤ 1000) :
    CallOk Try.prog w0 M Γ 37 #[u, v, vint i, vint j, ud] (Is M Γ (vint (dpEnd (a.map RNode.toM) (b.map RNode.toM) dual i j))) := by
  obtain ⟨a1, c1, rfl, hc1, hlim1, hlen1⟩ := hu.slice
  obtain ⟨a2, c2, rfl, hcc2, hlim2, hlen2⟩ := hv0.slice
  obtain ⟨a3, c3, rfl, hc3, hlim3, hlen3⟩ := hd.slice
  have hiA : i < (a.map RNode.toM).length := by simpa using hi
  have hjB : j < (b.map RNode.toM).length := by simpa using hj
  obtain ⟨hpi1, hpi2⟩ := hpa i hiA
  obtain ⟨hpj1, hpj2⟩ := hpb j hjB
  have hlA : (a.map RNode.toM).length = a.length := by simp
  have hlB : (b.map RNode.toM).length = b.length := by simp
  generalize hA : a.map RNode.toM = A at *
  generalize hB : b.map RNode.toM = B at *
  have hnA : sizeAt A i = i - fstAt A i + 1 := rfl
  have hnB : sizeAt B j = j - fstAt B j + 1 := rfl
  have rfirstA : ∀ {k : Nat}, k < a.length → (a.flatMap RNode.enc)[k * 17 + 15]? = some (dint (fstAt A k)) := fun h => hA ▸ rfirst h
  have rfirstB : ∀ {k : Nat}, k < b.length → (b.flatMap RNode.enc)[k * 17 + 15]? = some (dint (fstAt B k)) := fun h => hB ▸ rfirst h
  have rnodeEA : ∀ {k : Nat}, k < a.length → ((a.flatMap RNode.enc).drop (k * 17 + 0)).take 15 = (exAt A k).enc := fun h => hA ▸ rnodeE h
  have rnodeEB : ∀ {k : Nat}, k < b.length → ((b.flatMap RNode.enc).drop (k * 17 + 0)).take 15 = (exAt B k).enc := fun h => hB ▸ rnodeE h
  refine enter (f := 37) Try.func37 rfl Try.ntmps37 rfl rfl fun w1 hw1 => ?_
  refine CW.addRd hu ?_
  refine CW.addRd hv0 ?_
  refine CW.accNil 22 1 ?_
  refine CW.seq fun K1 hK1 => ?_
  refine CW.region ?_
  refine RL.q (Y.assign rfl) rfl ?_
  refine RL.nil ?_
  refine hK1 _ _ _ ?_
  refine CW.keep (Keep.cons 0 rfl (Keep.cons 1 rfl (Keep.cons 2 rfl (Keep.cons 3 rfl (Keep.cons 4 rfl (Keep.nil _)))))) ?_
  refine CW.seq fun K2 hK2 => ?_
  refine CW.region ?_
  refine RL.q (Y.move rfl) rfl ?_
  refine RL.q (Y.move rfl) rfl ?_
  refine RL.q (Y.move rfl) rfl ?_
  refine RL.q (Y.index i rfl rfl rfl hi slice44 (fun _ hw => hw.rd_some (by repeat (first | exact List.Mem.head _ | apply List.Mem.tail)) (by omega))) rfl ?_
  refine RL.q (Y.field rfl field49_1) rfl ?_
  refine RL.q (Y.loadRd rfl (by repeat (first | exact List.Mem.head _ | apply List.Mem.tail)) (rfirstA hi) flat3) rfl ?_
  refine RL.q (Y.sub rfl rfl (by omega)) rfl ?_
  refine RL.q (Y.add rfl rfl (by omega)) rfl ?_
  refine RL.q (Y.assign rfl) rfl ?_
  refine RL.nil ?_
  refine hK2 _ _ _ ?_
  refine CW.keep (Keep.cons 0 rfl (Keep.cons 1 rfl (Keep.cons 2 rfl (Keep.cons 3 rfl (Keep.cons 4 rfl (Keep.cons 11 rfl (Keep.nil _))))))) ?_
  rw [show (i : Int) - (fstAt A i : Nat) + 1 = ((sizeAt A i : Nat) : Int) from by omega]
  refine CW.seq fun K3 hK3 => ?_
  refine CW.region ?_
  refine RL.q (Y.move rfl) rfl ?_
  refine RL.q (Y.move rfl) rfl ?_
  refine RL.q (Y.move rfl) rfl ?_
  refine RL.q (Y.index j rfl rfl rfl hj slice44 (fun _ hw => hw.rd_some (by repeat (first | exact List.Mem.head _ | apply List.Mem.tail)) (by omega))) rfl ?_
  refine RL.q (Y.field rfl field49_1) rfl ?_
  refine RL.q (Y.loadRd rfl (by repeat (first | exact List.Mem.head _ | apply List.Mem.tail)) (rfirstB hj) flat3) rfl ?_
  refine RL.q (Y.sub rfl rfl (by omega)) rfl ?_
  refine RL.q (Y.add rfl rfl (by omega)) rfl ?_
  refine RL.q (Y.assign rfl) rfl ?_
  refine RL.nil ?_
  refine hK3 _ _ _ ?_
  refine CW.keep (Keep.cons 0 rfl (Keep.cons 1 rfl (Keep.cons 2 rfl (Keep.cons 3 rfl (Keep.cons 4 rfl (Keep.cons 11 rfl (Keep.cons 12 rfl (Keep.nil _)))))))) ?_
  rw [show (j : Int) - (fstAt B j : Nat) + 1 = ((sizeAt B j : Nat) : Int) from by omega]
  refine CW.seq fun K4 hK4 => ?_
  refine CW.region ?_
  refine RL.q (Y.assign rfl) rfl ?_
  refine RL.nil ?_
  refine hK4 _ _ _ ?_
  refine CW.keep (Keep.cons 0 rfl (Keep.cons 1 rfl (Keep.cons 2 rfl (Keep.cons 3 rfl (Keep.cons 4 rfl (Keep.cons 11 rfl (Keep.cons 12 rfl (Keep.cons 13 rfl (Keep.nil _))))))))) ?_
  refine CW.seq fun K5 hK5 => ?_
  refine CW.seq fun K6 hK6 => ?_
  refine CW.region ?_
  refine RL.q (Y.assign rfl) rfl ?_
  refine RL.nil ?_
  refine hK6 _ _ _ ?_
  refine CW.keep (Keep.cons 0 rfl (Keep.cons 1 rfl (Keep.cons 2 rfl (Keep.cons 3 rfl (Keep.cons 4 rfl (Keep.cons 11 rfl (Keep.cons 12 rfl (Keep.cons 13 rfl (Keep.cons 14 rfl (Keep.nil _)))))))))) ?_
  refine CW.block ?_
  -- LOOP 1: live [0, 1, 2, 3, 4, 11, 12, 13, 14] changed [13, 14]
  refine CW.keep (Keep.cons 13 rfl (Keep.cons 14 rfl (Keep.cons 0 rfl (Keep.cons 1 rfl (Keep.cons 2 rfl (Keep.cons 3 rfl (Keep.cons 4 rfl (Keep.cons 11 rfl (Keep.cons 12 rfl (Keep.nil _)))))))))) ?_
  refine CW.loopF (fun mm Lc M1 Γc => ∃ (x : Nat) (a13 : Option Addr) (c13 : Nat) (us : List Value), mm = sizeAt A i + 1 - x ∧ x ≤ sizeAt A i + 1 ∧ Lc = [(13, .slice a13 x c13), (14, vint x)] ∧ Γc = [.acc (.slice a13 x c13) 22 1 x us] ∧ RdL M1 ((List.range x).map fun k => dints (dpRow A B dual i j k)) us) (sizeAt A i + 1) [(13, _), (14, _)] [.acc _ _ _ _ _] rfl rfl ⟨0, none, 0, [], rfl, Nat.zero_le _, rfl, rfl, RdL.nil _⟩ ?_
  rintro mm Lc M1 Γc hsub ⟨x, a13, c13, us, rfl, hx, rfl, rfl, hus⟩
  refine CW.seq fun K7 hK7 => ?_
  refine CW.seq fun K8 hK8 => ?_
  refine CW.region ?_
  refine RL.q (Y.move rfl) rfl ?_
  refine RL.q (Y.move rfl) rfl ?_
  refine RL.q (Y.leq rfl rfl) rfl ?_
  refine RL.nil ?_
  refine hK8 _ _ _ ?_
  refine CW.keep (Keep.cons 0 rfl (Keep.cons 1 rfl (Keep.cons 2 rfl (Keep.cons 3 rfl (Keep.cons 4 rfl (Keep.cons 11 rfl (Keep.cons 12 rfl (Keep.cons 13 rfl (Keep.cons 14 rfl (Keep.cons 40 rfl (Keep.nil _))))))))))) ?_
  refine CW.ite rfl (fun h1 => ?_) (fun h1 => ?_)
  · refine CW.skip ?_
    refine hK7 _ _ _ ?_
    refine CW.seq fun K9 hK9 => ?_
    refine CW.block ?_
    refine CW.seq fun K10 hK10 => ?_
    refine CW.region ?_
    refine RL.q (Y.move rfl) rfl ?_
    refine RL.q (Y.add rfl rfl (by omega)) rfl ?_
    refine RL.make (k := sizeAt B j + 1) elem22 zero3 rfl rfl (by omega) (by omega) (by first | omega | (unfold lim; omega)) (by first | omega | (unfold lim; omega)) rfl fun b45 => ?_
    refine RL.q (Y.assign rfl) rfl ?_
    refine RL.nil ?_
    refine hK10 _ _ _ ?_
    refine CW.keep (Keep.cons 0 rfl (Keep.cons 1 rfl (Keep.cons 2 rfl (Keep.cons 3 rfl (Keep.cons 4 rfl (Keep.cons 11 rfl (Keep.cons 12 rfl (Keep.cons 13 rfl (Keep.cons 14 rfl (Keep.cons 15 rfl (Keep.nil _))))))))))) ?_
    rw [made_ints, ← part_zero (dp A B dual i j x)]
    refine CW.seq fun K11 hK11 => ?_
    refine CW.region ?_
    refine RL.q (Y.move rfl) rfl ?_
    refine RL.q (Y.move rfl) rfl ?_
    refine RL.buildSlice [Value.slice (some ⟨b45, 0, none⟩) (sizeAt B j + 1) (sizeAt B j + 1)] elem35 rfl (by decide) (fill1 rfl rfl) rfl fun b48 => ?_
    refine RL.append elem35 rfl rfl (by repeat (first | exact Pick.here _ | apply Pick.there)) (SrcOk.own (by repeat (first | exact List.Mem.head _ | apply List.Mem.tail)) (by rfl) (by simp [Value.oneCell'])) (by first | omega | (unfold lim; omega)) (by first | omega | (unfold lim; omega)) rfl fun a49 c49 hc49 => ?_
    refine RL.q (Y.assign rfl) rfl ?_
    refine RL.nil ?_
    refine hK11 _ _ _ ?_
    refine CW.keep (Keep.cons 0 rfl (Keep.cons 1 rfl (Keep.cons 2 rfl (Keep.cons 3 rfl (Keep.cons 4 rfl (Keep.cons 11 rfl (Keep.cons 12 rfl (Keep.cons 13 rfl (Keep.cons 14 rfl (Keep.cons 15 rfl (Keep.nil _))))))))))) ?_
    refine CW.seq fun K12 hK12 => ?_
    refine CW.region ?_
    refine RL.q (Y.assign rfl) rfl ?_
    refine RL.nil ?_
    refine hK12 _ _ _ ?_
    refine CW.keep (Keep.cons 0 rfl (Keep.cons 1 rfl (Keep.cons 2 rfl (Keep.cons 3 rfl (Keep.cons 4 rfl (Keep.cons 11 rfl (Keep.cons 12 rfl (Keep.cons 13 rfl (Keep.cons 14 rfl (Keep.cons 15 rfl (Keep.cons 16 rfl (Keep.nil _)))))))))))) ?_
    refine CW.front (x := .own b45 _ _) (by repeat (first | exact Pick.here _ | apply Pick.there)) ?_
    refine CW.block ?_
    -- LOOP 2: live [0, 1, 2, 3, 4, 11, 12, 13, 14, 15, 16] changed [16]
    refine CW.keep (Keep.cons 16 rfl (Keep.cons 0 rfl (Keep.cons 1 rfl (Keep.cons 2 rfl (Keep.cons 3 rfl (Keep.cons 4 rfl (Keep.cons 11 rfl (Keep.cons 12 rfl (Keep.cons 13 rfl (Keep.cons 14 rfl (Keep.cons 15 rfl (Keep.nil _)))))))))))) ?_
    refine CW.loopF (fun mm Lc M3 Γc => ∃ y : Nat, mm = sizeAt B j + 1 - y ∧ y ≤ sizeAt B j + 1 ∧ Lc = [(16, vint y)] ∧ Γc = [.own b45 3 (ints (rowP (dp A B dual i j x) y (sizeAt B j + 1)))] ∧ M3 = M1) (sizeAt B j + 1) [(16, _)] [.own _ _ _] rfl rfl ⟨0, rfl, Nat.zero_le _, rfl, rfl, rfl⟩ ?_
    rintro mm Lc M3 Γc hsub3 ⟨y, rfl, hy, rfl, rfl, rfl⟩
    refine CW.seq fun K13 hK13 => ?_
    refine CW.seq fun K14 hK14 => ?_
    refine CW.region ?_
    refine RL.q (Y.move rfl) rfl ?_
    refine RL.q (Y.move rfl) rfl ?_
    refine RL.q (Y.leq rfl rfl) rfl ?_
    refine RL.nil ?_
    refine hK14 _ _ _ ?_
    refine CW.keep (Keep.cons 0 rfl (Keep.cons 1 rfl (Keep.cons 2 rfl (Keep.cons 3 rfl (Keep.cons 4 rfl (Keep.cons 11 rfl (Keep.cons 12 rfl (Keep.cons 13 rfl (Keep.cons 14 rfl (Keep.cons 15 rfl (Keep.cons 16 rfl (Keep.cons 52 rfl (Keep.nil _))))))))))))) ?_
    refine CW.ite rfl (fun h2 => ?_) (fun h2 => ?_)
    · refine CW.skip ?_
      refine hK13 _ _ _ ?_
      refine CW.seq fun K15 hK15 => ?_
      refine CW.block ?_
      refine CW.seq fun K16 hK16 => ?_
      refine CW.seq fun K17 hK17 => ?_
      refine CW.region ?_
      refine RL.q (Y.move rfl) rfl ?_
      refine RL.qs (Y.eql rfl rfl) rfl (fun g56 => ?_) (fun g56 => ?_)
      · refine RL.q (Y.move rfl) rfl ?_
        refine RL.no ⟨_, _, rfl, rfl, rfl⟩ rfl ?_
        refine RL.no ⟨_, _, rfl, rfl, rfl⟩ rfl ?_
        refine RL.q (Y.pickT rfl rfl) rfl ?_
        refine RL.nil ?_
        refine hK17 _ _ _ ?_
        refine CW.keep (Keep.cons 0 rfl (Keep.cons 1 rfl (Keep.cons 2 rfl (Keep.cons 3 rfl (Keep.cons 4 rfl (Keep.cons 11 rfl (Keep.cons 12 rfl (Keep.cons 13 rfl (Keep.cons 14 rfl (Keep.cons 15 rfl (Keep.cons 16 rfl (Keep.cons 60 rfl (Keep.nil _))))))))))))) ?_
        refine CW.yes rfl ?_
        refine CW.seq fun K18 hK18 => ?_
        have hz : x = 0 ∨ y = 0 := by omega
        refine CW.region ?_
        refine RL.q (Y.move rfl) rfl ?_
        refine RL.q (Y.move rfl) rfl ?_
        refine RL.q (Y.move rfl) rfl ?_
        refine RL.q (Y.move rfl) rfl ?_
        refine RL.q (Y.add rfl rfl (by omega)) rfl ?_
        refine RL.q (Y.index y rfl rfl (by omega) (by omega) slice22 (fun _ _ => rfl)) rfl ?_
        refine RL.store (ints (rowP (dp A B dual i j x) (y + 1) (sizeAt B j + 1))) rfl rfl (by repeat (first | exact Repl.here _ | apply Repl.there)) (fill_one (by omega) (by omega) (by rw [dp_zero hz]; omega)) (by rw [ints_len, part_len]; omega) (by rfl) size3 ?_
        refine RL.nil ?_
        refine hK18 _ _ _ ?_
        refine CW.keep (Keep.cons 0 rfl (Keep.cons 1 rfl (Keep.cons 2 rfl (Keep.cons 3 rfl (Keep.cons 4 rfl (Keep.cons 11 rfl (Keep.cons 12 rfl (Keep.cons 13 rfl (Keep.cons 14 rfl (Keep.cons 15 rfl (Keep.cons 16 rfl (Keep.nil _)))))))))))) ?_
        refine CW.exit ?_
        refine hK15 _ _ _ ?_
        refine CW.region ?_
        refine RL.q (Y.move rfl) rfl ?_
        refine RL.q (Y.add rfl rfl (by omega)) rfl ?_
        refine RL.q (Y.assign rfl) rfl ?_
        refine RL.nil ?_
        refine ⟨sizeAt B j + 1 - (y + 1), [(16, _)], ?_, (Keep.cons 16 rfl (Keep.cons 0 rfl (Keep.cons 1 rfl (Keep.cons 2 rfl (Keep.cons 3 rfl (Keep.cons 4 rfl (Keep.cons 11 rfl (Keep.cons 12 rfl (Keep.cons 13 rfl (Keep.cons 14 rfl (Keep.cons 15 rfl (Keep.nil _)))))))))))), ?_⟩
        · omega
        · exact Turn.drop ⟨[_], rfl, hsub3, y + 1, rfl, by omega, rfl, rfl, rfl⟩ (by repeat (first | exact List.Sublist.refl _ | apply List.Sublist.cons_cons | apply List.Sublist.cons))
      · refine RL.q (Y.move rfl) rfl ?_
        refine RL.qg ⟨_, _, rfl, rfl, rfl⟩ (Y.move rfl) rfl ?_
        refine RL.qg ⟨_, _, rfl, rfl, rfl⟩ (Y.eql rfl rfl) rfl ?_
        refine RL.q (Y.pickF rfl rfl) rfl ?_
        refine RL.nil ?_
        refine hK17 _ _ _ ?_
        refine CW.keep (Keep.cons 0 rfl (Keep.cons 1 rfl (Keep.cons 2 rfl (Keep.cons 3 rfl (Keep.cons 4 rfl (Keep.cons 11 rfl (Keep.cons 12 rfl (Keep.cons 13 rfl (Keep.cons 14 rfl (Keep.cons 15 rfl (Keep.cons 16 rfl (Keep.cons 60 rfl (Keep.nil _))))))))))))) ?_
        refine CW.ite rfl (fun h4 => ?_) (fun h4 => ?_)
        · refine CW.seq fun K19 hK19 => ?_
          have hz : x = 0 ∨ y = 0 := by omega
          refine CW.region ?_
          refine RL.q (Y.move rfl) rfl ?_
          refine RL.q (Y.move rfl) rfl ?_
          refine RL.q (Y.move rfl) rfl ?_
          refine RL.q (Y.move rfl) rfl ?_
          refine RL.q (Y.add rfl rfl (by omega)) rfl ?_
          refine RL.q (Y.index y rfl rfl (by omega) (by omega) slice22 (fun _ _ => rfl)) rfl ?_
          refine RL.store (ints (rowP (dp A B dual i j x) (y + 1) (sizeAt B j + 1))) rfl rfl (by repeat (first | exact Repl.here _ | apply Repl.there)) (fill_one (by omega) (by omega) (by rw [dp_zero hz]; omega)) (by rw [ints_len, part_len]; omega) (by rfl) size3 ?_
          refine RL.nil ?_
          refine hK19 _ _ _ ?_
          refine CW.keep (Keep.cons 0 rfl (Keep.cons 1 rfl (Keep.cons 2 rfl (Keep.cons 3 rfl (Keep.cons 4 rfl (Keep.cons 11 rfl (Keep.cons 12 rfl (Keep.cons 13 rfl (Keep.cons 14 rfl (Keep.cons 15 rfl (Keep.cons 16 rfl (Keep.nil _)))))))))))) ?_
          refine CW.exit ?_
          refine hK15 _ _ _ ?_
          refine CW.region ?_
          refine RL.q (Y.move rfl) rfl ?_
          refine RL.q (Y.add rfl rfl (by omega)) rfl ?_
          refine RL.q (Y.assign rfl) rfl ?_
          refine RL.nil ?_
          refine ⟨sizeAt B j + 1 - (y + 1), [(16, _)], ?_, (Keep.cons 16 rfl (Keep.cons 0 rfl (Keep.cons 1 rfl (Keep.cons 2 rfl (Keep.cons 3 rfl (Keep.cons 4 rfl (Keep.cons 11 rfl (Keep.cons 12 rfl (Keep.cons 13 rfl (Keep.cons 14 rfl (Keep.cons 15 rfl (Keep.nil _)))))))))))), ?_⟩
          · omega
          · exact Turn.drop ⟨[_], rfl, hsub3, y + 1, rfl, by omega, rfl, rfl, rfl⟩ (by repeat (first | exact List.Sublist.refl _ | apply List.Sublist.cons_cons | apply List.Sublist.cons))
        · refine CW.skip ?_
          refine hK16 _ _ _ ?_
          refine CW.seq fun K20 hK20 => ?_
          have hx0 : 0 < x := by omega
          have hy0 : 0 < y := by omega
          refine CW.region ?_
          refine RL.q (Y.move rfl) rfl ?_
          refine RL.q (Y.move rfl) rfl ?_
          refine RL.q (Y.index i rfl rfl rfl hi slice44 (fun _ hw => hw.rd_some (by repeat (first | exact List.Mem.head _ | apply List.Mem.tail)) (by omega))) rfl ?_
          refine RL.q (Y.field rfl field49_1) rfl ?_
          refine RL.q (Y.loadRd rfl (by repeat (first | exact List.Mem.head _ | apply List.Mem.tail)) (rfirstA hi) flat3) rfl ?_
          refine RL.q (Y.move rfl) rfl ?_
          refine RL.q (Y.add rfl rfl (by omega)) rfl ?_
          refine RL.q (Y.sub rfl rfl (by omega)) rfl ?_
          refine RL.q (Y.assign rfl) rfl ?_
          refine RL.nil ?_
          refine hK20 _ _ _ ?_
          refine CW.keep (Keep.cons 0 rfl (Keep.cons 1 rfl (Keep.cons 2 rfl (Keep.cons 3 rfl (Keep.cons 4 rfl (Keep.cons 11 rfl (Keep.cons 12 rfl (Keep.cons 13 rfl (Keep.cons 14 rfl (Keep.cons 15 rfl (Keep.cons 16 rfl (Keep.cons 17 rfl (Keep.nil _))))))))))))) ?_
          rw [show ((fstAt A i : Nat) : Int) + (x : Int) - 1 = ((fstAt A i + x - 1 : Nat) : Int) from by omega]
          have hv : fstAt A i + x - 1 < a.length := by omega
          have hvA : fstAt A i + x - 1 < A.length := by omega
          have hvp := (hpa _ hvA).1
          have hvq := hpi2 (fstAt A i + x - 1) (by omega) (by omega)
          refine CW.seq fun K21 hK21 => ?_
          refine CW.region ?_
          refine RL.q (Y.move rfl) rfl ?_
          refine RL.q (Y.move rfl) rfl ?_
          refine RL.q (Y.index j rfl rfl rfl hj slice44 (fun _ hw => hw.rd_some (by repeat (first | exact List.Mem.head _ | apply List.Mem.tail)) (by omega))) rfl ?_
          refine RL.q (Y.field rfl field49_1) rfl ?_
          refine RL.q (Y.loadRd rfl (by repeat (first | exact List.Mem.head _ | apply List.Mem.tail)) (rfirstB hj) flat3) rfl ?_
          refine RL.q (Y.move rfl) rfl ?_
          refine RL.q (Y.add rfl rfl (by omega)) rfl ?_
          refine RL.q (Y.sub rfl rfl (by omega)) rfl ?_
          refine RL.q (Y.assign rfl) rfl ?_
          refine RL.nil ?_
          refine hK21 _ _ _ ?_
          refine CW.keep (Keep.cons 0 rfl (Keep.cons 1 rfl (Keep.cons 2 rfl (Keep.cons 3 rfl (Keep.cons 4 rfl (Keep.cons 11 rfl (Keep.cons 12 rfl (Keep.cons 13 rfl (Keep.cons 14 rfl (Keep.cons 15 rfl (Keep.cons 16 rfl (Keep.cons 17 rfl (Keep.cons 18 rfl (Keep.nil _)))))))))))))) ?_
          rw [show ((fstAt B j : Nat) : Int) + (y : Int) - 1 = ((fstAt B j + y - 1 : Nat) : Int) from by omega]
          have hw : fstAt B j + y - 1 < b.length := by omega
          have hwB : fstAt B j + y - 1 < B.length := by omega
          have hwp := (hpb _ hwB).1
          have hwq := hpj2 (fstAt B j + y - 1) (by omega) (by omega)
          refine CW.seq fun K22 hK22 => ?_
          obtain ⟨ux, hux0, hrx0⟩ := RdL.get hus (range_get (fun k => dints (dpRow A B dual i j k)) (show x - 1 < x by omega))
          obtain ⟨ax, cx, rfl, _, _, _⟩ := hrx0.slice
          have hux : (us ++ [Value.slice (some ⟨b45, 0, none⟩) (sizeAt B j + 1) (sizeAt B j + 1)])[(x - 1) * 1]? = some (.slice ax (dpRow A B dual i j (x - 1)).length cx) := by rw [Nat.mul_one, List.getElem?_append_left (by rw [hus.1]; simp; omega)]; exact hux0
          have hrx := hrx0
          have hb1 := dp_le (a := A) (b := B) (i := i) (j := j) hdo.num _ (x - 1) y (Nat.le_refl _)
          have hb2 := dp_le (a := A) (b := B) (i := i) (j := j) hdo.num _ x (y - 1) (Nat.le_refl _)
          refine CW.regionHP mix (x := .own _ _ _) (by repeat (first | exact Pick.here _ | apply Pick.there)) ?_
          refine HL.take 0 rfl (by kernel_rfl) (by kernel_rfl) (by kernel_rfl) rfl (Y.move rfl) rfl ?_
          refine HL.take 1 rfl (by kernel_rfl) (by kernel_rfl) (by kernel_rfl) rfl (Y.move rfl) rfl ?_
          refine HL.take 2 rfl (by kernel_rfl) (by kernel_rfl) (by kernel_rfl) rfl (Y.move rfl) rfl ?_
          refine HL.take 3 rfl (by kernel_rfl) (by kernel_rfl) (by kernel_rfl) rfl (Y.move rfl) rfl ?_
          refine HL.take 4 rfl (by kernel_rfl) (by kernel_rfl) (by kernel_rfl) rfl (Y.sub rfl rfl (by omega)) rfl ?_
          refine HL.take 5 rfl (by kernel_rfl) (by kernel_rfl) (by kernel_rfl) rfl (Y.indexAcc (x - 1) rfl rfl (by omega) (by omega) slice35 (by repeat (first | exact List.Mem.head _ | apply List.Mem.tail)) hux) rfl ?_
          refine HL.take 6 rfl (by kernel_rfl) (by kernel_rfl) (by kernel_rfl) rfl (Y.loadAcc rfl (by repeat (first | exact List.Mem.head _ | apply List.Mem.tail)) hux flat22) rfl ?_
          refine HL.take 7 rfl (by kernel_rfl) (by kernel_rfl) (by kernel_rfl) rfl (Y.move rfl) rfl ?_
          refine HL.take 8 rfl (by kernel_rfl) (by kernel_rfl) (by kernel_rfl) rfl (Y.indexP y rfl rfl (by omega) (by rw [dpRow_len]; omega) slice22 hrx) rfl ?_
          refine HL.take 9 rfl (by kernel_rfl) (by kernel_rfl) (by kernel_rfl) rfl (Y.loadP rfl hrx (dints_get (dpRow_get _ _ _ _ _ _ y (by omega))) flat3) rfl ?_
          refine HL.take 10 rfl (by kernel_rfl) (by kernel_rfl) (by kernel_rfl) rfl (Y.add rfl rfl (by omega)) rfl ?_
          refine HL.take 11 rfl (by kernel_rfl) (by kernel_rfl) (by kernel_rfl) rfl (Y.move rfl) rfl ?_
          refine HL.take 12 rfl (by kernel_rfl) (by kernel_rfl) (by kernel_rfl) rfl (Y.move rfl) rfl ?_
          refine HL.take 13 rfl (by kernel_rfl) (by kernel_rfl) (by kernel_rfl) rfl (Y.sub rfl rfl (by omega)) rfl ?_
          refine HL.take 14 rfl (by kernel_rfl) (by kernel_rfl) (by kernel_rfl) rfl (Y.index (y - 1) rfl rfl (by omega) (by omega) slice22 (fun _ _ => rfl)) rfl ?_
          refine HL.step 15 rfl (by kernel_rfl) ?_
          refine RL.q (Y.loadOwn rfl (by repeat (first | exact List.Mem.head _ | apply List.Mem.tail)) (ints_get (k := y - 1) (part_get2 _ (by omega) (by omega)) (by omega)) flat3) rfl ?_
          refine RL.nil ⟨keep_same (by repeat (first | exact List.Sublist.refl _ | apply List.Sublist.cons_cons | apply List.Sublist.cons)), ?_⟩
          refine HL.take 16 rfl (by kernel_rfl) (by kernel_rfl) (by kernel_rfl) rfl (Y.add rfl rfl (by omega)) rfl ?_
          refine HL.take 17 rfl (by kernel_rfl) (by kernel_rfl) (by kernel_rfl) rfl (Y.min2 rfl rfl) rfl ?_
          refine HL.take 18 rfl (by kernel_rfl) (by kernel_rfl) (by kernel_rfl) rfl (Y.index y rfl rfl (by omega) (by omega) slice22 (fun _ _ => rfl)) rfl ?_
          refine HL.step 19 rfl (by kernel_rfl) ?_
          refine RL.store (ints ((rowP (dp A B dual i j x) y (sizeAt B j + 1)).set y (min (dp A B dual i j (x - 1) y + 1) (dp A B dual i j x (y - 1) + 1)))) rfl rfl (by repeat (first | exact Repl.here _ | apply Repl.there)) (ints_set _ _ _ _ (by omega)) (by rw [ints_len, part_len]; omega) (by rfl) size3 ?_
          refine RL.nil ⟨keep_same (by repeat (first | exact List.Sublist.refl _ | apply List.Sublist.cons_cons | apply List.Sublist.cons)), ?_⟩
          refine HL.done (by kernel_rfl) ?_
          refine hK22 _ _ _ ?_
          refine CW.keep (Keep.cons 0 rfl (Keep.cons 1 rfl (Keep.cons 2 rfl (Keep.cons 3 rfl (Keep.cons 4 rfl (Keep.cons 11 rfl (Keep.cons 12 rfl (Keep.cons 13 rfl (Keep.cons 14 rfl (Keep.cons 15 rfl (Keep.cons 16 rfl (Keep.cons 17 rfl (Keep.cons 18 rfl (Keep.nil _)))))))))))))) ?_
          refine CW.seq fun K23 hK23 => ?_
          refine CW.region ?_
          refine RL.q (Y.move rfl) rfl ?_
          refine RL.q (Y.move rfl) rfl ?_
          refine RL.qs (Y.eql rfl rfl) rfl (fun g104 => ?_) (fun g104 => ?_)
          · refine RL.q (Y.move rfl) rfl ?_
            refine RL.qg ⟨_, _, rfl, rfl, rfl⟩ (Y.move rfl) rfl ?_
            refine RL.qg ⟨_, _, rfl, rfl, rfl⟩ (Y.move rfl) rfl ?_
            refine RL.qg ⟨_, _, rfl, rfl, rfl⟩ (Y.eql rfl rfl) rfl ?_
            refine RL.q (Y.pickT rfl rfl) rfl ?_
            refine RL.nil ?_
            refine hK23 _ _ _ ?_
            refine CW.keep (Keep.cons 0 rfl (Keep.cons 1 rfl (Keep.cons 2 rfl (Keep.cons 3 rfl (Keep.cons 4 rfl (Keep.cons 11 rfl (Keep.cons 12 rfl (Keep.cons 13 rfl (Keep.cons 14 rfl (Keep.cons 15 rfl (Keep.cons 16 rfl (Keep.cons 17 rfl (Keep.cons 18 rfl (Keep.cons 109 rfl (Keep.nil _))))))))))))))) ?_
            refine CW.ite rfl (fun h5 => ?_) (fun h5 => ?_)
            · refine CW.seq fun K24 hK24 => ?_
              have hb3 := dp_le (a := A) (b := B) (i := i) (j := j) hdo.num _ (x - 1) (y - 1) (Nat.le_refl _)
              refine CW.region ?_
              refine RL.q (Y.move rfl) rfl ?_
              refine RL.q (Y.move rfl) rfl ?_
              refine RL.q (Y.sub rfl rfl (by omega)) rfl ?_
              refine RL.q (Y.indexAcc (x - 1) rfl rfl (by omega) (by omega) slice35 (by repeat (first | exact List.Mem.head _ | apply List.Mem.tail)) hux) rfl ?_
              refine RL.q (Y.loadAcc rfl (by repeat (first | exact List.Mem.head _ | apply List.Mem.tail)) hux flat22) rfl ?_
              refine RL.q (Y.move rfl) rfl ?_
              refine RL.q (Y.sub rfl rfl (by omega)) rfl ?_
              refine RL.q (Y.indexP (y - 1) rfl rfl (by omega) (by rw [dpRow_len]; omega) slice22 hrx) rfl ?_
              refine RL.q (Y.loadP rfl hrx (dints_get (dpRow_get _ _ _ _ _ _ (y - 1) (by omega))) flat3) rfl ?_
              refine RL.q (Y.assign rfl) rfl ?_
              refine RL.nil ?_
              refine hK24 _ _ _ ?_
              refine CW.keep (Keep.cons 0 rfl (Keep.cons 1 rfl (Keep.cons 2 rfl (Keep.cons 3 rfl (Keep.cons 4 rfl (Keep.cons 11 rfl (Keep.cons 12 rfl (Keep.cons 13 rfl (Keep.cons 14 rfl (Keep.cons 15 rfl (Keep.cons 16 rfl (Keep.cons 17 rfl (Keep.cons 18 rfl (Keep.cons 19 rfl (Keep.nil _))))))))))))))) ?_
              refine CW.seq fun K25 hK25 => ?_
              refine CW.seq fun K26 hK26 => ?_
              refine CW.regionQ mix (by kernel_rfl) ?_
              refine QL.q (Y.move rfl) rfl ?_
              refine QL.q (Y.move rfl) rfl ?_
              refine QL.q (Y.index (fstAt A i + x - 1) rfl rfl rfl hv slice44 (fun _ hw => hw.rd_some (by repeat (first | exact List.Mem.head _ | apply List.Mem.tail)) (by omega))) rfl ?_
              refine QL.q (Y.field rfl field49_0) rfl ?_
              refine QL.loadAgg rfl rfl (by repeat (first | exact List.Mem.head _ | apply List.Mem.tail)) (rnodeEA hv) (by first | rfl | exact Ex.enc_len _ | exact Ty.enc_len _ | exact MNode.enc_len _ | exact RNode.enc_len _) agg31 rfl fun us123 hul123 hur123 => ?_
              refine QL.q (Y.move rfl) rfl ?_
              refine QL.q (Y.move rfl) rfl ?_
              refine QL.q (Y.index (fstAt B j + y - 1) rfl rfl rfl hw slice44 (fun _ hw => hw.rd_some (by repeat (first | exact List.Mem.head _ | apply List.Mem.tail)) (by omega))) rfl ?_
              refine QL.q (Y.field rfl field49_0) rfl ?_
              refine QL.loadAgg rfl rfl (by repeat (first | exact List.Mem.head _ | apply List.Mem.tail)) (rnodeEB hw) (by first | rfl | exact Ex.enc_len _ | exact Ty.enc_len _ | exact MNode.enc_len _ | exact RNode.enc_len _) agg31 rfl fun us128 hul128 hur128 => ?_
              refine QL.callv rfl func40 rfl rfl (fun _ _ => alike_ok _ _ _ _ _ _ _ hur123 hur128) ?_
              refine QL.q (Y.notD rfl) rfl ?_
              refine QL.nil ?_
              refine hK26 _ _ _ ?_
              refine CW.keep (Keep.cons 0 rfl (Keep.cons 1 rfl (Keep.cons 2 rfl (Keep.cons 3 rfl (Keep.cons 4 rfl (Keep.cons 11 rfl (Keep.cons 12 rfl (Keep.cons 13 rfl (Keep.cons 14 rfl (Keep.cons 15 rfl (Keep.cons 16 rfl (Keep.cons 19 rfl (Keep.cons 130 rfl (Keep.nil _)))))))))))))) ?_
              refine CW.ite rfl (fun h6 => ?_) (fun h6 => ?_)
              · have hlike := h6
                refine CW.region ?_
                refine RL.q (Y.move rfl) rfl ?_
                refine RL.q (Y.add rfl rfl (by omega)) rfl ?_
                refine RL.q (Y.assign rfl) rfl ?_
                refine RL.nil ?_
                refine hK25 _ _ _ ?_
                refine CW.keep (Keep.cons 0 rfl (Keep.cons 1 rfl (Keep.cons 2 rfl (Keep.cons 3 rfl (Keep.cons 4 rfl (Keep.cons 11 rfl (Keep.cons 12 rfl (Keep.cons 13 rfl (Keep.cons 14 rfl (Keep.cons 15 rfl (Keep.cons 16 rfl (Keep.cons 19 rfl (Keep.nil _))))))))))))) ?_
                refine CW.region ?_
                refine RL.q (Y.move rfl) rfl ?_
                refine RL.q (Y.move rfl) rfl ?_
                refine RL.q (Y.move rfl) rfl ?_
                refine RL.q (Y.move rfl) rfl ?_
                refine RL.q (Y.index y rfl rfl (by omega) (by omega) slice22 (fun _ _ => rfl)) rfl ?_
                refine RL.q (Y.loadOwn rfl (by repeat (first | exact List.Mem.head _ | apply List.Mem.tail)) (ints_get (set_get _ (by rw [part_len]; omega)) (by omega)) flat3) rfl ?_
                refine RL.q (Y.move rfl) rfl ?_
                refine RL.q (Y.min2 rfl rfl) rfl ?_
                refine RL.q (Y.index y rfl rfl (by omega) (by omega) slice22 (fun _ _ => rfl)) rfl ?_
                refine RL.store (ints (rowP (dp A B dual i j x) (y + 1) (sizeAt B j + 1))) rfl rfl (by repeat (first | exact Repl.here _ | apply Repl.there)) (fill_two (by omega) (by omega) (by rw [dp_root hx0 hy0 (by omega)]; simp only [hlike, reduceIte]; omega)) (by rw [ints_len, List.length_set, part_len]; omega) (by rfl) size3 ?_
                refine RL.nil ?_
                refine hK15 _ _ _ ?_
                refine CW.keep (Keep.cons 0 rfl (Keep.cons 1 rfl (Keep.cons 2 rfl (Keep.cons 3 rfl (Keep.cons 4 rfl (Keep.cons 11 rfl (Keep.cons 12 rfl (Keep.cons 13 rfl (Keep.cons 14 rfl (Keep.cons 15 rfl (Keep.cons 16 rfl (Keep.nil _)))))))))))) ?_
                refine CW.region ?_
                refine RL.q (Y.move rfl) rfl ?_
                refine RL.q (Y.add rfl rfl (by omega)) rfl ?_
                refine RL.q (Y.assign rfl) rfl ?_
                refine RL.nil ?_
                refine ⟨sizeAt B j + 1 - (y + 1), [(16, _)], ?_, (Keep.cons 16 rfl (Keep.cons 0 rfl (Keep.cons 1 rfl (Keep.cons 2 rfl (Keep.cons 3 rfl (Keep.cons 4 rfl (Keep.cons 11 rfl (Keep.cons 12 rfl (Keep.cons 13 rfl (Keep.cons 14 rfl (Keep.cons 15 rfl (Keep.nil _)))))))))))), ?_⟩
                · omega
                · exact Turn.drop ⟨[_], rfl, hsub3, y + 1, rfl, by omega, rfl, rfl, rfl⟩ (by repeat (first | exact List.Sublist.refl _ | apply List.Sublist.cons_cons | apply List.Sublist.cons))
              · have hlike := Decidable.not_not.1 h6
                refine CW.skip ?_
                refine hK25 _ _ _ ?_
                refine CW.region ?_
                refine RL.q (Y.move rfl) rfl ?_
                refine RL.q (Y.move rfl) rfl ?_
                refine RL.q (Y.move rfl) rfl ?_
                refine RL.q (Y.move rfl) rfl ?_
                refine RL.q (Y.index y rfl rfl (by omega) (by omega) slice22 (fun _ _ => rfl)) rfl ?_
                refine RL.q (Y.loadOwn rfl (by repeat (first | exact List.Mem.head _ | apply List.Mem.tail)) (ints_get (set_get _ (by rw [part_len]; omega)) (by omega)) flat3) rfl ?_
                refine RL.q (Y.move rfl) rfl ?_
                refine RL.q (Y.min2 rfl rfl) rfl ?_
                refine RL.q (Y.index y rfl rfl (by omega) (by omega) slice22 (fun _ _ => rfl)) rfl ?_
                refine RL.store (ints (rowP (dp A B dual i j x) (y + 1) (sizeAt B j + 1))) rfl rfl (by repeat (first | exact Repl.here _ | apply Repl.there)) (fill_two (by omega) (by omega) (by rw [dp_root hx0 hy0 (by omega)]; simp only [hlike, reduceIte]; omega)) (by rw [ints_len, List.length_set, part_len]; omega) (by rfl) size3 ?_
                refine RL.nil ?_
                refine hK15 _ _ _ ?_
                refine CW.keep (Keep.cons 0 rfl (Keep.cons 1 rfl (Keep.cons 2 rfl (Keep.cons 3 rfl (Keep.cons 4 rfl (Keep.cons 11 rfl (Keep.cons 12 rfl (Keep.cons 13 rfl (Keep.cons 14 rfl (Keep.cons 15 rfl (Keep.cons 16 rfl (Keep.nil _)))))))))))) ?_
                refine CW.region ?_
                refine RL.q (Y.move rfl) rfl ?_
                refine RL.q (Y.add rfl rfl (by omega)) rfl ?_
                refine RL.q (Y.assign rfl) rfl ?_
                refine RL.nil ?_
                refine ⟨sizeAt B j + 1 - (y + 1), [(16, _)], ?_, (Keep.cons 16 rfl (Keep.cons 0 rfl (Keep.cons 1 rfl (Keep.cons 2 rfl (Keep.cons 3 rfl (Keep.cons 4 rfl (Keep.cons 11 rfl (Keep.cons 12 rfl (Keep.cons 13 rfl (Keep.cons 14 rfl (Keep.cons 15 rfl (Keep.nil _)))))))))))), ?_⟩
                · omega
                · exact Turn.drop ⟨[_], rfl, hsub3, y + 1, rfl, by omega, rfl, rfl, rfl⟩ (by repeat (first | exact List.Sublist.refl _ | apply List.Sublist.cons_cons | apply List.Sublist.cons))
            · refine CW.seq fun K27 hK27 => ?_
              refine CW.region ?_
              refine RL.q (Y.move rfl) rfl ?_
              refine RL.q (Y.move rfl) rfl ?_
              refine RL.q (Y.move rfl) rfl ?_
              refine RL.q (Y.index (fstAt A i + x - 1) rfl rfl rfl hv slice44 (fun _ hw => hw.rd_some (by repeat (first | exact List.Mem.head _ | apply List.Mem.tail)) (by omega))) rfl ?_
              refine RL.q (Y.field rfl field49_1) rfl ?_
              refine RL.q (Y.loadRd rfl (by repeat (first | exact List.Mem.head _ | apply List.Mem.tail)) (rfirstA hv) flat3) rfl ?_
              refine RL.q (Y.sub rfl rfl (by omega)) rfl ?_
              refine RL.q (Y.add rfl rfl (by omega)) rfl ?_
              refine RL.q (Y.assign rfl) rfl ?_
              refine RL.nil ?_
              refine hK27 _ _ _ ?_
              refine CW.keep (Keep.cons 0 rfl (Keep.cons 1 rfl (Keep.cons 2 rfl (Keep.cons 3 rfl (Keep.cons 4 rfl (Keep.cons 11 rfl (Keep.cons 12 rfl (Keep.cons 13 rfl (Keep.cons 14 rfl (Keep.cons 15 rfl (Keep.cons 16 rfl (Keep.cons 17 rfl (Keep.cons 18 rfl (Keep.cons 20 rfl (Keep.nil _))))))))))))))) ?_
              refine CW.seq fun K28 hK28 => ?_
              refine CW.region ?_
              refine RL.q (Y.move rfl) rfl ?_
              refine RL.q (Y.move rfl) rfl ?_
              refine RL.q (Y.move rfl) rfl ?_
              refine RL.q (Y.index (fstAt B j + y - 1) rfl rfl rfl hw slice44 (fun _ hw => hw.rd_some (by repeat (first | exact List.Mem.head _ | apply List.Mem.tail)) (by omega))) rfl ?_
              refine RL.q (Y.field rfl field49_1) rfl ?_
              refine RL.q (Y.loadRd rfl (by repeat (first | exact List.Mem.head _ | apply List.Mem.tail)) (rfirstB hw) flat3) rfl ?_
              refine RL.q (Y.sub rfl rfl (by omega)) rfl ?_
              refine RL.q (Y.add rfl rfl (by omega)) rfl ?_
              refine RL.q (Y.assign rfl) rfl ?_
              refine RL.nil ?_
              refine hK28 _ _ _ ?_
              refine CW.keep (Keep.cons 0 rfl (Keep.cons 1 rfl (Keep.cons 2 rfl (Keep.cons 3 rfl (Keep.cons 4 rfl (Keep.cons 11 rfl (Keep.cons 12 rfl (Keep.cons 13 rfl (Keep.cons 14 rfl (Keep.cons 15 rfl (Keep.cons 16 rfl (Keep.cons 17 rfl (Keep.cons 18 rfl (Keep.cons 20 rfl (Keep.cons 21 rfl (Keep.nil _)))))))))))))))) ?_
              obtain ⟨uz, huz0, hrz0⟩ := RdL.get hus (range_get (fun k => dints (dpRow A B dual i j k)) (show fstAt A (fstAt A i + x - 1) - fstAt A i < x by omega))
              obtain ⟨az, cz, rfl, _, _, _⟩ := hrz0.slice
              have huz : (us ++ [Value.slice (some ⟨b45, 0, none⟩) (sizeAt B j + 1) (sizeAt B j + 1)])[(fstAt A (fstAt A i + x - 1) - fstAt A i) * 1]? = some (.slice az (dpRow A B dual i j (fstAt A (fstAt A i + x - 1) - fstAt A i)).length cz) := by rw [Nat.mul_one, List.getElem?_append_left (by rw [hus.1]; simp; omega)]; exact huz0
              have hrz := hrz0
              have hb3 := dp_le (a := A) (b := B) (i := i) (j := j) hdo.num _ (fstAt A (fstAt A i + x - 1) - fstAt A i) (fstAt B (fstAt B j + y - 1) - fstAt B j) (Nat.le_refl _)
              obtain ⟨r, hr0, hr1, hr2, hr3⟩ := hdo.get (show fstAt A i + x - 1 ≤ i by omega) hwB
              obtain ⟨u2, hc2, hrr2⟩ := (Rd.mono hsub _ _ hd).cell (q := (fstAt A i + x - 1) * 1) (dtab_get hr0)
              obtain ⟨ar, cr, rfl, _, _, _⟩ := hrr2.slice
              refine CW.regionHP mix (x := .own _ _ _) (by repeat (first | exact Pick.here _ | apply Pick.there)) ?_
              refine HL.take 0 rfl (by kernel_rfl) (by kernel_rfl) (by kernel_rfl) rfl (Y.move rfl) rfl ?_
              refine HL.take 1 rfl (by kernel_rfl) (by kernel_rfl) (by kernel_rfl) rfl (Y.move rfl) rfl ?_
              refine HL.take 2 rfl (by kernel_rfl) (by kernel_rfl) (by kernel_rfl) rfl (Y.move rfl) rfl ?_
              refine HL.take 3 rfl (by kernel_rfl) (by kernel_rfl) (by kernel_rfl) rfl (Y.move rfl) rfl ?_
              refine HL.take 4 rfl (by kernel_rfl) (by kernel_rfl) (by kernel_rfl) rfl (Y.index y rfl rfl (by omega) (by omega) slice22 (fun _ _ => rfl)) rfl ?_
              refine HL.take 6 rfl (by kernel_rfl) (by kernel_rfl) (by kernel_rfl) rfl (Y.move rfl) rfl ?_
              refine HL.take 7 rfl (by kernel_rfl) (by kernel_rfl) (by kernel_rfl) rfl (Y.move rfl) rfl ?_
              refine HL.take 8 rfl (by kernel_rfl) (by kernel_rfl) (by kernel_rfl) rfl (Y.move rfl) rfl ?_
              refine HL.take 9 rfl (by kernel_rfl) (by kernel_rfl) (by kernel_rfl) rfl (Y.sub rfl rfl (by omega)) rfl ?_
              refine HL.take 10 rfl (by kernel_rfl) (by kernel_rfl) (by kernel_rfl) rfl (Y.indexAcc (fstAt A (fstAt A i + x - 1) - fstAt A i) rfl rfl (by omega) (by omega) slice35 (by repeat (first | exact List.Mem.head _ | apply List.Mem.tail)) huz) rfl ?_
              refine HL.take 11 rfl (by kernel_rfl) (by kernel_rfl) (by kernel_rfl) rfl (Y.loadAcc rfl (by repeat (first | exact List.Mem.head _ | apply List.Mem.tail)) huz flat22) rfl ?_
              refine HL.take 12 rfl (by kernel_rfl) (by kernel_rfl) (by kernel_rfl) rfl (Y.move rfl) rfl ?_
              refine HL.take 13 rfl (by kernel_rfl) (by kernel_rfl) (by kernel_rfl) rfl (Y.move rfl) rfl ?_
              refine HL.take 14 rfl (by kernel_rfl) (by kernel_rfl) (by kernel_rfl) rfl (Y.sub rfl rfl (by omega)) rfl ?_
              refine HL.take 15 rfl (by kernel_rfl) (by kernel_rfl) (by kernel_rfl) rfl (Y.indexP (fstAt B (fstAt B j + y - 1) - fstAt B j) rfl rfl (by omega) (by rw [dpRow_len]; omega) slice22 hrz) rfl ?_
              refine HL.take 16 rfl (by kernel_rfl) (by kernel_rfl) (by kernel_rfl) rfl (Y.loadP rfl hrz (dints_get (dpRow_get _ _ _ _ _ _ (fstAt B (fstAt B j + y - 1) - fstAt B j) (by omega))) flat3) rfl ?_
              refine HL.take 17 rfl (by kernel_rfl) (by kernel_rfl) (by kernel_rfl) rfl (Y.move rfl) rfl ?_
              refine HL.take 18 rfl (by kernel_rfl) (by kernel_rfl) (by kernel_rfl) rfl (Y.move rfl) rfl ?_
              refine HL.take 19 rfl (by kernel_rfl) (by kernel_rfl) (by kernel_rfl) rfl (Y.indexP (fstAt A i + x - 1) rfl rfl rfl (by have := hdo.lt; omega) slice35 (Rd.mono hsub _ _ hd)) rfl ?_
              refine HL.take 20 rfl (by kernel_rfl) (by kernel_rfl) (by kernel_rfl) rfl (Y.loadC rfl hc2 flat22) rfl ?_
              refine HL.take 21 rfl (by kernel_rfl) (by kernel_rfl) (by kernel_rfl) rfl (Y.move rfl) rfl ?_
              refine HL.take 22 rfl (by kernel_rfl) (by kernel_rfl) (by kernel_rfl) rfl (Y.indexP (fstAt B j + y - 1) rfl rfl rfl (by rw [hdo.row _ (List.mem_of_getElem? hr0)]; exact hwB) slice22 hrr2) rfl ?_
              refine HL.take 23 rfl (by kernel_rfl) (by kernel_rfl) (by kernel_rfl) rfl (Y.loadP rfl hrr2 (dints_get hr1) flat3) rfl ?_
              refine HL.take 24 rfl (by kernel_rfl) (by kernel_rfl) (by kernel_rfl) rfl (Y.add rfl rfl (by omega)) rfl ?_
              refine HL.step 5 rfl (by kernel_rfl) ?_
              refine RL.q (Y.loadOwn rfl (by repeat (first | exact List.Mem.head _ | apply List.Mem.tail)) (ints_get (set_get _ (by rw [part_len]; omega)) (by omega)) flat3) rfl ?_
              refine RL.nil ⟨keep_same (by repeat (first | exact List.Sublist.refl _ | apply List.Sublist.cons_cons | apply List.Sublist.cons)), ?_⟩
              refine HL.take 25 rfl (by kernel_rfl) (by kernel_rfl) (by kernel_rfl) rfl (Y.min2 rfl rfl) rfl ?_
              refine HL.take 26 rfl (by kernel_rfl) (by kernel_rfl) (by kernel_rfl) rfl (Y.index y rfl rfl (by omega) (by omega) slice22 (fun _ _ => rfl)) rfl ?_
              refine HL.step 27 rfl (by kernel_rfl) ?_
              refine RL.store (ints (rowP (dp A B dual i j x) (y + 1) (sizeAt B j + 1))) rfl rfl (by repeat (first | exact Repl.here _ | apply Repl.there)) (fill_two (by omega) (by omega) (by rw [dp_part hx0 hy0 (by omega) hvp hwp]; omega)) (by rw [ints_len, List.length_set, part_len]; omega) (by rfl) size3 ?_
              refine RL.nil ⟨keep_same (by repeat (first | exact List.Sublist.refl _ | apply List.Sublist.cons_cons | apply List.Sublist.cons)), ?_⟩
              refine HL.done (by kernel_rfl) ?_
              refine hK15 _ _ _ ?_
              refine CW.keep (Keep.cons 0 rfl (Keep.cons 1 rfl (Keep.cons 2 rfl (Keep.cons 3 rfl (Keep.cons 4 rfl (Keep.cons 11 rfl (Keep.cons 12 rfl (Keep.cons 13 rfl (Keep.cons 14 rfl (Keep.cons 15 rfl (Keep.cons 16 rfl (Keep.nil _)))))))))))) ?_
              refine CW.region ?_
              refine RL.q (Y.move rfl) rfl ?_
              refine RL.q (Y.add rfl rfl (by omega)) rfl ?_
              refine RL.q (Y.assign rfl) rfl ?_
              refine RL.nil ?_
              refine ⟨sizeAt B j + 1 - (y + 1), [(16, _)], ?_, (Keep.cons 16 rfl (Keep.cons 0 rfl (Keep.cons 1 rfl (Keep.cons 2 rfl (Keep.cons 3 rfl (Keep.cons 4 rfl (Keep.cons 11 rfl (Keep.cons 12 rfl (Keep.cons 13 rfl (Keep.cons 14 rfl (Keep.cons 15 rfl (Keep.nil _)))))))))))), ?_⟩
              · omega
              · exact Turn.drop ⟨[_], rfl, hsub3, y + 1, rfl, by omega, rfl, rfl, rfl⟩ (by repeat (first | exact List.Sublist.refl _ | apply List.Sublist.cons_cons | apply List.Sublist.cons))
          · refine RL.q (Y.move rfl) rfl ?_
            refine RL.no ⟨_, _, rfl, rfl, rfl⟩ rfl ?_
            refine RL.no ⟨_, _, rfl, rfl, rfl⟩ rfl ?_
            refine RL.no ⟨_, _, rfl, rfl, rfl⟩ rfl ?_
            refine RL.q (Y.pickF rfl rfl) rfl ?_
            refine RL.nil ?_
            refine hK23 _ _ _ ?_
            refine CW.keep (Keep.cons 0 rfl (Keep.cons 1 rfl (Keep.cons 2 rfl (Keep.cons 3 rfl (Keep.cons 4 rfl (Keep.cons 11 rfl (Keep.cons 12 rfl (Keep.cons 13 rfl (Keep.cons 14 rfl (Keep.cons 15 rfl (Keep.cons 16 rfl (Keep.cons 17 rfl (Keep.cons 18 rfl (Keep.cons 109 rfl (Keep.nil _))))))))))))))) ?_
            refine CW.no rfl ?_
            refine CW.seq fun K29 hK29 => ?_
            refine CW.region ?_
            refine RL.q (Y.move rfl) rfl ?_
            refine RL.q (Y.move rfl) rfl ?_
            refine RL.q (Y.move rfl) rfl ?_
            refine RL.q (Y.index (fstAt A i + x - 1) rfl rfl rfl hv slice44 (fun _ hw => hw.rd_some (by repeat (first | exact List.Mem.head _ | apply List.Mem.tail)) (by omega))) rfl ?_
            refine RL.q (Y.field rfl field49_1) rfl ?_
            refine RL.q (Y.loadRd rfl (by repeat (first | exact List.Mem.head _ | apply List.Mem.tail)) (rfirstA hv) flat3) rfl ?_
            refine RL.q (Y.sub rfl rfl (by omega)) rfl ?_
            refine RL.q (Y.add rfl rfl (by omega)) rfl ?_
            refine RL.q (Y.assign rfl) rfl ?_
            refine RL.nil ?_
            refine hK29 _ _ _ ?_
            refine CW.keep (Keep.cons 0 rfl (Keep.cons 1 rfl (Keep.cons 2 rfl (Keep.cons 3 rfl (Keep.cons 4 rfl (Keep.cons 11 rfl (Keep.cons 12 rfl (Keep.cons 13 rfl (Keep.cons 14 rfl (Keep.cons 15 rfl (Keep.cons 16 rfl (Keep.cons 17 rfl (Keep.cons 18 rfl (Keep.cons 20 rfl (Keep.nil _))))))))))))))) ?_
            refine CW.seq fun K30 hK30 => ?_
            refine CW.region ?_
            refine RL.q (Y.move rfl) rfl ?_
            refine RL.q (Y.move rfl) rfl ?_
            refine RL.q (Y.move rfl) rfl ?_
            refine RL.q (Y.index (fstAt B j + y - 1) rfl rfl rfl hw slice44 (fun _ hw => hw.rd_some (by repeat (first | exact List.Mem.head _ | apply List.Mem.tail)) (by omega))) rfl ?_
            refine RL.q (Y.field rfl field49_1) rfl ?_
            refine RL.q (Y.loadRd rfl (by repeat (first | exact List.Mem.head _ | apply List.Mem.tail)) (rfirstB hw) flat3) rfl ?_
            refine RL.q (Y.sub rfl rfl (by omega)) rfl ?_
            refine RL.q (Y.add rfl rfl (by omega)) rfl ?_
            refine RL.q (Y.assign rfl) rfl ?_
            refine RL.nil ?_
            refine hK30 _ _ _ ?_
            refine CW.keep (Keep.cons 0 rfl (Keep.cons 1 rfl (Keep.cons 2 rfl (Keep.cons 3 rfl (Keep.cons 4 rfl (Keep.cons 11 rfl (Keep.cons 12 rfl (Keep.cons 13 rfl (Keep.cons 14 rfl (Keep.cons 15 rfl (Keep.cons 16 rfl (Keep.cons 17 rfl (Keep.cons 18 rfl (Keep.cons 20 rfl (Keep.cons 21 rfl (Keep.nil _)))))))))))))))) ?_
            obtain ⟨uz, huz0, hrz0⟩ := RdL.get hus (range_get (fun k => dints (dpRow A B dual i j k)) (show fstAt A (fstAt A i + x - 1) - fstAt A i < x by omega))
            obtain ⟨az, cz, rfl, _, _, _⟩ := hrz0.slice
            have huz : (us ++ [Value.slice (some ⟨b45, 0, none⟩) (sizeAt B j + 1) (sizeAt B j + 1)])[(fstAt A (fstAt A i + x - 1) - fstAt A i) * 1]? = some (.slice az (dpRow A B dual i j (fstAt A (fstAt A i + x - 1) - fstAt A i)).length cz) := by rw [Nat.mul_one, List.getElem?_append_left (by rw [hus.1]; simp; omega)]; exact huz0
            have hrz := hrz0
            have hb3 := dp_le (a := A) (b := B) (i := i) (j := j) hdo.num _ (fstAt A (fstAt A i + x - 1) - fstAt A i) (fstAt B (fstAt B j + y - 1) - fstAt B j) (Nat.le_refl _)
            obtain ⟨r, hr0, hr1, hr2, hr3⟩ := hdo.get (show fstAt A i + x - 1 ≤ i by omega) hwB
            obtain ⟨u2, hc2, hrr2⟩ := (Rd.mono hsub _ _ hd).cell (q := (fstAt A i + x - 1) * 1) (dtab_get hr0)
            obtain ⟨ar, cr, rfl, _, _, _⟩ := hrr2.slice
            refine CW.regionHP mix (x := .own _ _ _) (by repeat (first | exact Pick.here _ | apply Pick.there)) ?_
            refine HL.take 0 rfl (by kernel_rfl) (by kernel_rfl) (by kernel_rfl) rfl (Y.move rfl) rfl ?_
            refine HL.take 1 rfl (by kernel_rfl) (by kernel_rfl) (by kernel_rfl) rfl (Y.move rfl) rfl ?_
            refine HL.take 2 rfl (by kernel_rfl) (by kernel_rfl) (by kernel_rfl) rfl (Y.move rfl) rfl ?_
            refine HL.take 3 rfl (by kernel_rfl) (by kernel_rfl) (by kernel_rfl) rfl (Y.move rfl) rfl ?_
            refine HL.take 4 rfl (by kernel_rfl) (by kernel_rfl) (by kernel_rfl) rfl (Y.index y rfl rfl (by omega) (by omega) slice22 (fun _ _ => rfl)) rfl ?_
            refine HL.take 6 rfl (by kernel_rfl) (by kernel_rfl) (by kernel_rfl) rfl (Y.move rfl) rfl ?_
            refine HL.take 7 rfl (by kernel_rfl) (by kernel_rfl) (by kernel_rfl) rfl (Y.move rfl) rfl ?_
            refine HL.take 8 rfl (by kernel_rfl) (by kernel_rfl) (by kernel_rfl) rfl (Y.move rfl) rfl ?_
            refine HL.take 9 rfl (by kernel_rfl) (by kernel_rfl) (by kernel_rfl) rfl (Y.sub rfl rfl (by omega)) rfl ?_
            refine HL.take 10 rfl (by kernel_rfl) (by kernel_rfl) (by kernel_rfl) rfl (Y.indexAcc (fstAt A (fstAt A i + x - 1) - fstAt A i) rfl rfl (by omega) (by omega) slice35 (by repeat (first | exact List.Mem.head _ | apply List.Mem.tail)) huz) rfl ?_
            refine HL.take 11 rfl (by kernel_rfl) (by kernel_rfl) (by kernel_rfl) rfl (Y.loadAcc rfl (by repeat (first | exact List.Mem.head _ | apply List.Mem.tail)) huz flat22) rfl ?_
            refine HL.take 12 rfl (by kernel_rfl) (by kernel_rfl) (by kernel_rfl) rfl (Y.move rfl) rfl ?_
            refine HL.take 13 rfl (by kernel_rfl) (by kernel_rfl) (by kernel_rfl) rfl (Y.move rfl) rfl ?_
            refine HL.take 14 rfl (by kernel_rfl) (by kernel_rfl) (by kernel_rfl) rfl (Y.sub rfl rfl (by omega)) rfl ?_
            refine HL.take 15 rfl (by kernel_rfl) (by kernel_rfl) (by kernel_rfl) rfl (Y.indexP (fstAt B (fstAt B j + y - 1) - fstAt B j) rfl rfl (by omega) (by rw [dpRow_len]; omega) slice22 hrz) rfl ?_
            refine HL.take 16 rfl (by kernel_rfl) (by kernel_rfl) (by kernel_rfl) rfl (Y.loadP rfl hrz (dints_get (dpRow_get _ _ _ _ _ _ (fstAt B (fstAt B j + y - 1) - fstAt B j) (by omega))) flat3) rfl ?_
            refine HL.take 17 rfl (by kernel_rfl) (by kernel_rfl) (by kernel_rfl) rfl (Y.move rfl) rfl ?_
            refine HL.take 18 rfl (by kernel_rfl) (by kernel_rfl) (by kernel_rfl) rfl (Y.move rfl) rfl ?_
            refine HL.take 19 rfl (by kernel_rfl) (by kernel_rfl) (by kernel_rfl) rfl (Y.indexP (fstAt A i + x - 1) rfl rfl rfl (by have := hdo.lt; omega) slice35 (Rd.mono hsub _ _ hd)) rfl ?_
            refine HL.take 20 rfl (by kernel_rfl) (by kernel_rfl) (by kernel_rfl) rfl (Y.loadC rfl hc2 flat22) rfl ?_
            refine HL.take 21 rfl (by kernel_rfl) (by kernel_rfl) (by kernel_rfl) rfl (Y.move rfl) rfl ?_
            refine HL.take 22 rfl (by kernel_rfl) (by kernel_rfl) (by kernel_rfl) rfl (Y.indexP (fstAt B j + y - 1) rfl rfl rfl (by rw [hdo.row _ (List.mem_of_getElem? hr0)]; exact hwB) slice22 hrr2) rfl ?_
            refine HL.take 23 rfl (by kernel_rfl) (by kernel_rfl) (by kernel_rfl) rfl (Y.loadP rfl hrr2 (dints_get hr1) flat3) rfl ?_
            refine HL.take 24 rfl (by kernel_rfl) (by kernel_rfl) (by kernel_rfl) rfl (Y.add rfl rfl (by omega)) rfl ?_
            refine HL.step 5 rfl (by kernel_rfl) ?_
            refine RL.q (Y.loadOwn rfl (by repeat (first | exact List.Mem.head _ | apply List.Mem.tail)) (ints_get (set_get _ (by rw [part_len]; omega)) (by omega)) flat3) rfl ?_
            refine RL.nil ⟨keep_same (by repeat (first | exact List.Sublist.refl _ | apply List.Sublist.cons_cons | apply List.Sublist.cons)), ?_⟩
            refine HL.take 25 rfl (by kernel_rfl) (by kernel_rfl) (by kernel_rfl) rfl (Y.min2 rfl rfl) rfl ?_
            refine HL.take 26 rfl (by kernel_rfl) (by kernel_rfl) (by kernel_rfl) rfl (Y.index y rfl rfl (by omega) (by omega) slice22 (fun _ _ => rfl)) rfl ?_
            refine HL.step 27 rfl (by kernel_rfl) ?_
            refine RL.store (ints (rowP (dp A B dual i j x) (y + 1) (sizeAt B j + 1))) rfl rfl (by repeat (first | exact Repl.here _ | apply Repl.there)) (fill_two (by omega) (by omega) (by rw [dp_part hx0 hy0 (by omega) hvp hwp]; omega)) (by rw [ints_len, List.length_set, part_len]; omega) (by rfl) size3 ?_
            refine RL.nil ⟨keep_same (by repeat (first | exact List.Sublist.refl _ | apply List.Sublist.cons_cons | apply List.Sublist.cons)), ?_⟩
            refine HL.done (by kernel_rfl) ?_
            refine hK15 _ _ _ ?_
            refine CW.keep (Keep.cons 0 rfl (Keep.cons 1 rfl (Keep.cons 2 rfl (Keep.cons 3 rfl (Keep.cons 4 rfl (Keep.cons 11 rfl (Keep.cons 12 rfl (Keep.cons 13 rfl (Keep.cons 14 rfl (Keep.cons 15 rfl (Keep.cons 16 rfl (Keep.nil _)))))))))))) ?_
            refine CW.region ?_
            refine RL.q (Y.move rfl) rfl ?_
            refine RL.q (Y.add rfl rfl (by omega)) rfl ?_
            refine RL.q (Y.assign rfl) rfl ?_
            refine RL.nil ?_
            refine ⟨sizeAt B j + 1 - (y + 1), [(16, _)], ?_, (Keep.cons 16 rfl (Keep.cons 0 rfl (Keep.cons 1 rfl (Keep.cons 2 rfl (Keep.cons 3 rfl (Keep.cons 4 rfl (Keep.cons 11 rfl (Keep.cons 12 rfl (Keep.cons 13 rfl (Keep.cons 14 rfl (Keep.cons 15 rfl (Keep.nil _)))))))))))), ?_⟩
            · omega
            · exact Turn.drop ⟨[_], rfl, hsub3, y + 1, rfl, by omega, rfl, rfl, rfl⟩ (by repeat (first | exact List.Sublist.refl _ | apply List.Sublist.cons_cons | apply List.Sublist.cons))
    · refine CW.exit ?_
      refine hK9 _ _ _ ?_
      have hy : y = sizeAt B j + 1 := by omega
      subst hy
      rw [dp_row_eq]
      refine CW.sealOwn (b := b45) (k := (dpRow A B dual i j x).length) (sz := 1) (by repeat (first | exact Pick.here _ | apply Pick.there)) (ints_rd (dpRow A B dual i j x)) (by simp) (by rw [dpRow_len]; unfold lim; omega) fun M2 hs2 hrow => ?_
      have hrow2 : Rd M2 (dints (dpRow A B dual i j x)) (.slice (some ⟨b45, 0, none⟩) (sizeAt B j + 1) (sizeAt B j + 1)) := by have h := hrow; rw [dpRow_len] at h; unfold dints; rw [dpRow_len]; exact h
      refine CW.region ?_
      refine RL.q (Y.move rfl) rfl ?_
      refine RL.q (Y.add rfl rfl (by omega)) rfl ?_
      refine RL.q (Y.assign rfl) rfl ?_
      refine RL.nil ?_
      refine ⟨sizeAt A i + 1 - (x + 1), [(13, _), (14, _)], ?_, (Keep.cons 13 rfl (Keep.cons 14 rfl (Keep.cons 0 rfl (Keep.cons 1 rfl (Keep.cons 2 rfl (Keep.cons 3 rfl (Keep.cons 4 rfl (Keep.cons 11 rfl (Keep.cons 12 rfl (Keep.nil _)))))))))), ?_⟩
      · omega
      · exact Turn.drop ⟨[_], rfl, hsub.trans hs2, x + 1, _, _, _, rfl, by omega, rfl, rfl, by rw [dp_rows_succ]; exact (hus.mono hs2).append (RdL.cons hrow2 (RdL.nil _))⟩ (by repeat (first | exact List.Sublist.refl _ | apply List.Sublist.cons_cons | apply List.Sublist.cons))
  · refine CW.exit ?_
    refine hK5 _ _ _ ?_
    refine CW.seq fun K31 hK31 => ?_
    obtain ⟨un, hun0, hrn0⟩ := RdL.get hus (range_get (fun k => dints (dpRow A B dual i j k)) (show sizeAt A i < x by omega))
    obtain ⟨an, cn, rfl, _, _, _⟩ := hrn0.slice
    have hun : us[(sizeAt A i) * 1]? = some (.slice an (dpRow A B dual i j (sizeAt A i)).length cn) := by rw [Nat.mul_one]; exact hun0
    have hrn := hrn0
    refine CW.region ?_
    refine RL.q (Y.move rfl) rfl ?_
    refine RL.q (Y.move rfl) rfl ?_
    refine RL.q (Y.indexAcc (sizeAt A i) rfl rfl (by omega) (by omega) slice35 (by repeat (first | exact List.Mem.head _ | apply List.Mem.tail)) hun) rfl ?_
    refine RL.q (Y.loadAcc rfl (by repeat (first | exact List.Mem.head _ | apply List.Mem.tail)) hun flat22) rfl ?_
    refine RL.q (Y.move rfl) rfl ?_
    refine RL.q (Y.indexP (sizeAt B j) rfl rfl (by omega) (by rw [dpRow_len]; omega) slice22 hrn) rfl ?_
    refine RL.q (Y.loadP rfl hrn (dints_get (dpRow_get _ _ _ _ _ _ (sizeAt B j) (by omega))) flat3) rfl ?_
    refine RL.q (Y.assign rfl) rfl ?_
    refine RL.nil ?_
    refine hK31 _ _ _ ?_
    refine CW.keep (Keep.cons 10 rfl (Keep.nil _)) ?_
    refine CW.ret ?_
    exact ⟨_, rfl, Turn.back hw1 hsub ⟨rfl, rfl, rfl⟩ (by repeat (first | exact List.Sublist.refl _ | apply List.Sublist.cons_cons | apply List.Sublist.cons))⟩
end Go.Proofs.Ytjkcjbicleohkaa
