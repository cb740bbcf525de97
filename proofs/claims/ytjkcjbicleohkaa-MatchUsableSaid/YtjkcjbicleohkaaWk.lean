/- THE WALKS, 11: the way back through the tables. Printed by m16k.py. -/
import Derived.Test.YtjkcjbicleohkaaWj
namespace Go.Proofs.Ytjkcjbicleohkaa
open Xe

theorem trace_ok (N : Nat) : ∀ (w0 : World) (M : Mem) (Γ : List As) (a b : List MNode) (u v ud : Value) (i j : Nat) (dual : List (List Int)) (bt : Nat) (t : List Int), i + j = N → Rd M (MNode.encs a) u → Rd M (MNode.encs b) v → Rd M (dtab dual) ud →
    Post1 a → Post1 b → DualOk a b dual → i < a.length → j < b.length → a.length ≤ 1000 → b.length ≤ 1000 → t.length = a.length →
    CallOk Try.prog w0 M (.own bt 3 (ints t) :: Γ) 36 #[u, v, vint i, vint j, ud, .slice (some ⟨bt, 0, none⟩) a.length a.length] (fun _ M' Γ' => ∃ t', M' = M ∧ Γ' = .own bt 3 (ints t') :: Γ ∧ t'.length = a.length ∧ Tr a b dual i j (sizeAt a i) (sizeAt b j) t t') := by
  induction N using Nat.strongRecOn
  rename_i N ih
  intro w0 M Γ a b u v ud i j dual bt t hN hu hv0 hd hpa hpb hdo hi hj hla hlb ht
  obtain ⟨a1, c1, rfl, hc1, hlim1, hlen1⟩ := hu.slice
  obtain ⟨a2, c2, rfl, hcc2, hlim2, hlen2⟩ := hv0.slice
  obtain ⟨a3, c3, rfl, hc3, hlim3, hlen3⟩ := hd.slice
  obtain ⟨hpi1, hpi2⟩ := hpa i hi
  obtain ⟨hpj1, hpj2⟩ := hpb j hj
  have hnA : sizeAt a i = i - fstAt a i + 1 := rfl
  have hnB : sizeAt b j = j - fstAt b j + 1 := rfl
  refine enter0 (f := 36) Try.func36 rfl Try.ntmps36 rfl rfl fun w1 hw1 => ?_
  refine CW.addRd hu ?_
  refine CW.addRd hv0 ?_
  refine CW.seq fun K1 hK1 => ?_
  refine CW.region ?_
  refine RL.q (Y.move rfl) rfl ?_
  refine RL.q (Y.move rfl) rfl ?_
  refine RL.q (Y.move rfl) rfl ?_
  refine RL.q (Y.move rfl) rfl ?_
  refine RL.q (Y.move rfl) rfl ?_
  refine RL.call rfl func35 rfl rfl (table_ok _ _ _ a b _ _ _ i j dual hu hv0 hd hpa hpb hdo hi hj hla hlb) ?_
  rintro v22 M1 _ ⟨hs1, rfl, hrD⟩
  have hrT := Rd.mono (Mem.diff_sub _ _) _ _ hrD
  obtain ⟨aT, cT, rfl, hcT, hlimT, hlenT⟩ := hrT.slice
  refine RL.q (Y.assign rfl) rfl ?_
  refine RL.nil ?_
  refine hK1 _ _ _ ?_
  refine CW.keep (Keep.cons 0 rfl (Keep.cons 1 rfl (Keep.cons 2 rfl (Keep.cons 3 rfl (Keep.cons 4 rfl (Keep.cons 5 rfl (Keep.cons 12 rfl (Keep.nil _)))))))) ?_
  refine CW.seq fun K2 hK2 => ?_
  obtain ⟨u0, hc0, hr0⟩ := hrT.cell (q := 0 * 1) (dtab_get (dpTab_get _ _ _ _ _ 0 (by omega)))
  obtain ⟨ar0, cr0, rfl, _, _, _⟩ := hr0.slice
  refine CW.regionQ mix (by kernel_rfl) ?_
  refine QL.q (Y.move rfl) rfl ?_
  refine QL.q (Y.len rfl Try.underlying35) rfl ?_
  refine QL.q (Y.sub rfl rfl (by omega)) rfl ?_
  refine QL.q (Y.move rfl) rfl ?_
  refine QL.q (Y.indexP 0 rfl rfl rfl (by rw [dpTab_len]; omega) slice35 hrT) rfl ?_
  refine QL.q (Y.loadC rfl hc0 flat22) rfl ?_
  refine QL.q (Y.len rfl Try.underlying22) rfl ?_
  refine QL.q (Y.sub rfl rfl (by omega)) rfl ?_
  refine QL.q (Y.assign rfl) rfl ?_
  refine QL.q (Y.assign rfl) rfl ?_
  refine QL.nil ?_
  refine hK2 _ _ _ ?_
  refine CW.keep (Keep.cons 0 rfl (Keep.cons 1 rfl (Keep.cons 2 rfl (Keep.cons 3 rfl (Keep.cons 4 rfl (Keep.cons 5 rfl (Keep.cons 12 rfl (Keep.cons 13 rfl (Keep.cons 14 rfl (Keep.nil _)))))))))) ?_
  rw [show ((dpTab a b dual i j).length : Int) - 1 = ((sizeAt a i : Nat) : Int) from by rw [dpTab_len]; omega, show ((dpRow a b dual i j 0).length : Int) - 1 = ((sizeAt b j : Nat) : Int) from by rw [dpRow_len]; omega]
  refine CW.block ?_
  -- LOOP 1: live [0, 1, 2, 3, 4, 5, 12, 13, 14] changed [13, 14]
  refine CW.keep (Keep.cons 13 rfl (Keep.cons 14 rfl (Keep.cons 0 rfl (Keep.cons 1 rfl (Keep.cons 2 rfl (Keep.cons 3 rfl (Keep.cons 4 rfl (Keep.cons 5 rfl (Keep.cons 12 rfl (Keep.nil _)))))))))) ?_
  refine CW.front (x := .own bt _ _) (by repeat (first | exact Pick.here _ | apply Pick.there)) ?_
  refine CW.loopF (fun mm Lc M2 Γc => ∃ (x y : Nat) (t1 : List Int), mm = x + y ∧ x ≤ sizeAt a i ∧ y ≤ sizeAt b j ∧ Lc = [(13, vint x), (14, vint y)] ∧ Γc = [.own bt 3 (ints t1)] ∧ M2 = M1 ∧ t1.length = a.length ∧ ∀ t', Tr a b dual i j x y t1 t' → Tr a b dual i j (sizeAt a i) (sizeAt b j) t t') (sizeAt a i + sizeAt b j) [(13, _), (14, _)] [.own _ _ _] rfl rfl ⟨sizeAt a i, sizeAt b j, t, rfl, Nat.le_refl _, Nat.le_refl _, rfl, rfl, rfl, ht, fun _ h => h⟩ ?_
  rintro mm Lc M2 Γc hsub ⟨x, y, t1, rfl, hx, hy, rfl, rfl, rfl, ht1, htr⟩
  refine CW.seq fun K3 hK3 => ?_
  refine CW.seq fun K4 hK4 => ?_
  refine CW.region ?_
  refine RL.q (Y.move rfl) rfl ?_
  refine RL.qs (Y.gtr rfl rfl) rfl (fun g32 => ?_) (fun g32 => ?_)
  · refine RL.q (Y.move rfl) rfl ?_
    refine RL.qg ⟨_, _, rfl, rfl, rfl⟩ (Y.move rfl) rfl ?_
    refine RL.qg ⟨_, _, rfl, rfl, rfl⟩ (Y.gtr rfl rfl) rfl ?_
    refine RL.q (Y.pickT rfl rfl) rfl ?_
    refine RL.nil ?_
    refine hK4 _ _ _ ?_
    refine CW.keep (Keep.cons 0 rfl (Keep.cons 1 rfl (Keep.cons 2 rfl (Keep.cons 3 rfl (Keep.cons 4 rfl (Keep.cons 5 rfl (Keep.cons 12 rfl (Keep.cons 13 rfl (Keep.cons 14 rfl (Keep.cons 36 rfl (Keep.nil _))))))))))) ?_
    refine CW.ite rfl (fun h1 => ?_) (fun h1 => ?_)
    · refine CW.skip ?_
      refine hK3 _ _ _ ?_
      refine CW.block ?_
      refine CW.seq fun K5 hK5 => ?_
      refine CW.regionQ mix (by kernel_rfl) ?_
      refine QL.q (Y.move rfl) rfl ?_
      refine QL.q (Y.move rfl) rfl ?_
      refine QL.q (Y.index i rfl rfl rfl hi slice74 (fun _ hw => hw.rd_some (by repeat (first | exact List.Mem.head _ | apply List.Mem.tail)) (by omega))) rfl ?_
      refine QL.q (Y.field rfl field80_1) rfl ?_
      refine QL.q (Y.loadRd rfl (by repeat (first | exact List.Mem.head _ | apply List.Mem.tail)) (mfirst hi) flat3) rfl ?_
      refine QL.q (Y.move rfl) rfl ?_
      refine QL.q (Y.add rfl rfl (by omega)) rfl ?_
      refine QL.q (Y.sub rfl rfl (by omega)) rfl ?_
      refine QL.q (Y.move rfl) rfl ?_
      refine QL.q (Y.move rfl) rfl ?_
      refine QL.q (Y.index j rfl rfl rfl hj slice74 (fun _ hw => hw.rd_some (by repeat (first | exact List.Mem.head _ | apply List.Mem.tail)) (by omega))) rfl ?_
      refine QL.q (Y.field rfl field80_1) rfl ?_
      refine QL.q (Y.loadRd rfl (by repeat (first | exact List.Mem.head _ | apply List.Mem.tail)) (mfirst hj) flat3) rfl ?_
      refine QL.q (Y.move rfl) rfl ?_
      refine QL.q (Y.add rfl rfl (by omega)) rfl ?_
      refine QL.q (Y.sub rfl rfl (by omega)) rfl ?_
      refine QL.q (Y.assign rfl) rfl ?_
      refine QL.q (Y.assign rfl) rfl ?_
      refine QL.nil ?_
      refine hK5 _ _ _ ?_
      refine CW.keep (Keep.cons 0 rfl (Keep.cons 1 rfl (Keep.cons 2 rfl (Keep.cons 3 rfl (Keep.cons 4 rfl (Keep.cons 5 rfl (Keep.cons 12 rfl (Keep.cons 13 rfl (Keep.cons 14 rfl (Keep.cons 15 rfl (Keep.cons 16 rfl (Keep.nil _)))))))))))) ?_
      rw [show ((fstAt a i : Nat) : Int) + (x : Int) - 1 = ((fstAt a i + x - 1 : Nat) : Int) from by omega, show ((fstAt b j : Nat) : Int) + (y : Int) - 1 = ((fstAt b j + y - 1 : Nat) : Int) from by omega]
      have hv : fstAt a i + x - 1 < a.length := by omega
      have hvp := (hpa _ hv).1
      have hvq := hpi2 (fstAt a i + x - 1) (by omega) (by omega)
      have hw : fstAt b j + y - 1 < b.length := by omega
      have hwp := (hpb _ hw).1
      have hwq := hpj2 (fstAt b j + y - 1) (by omega) (by omega)
      obtain ⟨ux, hcx, hrx⟩ := hrT.cell (q := x * 1) (dtab_get (dpTab_get _ _ _ _ _ x (by omega)))
      obtain ⟨arx, crx, rfl, _, _, _⟩ := hrx.slice
      obtain ⟨up, hcp, hrp⟩ := hrT.cell (q := (x - 1) * 1) (dtab_get (dpTab_get _ _ _ _ _ (x - 1) (by omega)))
      obtain ⟨arp, crp, rfl, _, _, _⟩ := hrp.slice
      have hb1 := dp_le (a := a) (b := b) (i := i) (j := j) hdo.num _ (x - 1) y (Nat.le_refl _)
      have hb2 := dp_le (a := a) (b := b) (i := i) (j := j) hdo.num _ x (y - 1) (Nat.le_refl _)
      refine CW.block ?_
      refine CW.seq fun K6 hK6 => ?_
      refine CW.regionQ mix (by kernel_rfl) ?_
      refine QL.q (Y.move rfl) rfl ?_
      refine QL.q (Y.move rfl) rfl ?_
      refine QL.q (Y.indexP x rfl rfl (by omega) (by rw [dpTab_len]; omega) slice35 hrT) rfl ?_
      refine QL.q (Y.loadC rfl hcx flat22) rfl ?_
      refine QL.q (Y.move rfl) rfl ?_
      refine QL.q (Y.indexP y rfl rfl (by omega) (by rw [dpRow_len]; omega) slice22 hrx) rfl ?_
      refine QL.q (Y.loadP rfl hrx (dints_get (dpRow_get _ _ _ _ _ _ y (by omega))) flat3) rfl ?_
      refine QL.q (Y.move rfl) rfl ?_
      refine QL.q (Y.move rfl) rfl ?_
      refine QL.q (Y.sub rfl rfl (by omega)) rfl ?_
      refine QL.q (Y.indexP (x - 1) rfl rfl (by omega) (by rw [dpTab_len]; omega) slice35 hrT) rfl ?_
      refine QL.q (Y.loadC rfl hcp flat22) rfl ?_
      refine QL.q (Y.move rfl) rfl ?_
      refine QL.q (Y.indexP y rfl rfl (by omega) (by rw [dpRow_len]; omega) slice22 hrp) rfl ?_
      refine QL.q (Y.loadP rfl hrp (dints_get (dpRow_get _ _ _ _ _ _ y (by omega))) flat3) rfl ?_
      refine QL.q (Y.add rfl rfl (by omega)) rfl ?_
      refine QL.q (Y.eql rfl rfl) rfl ?_
      refine QL.q (Y.assign rfl) rfl ?_
      refine QL.nil ?_
      refine hK6 _ _ _ ?_
      refine CW.keep (Keep.cons 0 rfl (Keep.cons 1 rfl (Keep.cons 2 rfl (Keep.cons 3 rfl (Keep.cons 4 rfl (Keep.cons 5 rfl (Keep.cons 12 rfl (Keep.cons 13 rfl (Keep.cons 14 rfl (Keep.cons 15 rfl (Keep.cons 16 rfl (Keep.cons 82 rfl (Keep.nil _))))))))))))) ?_
      refine CW.ite rfl (fun h2 => ?_) (fun h2 => ?_)
      · refine CW.region ?_
        refine RL.q (Y.move rfl) rfl ?_
        refine RL.q (Y.sub rfl rfl (by omega)) rfl ?_
        refine RL.q (Y.assign rfl) rfl ?_
        refine RL.nil ?_
        (refine ⟨x - 1 + y, [(13, _), (14, _)], ?_, (Keep.cons 13 rfl (Keep.cons 14 rfl (Keep.cons 0 rfl (Keep.cons 1 rfl (Keep.cons 2 rfl (Keep.cons 3 rfl (Keep.cons 4 rfl (Keep.cons 5 rfl (Keep.cons 12 rfl (Keep.nil _)))))))))), ?_⟩; (omega); (exact Turn.drop ⟨[_], rfl, hsub, x - 1, y, t1, rfl, by omega, by omega, by rw [show ((x - 1 : Nat) : Int) = (x : Int) - 1 from by omega], rfl, rfl, ht1, fun t' h => htr t' (Tr.up (by omega) (by omega) (by omega) h)⟩ (by repeat (first | exact List.Sublist.refl _ | apply List.Sublist.cons_cons | apply List.Sublist.cons))))
      · refine CW.seq fun K7 hK7 => ?_
        refine CW.regionQ mix (by kernel_rfl) ?_
        refine QL.q (Y.move rfl) rfl ?_
        refine QL.q (Y.move rfl) rfl ?_
        refine QL.q (Y.indexP x rfl rfl (by omega) (by rw [dpTab_len]; omega) slice35 hrT) rfl ?_
        refine QL.q (Y.loadC rfl hcx flat22) rfl ?_
        refine QL.q (Y.move rfl) rfl ?_
        refine QL.q (Y.indexP y rfl rfl (by omega) (by rw [dpRow_len]; omega) slice22 hrx) rfl ?_
        refine QL.q (Y.loadP rfl hrx (dints_get (dpRow_get _ _ _ _ _ _ y (by omega))) flat3) rfl ?_
        refine QL.q (Y.move rfl) rfl ?_
        refine QL.q (Y.move rfl) rfl ?_
        refine QL.q (Y.indexP x rfl rfl (by omega) (by rw [dpTab_len]; omega) slice35 hrT) rfl ?_
        refine QL.q (Y.loadC rfl hcx flat22) rfl ?_
        refine QL.q (Y.move rfl) rfl ?_
        refine QL.q (Y.sub rfl rfl (by omega)) rfl ?_
        refine QL.q (Y.indexP (y - 1) rfl rfl (by omega) (by rw [dpRow_len]; omega) slice22 hrx) rfl ?_
        refine QL.q (Y.loadP rfl hrx (dints_get (dpRow_get _ _ _ _ _ _ (y - 1) (by omega))) flat3) rfl ?_
        refine QL.q (Y.add rfl rfl (by omega)) rfl ?_
        refine QL.q (Y.eql rfl rfl) rfl ?_
        refine QL.q (Y.assign rfl) rfl ?_
        refine QL.nil ?_
        refine hK7 _ _ _ ?_
        refine CW.keep (Keep.cons 0 rfl (Keep.cons 1 rfl (Keep.cons 2 rfl (Keep.cons 3 rfl (Keep.cons 4 rfl (Keep.cons 5 rfl (Keep.cons 12 rfl (Keep.cons 13 rfl (Keep.cons 14 rfl (Keep.cons 15 rfl (Keep.cons 16 rfl (Keep.cons 102 rfl (Keep.nil _))))))))))))) ?_
        refine CW.ite rfl (fun h3 => ?_) (fun h3 => ?_)
        · refine CW.region ?_
          refine RL.q (Y.move rfl) rfl ?_
          refine RL.q (Y.sub rfl rfl (by omega)) rfl ?_
          refine RL.q (Y.assign rfl) rfl ?_
          refine RL.nil ?_
          (refine ⟨x + (y - 1), [(13, _), (14, _)], ?_, (Keep.cons 13 rfl (Keep.cons 14 rfl (Keep.cons 0 rfl (Keep.cons 1 rfl (Keep.cons 2 rfl (Keep.cons 3 rfl (Keep.cons 4 rfl (Keep.cons 5 rfl (Keep.cons 12 rfl (Keep.nil _)))))))))), ?_⟩; (omega); (exact Turn.drop ⟨[_], rfl, hsub, x, y - 1, t1, rfl, by omega, by omega, by rw [show ((y - 1 : Nat) : Int) = (y : Int) - 1 from by omega], rfl, rfl, ht1, fun t' h => htr t' (Tr.left (by omega) (by omega) (by omega) h)⟩ (by repeat (first | exact List.Sublist.refl _ | apply List.Sublist.cons_cons | apply List.Sublist.cons))))
        · refine CW.seq fun K8 hK8 => ?_
          refine CW.region ?_
          refine RL.q (Y.move rfl) rfl ?_
          refine RL.q (Y.move rfl) rfl ?_
          refine RL.qs (Y.eql rfl rfl) rfl (fun g125 => ?_) (fun g125 => ?_)
          · refine RL.q (Y.move rfl) rfl ?_
            refine RL.qg ⟨_, _, rfl, rfl, rfl⟩ (Y.move rfl) rfl ?_
            refine RL.qg ⟨_, _, rfl, rfl, rfl⟩ (Y.move rfl) rfl ?_
            refine RL.qg ⟨_, _, rfl, rfl, rfl⟩ (Y.eql rfl rfl) rfl ?_
            refine RL.q (Y.pickT rfl rfl) rfl ?_
            refine RL.q (Y.assign rfl) rfl ?_
            refine RL.nil ?_
            refine hK8 _ _ _ ?_
            refine CW.keep (Keep.cons 0 rfl (Keep.cons 1 rfl (Keep.cons 2 rfl (Keep.cons 3 rfl (Keep.cons 4 rfl (Keep.cons 5 rfl (Keep.cons 12 rfl (Keep.cons 13 rfl (Keep.cons 14 rfl (Keep.cons 15 rfl (Keep.cons 16 rfl (Keep.cons 122 rfl (Keep.nil _))))))))))))) ?_
            refine CW.ite rfl (fun h4 => ?_) (fun h4 => ?_)
            · refine CW.seq fun K9 hK9 => ?_
              refine CW.region ?_
              refine RL.q (Y.move rfl) rfl ?_
              refine RL.q (Y.move rfl) rfl ?_
              refine RL.q (Y.move rfl) rfl ?_
              refine RL.q (Y.index (fstAt a i + x - 1) rfl rfl rfl (by omega) slice22 (fun _ _ => rfl)) rfl ?_
              refine RL.store (ints (t1.set i j)) rfl rfl (by repeat (first | exact Repl.here _ | apply Repl.there)) (by rw [ints_set _ _ i _ (by omega)]; simp only [show fstAt b j + y - 1 = j from by omega]) (by rw [ints_len]; omega) (by rfl) size3 ?_
              refine RL.nil ?_
              refine hK9 _ _ _ ?_
              refine CW.keep (Keep.cons 0 rfl (Keep.cons 1 rfl (Keep.cons 2 rfl (Keep.cons 3 rfl (Keep.cons 4 rfl (Keep.cons 5 rfl (Keep.cons 12 rfl (Keep.cons 13 rfl (Keep.cons 14 rfl (Keep.nil _)))))))))) ?_
              refine CW.seq fun K10 hK10 => ?_
              refine CW.region ?_
              refine RL.q (Y.move rfl) rfl ?_
              refine RL.q (Y.sub rfl rfl (by omega)) rfl ?_
              refine RL.q (Y.assign rfl) rfl ?_
              refine RL.nil ?_
              refine hK10 _ _ _ ?_
              refine CW.keep (Keep.cons 0 rfl (Keep.cons 1 rfl (Keep.cons 2 rfl (Keep.cons 3 rfl (Keep.cons 4 rfl (Keep.cons 5 rfl (Keep.cons 12 rfl (Keep.cons 13 rfl (Keep.cons 14 rfl (Keep.nil _)))))))))) ?_
              refine CW.region ?_
              refine RL.q (Y.move rfl) rfl ?_
              refine RL.q (Y.sub rfl rfl (by omega)) rfl ?_
              refine RL.q (Y.assign rfl) rfl ?_
              refine RL.nil ?_
              (refine ⟨x - 1 + (y - 1), [(13, _), (14, _)], ?_, (Keep.cons 13 rfl (Keep.cons 14 rfl (Keep.cons 0 rfl (Keep.cons 1 rfl (Keep.cons 2 rfl (Keep.cons 3 rfl (Keep.cons 4 rfl (Keep.cons 5 rfl (Keep.cons 12 rfl (Keep.nil _)))))))))), ?_⟩; (omega); (exact Turn.drop ⟨[_], rfl, hsub, x - 1, y - 1, t1.set i j, rfl, by omega, by omega, by rw [show ((x - 1 : Nat) : Int) = (x : Int) - 1 from by omega, show ((y - 1 : Nat) : Int) = (y : Int) - 1 from by omega], rfl, rfl, (by rw [List.length_set]; exact ht1), fun t' h => htr t' (Tr.pair (by omega) (by omega) (by omega) (by omega) (by omega) (by omega) h)⟩ (by repeat (first | exact List.Sublist.refl _ | apply List.Sublist.cons_cons | apply List.Sublist.cons))))
            · refine CW.seq fun K11 hK11 => ?_
              refine CW.region ?_
              refine RL.q (Y.move rfl) rfl ?_
              refine RL.q (Y.move rfl) rfl ?_
              refine RL.q (Y.move rfl) rfl ?_
              refine RL.q (Y.move rfl) rfl ?_
              refine RL.q (Y.move rfl) rfl ?_
              refine RL.q (Y.move rfl) rfl ?_
              refine RL.call rfl func36 rfl rfl (CallOk.pick (x := .own bt 3 (ints t1)) (by repeat (first | exact Pick.here _ | apply Pick.there)) (ih (fstAt a i + x - 1 + (fstAt b j + y - 1)) (by omega) _ _ _ a b _ _ _ (fstAt a i + x - 1) (fstAt b j + y - 1) dual bt t1 rfl (Rd.mono hs1 _ _ hu) (Rd.mono hs1 _ _ hv0) (Rd.mono hs1 _ _ hd) hpa hpb hdo hv hw hla hlb (by omega))) ?_
              rintro v59 _ _ ⟨t2, rfl, rfl, ht2, htr2⟩
              refine RL.nil ?_
              refine hK11 _ _ _ ?_
              refine CW.keep (Keep.cons 0 rfl (Keep.cons 1 rfl (Keep.cons 2 rfl (Keep.cons 3 rfl (Keep.cons 4 rfl (Keep.cons 5 rfl (Keep.cons 12 rfl (Keep.cons 15 rfl (Keep.cons 16 rfl (Keep.nil _)))))))))) ?_
              refine CW.regionQ mix (by kernel_rfl) ?_
              refine QL.q (Y.move rfl) rfl ?_
              refine QL.q (Y.move rfl) rfl ?_
              refine QL.q (Y.index (fstAt a i + x - 1) rfl rfl rfl hv slice74 (fun _ hw => hw.rd_some (by repeat (first | exact List.Mem.head _ | apply List.Mem.tail)) (by omega))) rfl ?_
              refine QL.q (Y.field rfl field80_1) rfl ?_
              refine QL.q (Y.loadRd rfl (by repeat (first | exact List.Mem.head _ | apply List.Mem.tail)) (mfirst hv) flat3) rfl ?_
              refine QL.q (Y.move rfl) rfl ?_
              refine QL.q (Y.move rfl) rfl ?_
              refine QL.q (Y.index i rfl rfl rfl hi slice74 (fun _ hw => hw.rd_some (by repeat (first | exact List.Mem.head _ | apply List.Mem.tail)) (by omega))) rfl ?_
              refine QL.q (Y.field rfl field80_1) rfl ?_
              refine QL.q (Y.loadRd rfl (by repeat (first | exact List.Mem.head _ | apply List.Mem.tail)) (mfirst hi) flat3) rfl ?_
              refine QL.q (Y.sub rfl rfl (by omega)) rfl ?_
              refine QL.q (Y.move rfl) rfl ?_
              refine QL.q (Y.move rfl) rfl ?_
              refine QL.q (Y.index (fstAt b j + y - 1) rfl rfl rfl hw slice74 (fun _ hw => hw.rd_some (by repeat (first | exact List.Mem.head _ | apply List.Mem.tail)) (by omega))) rfl ?_
              refine QL.q (Y.field rfl field80_1) rfl ?_
              refine QL.q (Y.loadRd rfl (by repeat (first | exact List.Mem.head _ | apply List.Mem.tail)) (mfirst hw) flat3) rfl ?_
              refine QL.q (Y.move rfl) rfl ?_
              refine QL.q (Y.move rfl) rfl ?_
              refine QL.q (Y.index j rfl rfl rfl hj slice74 (fun _ hw => hw.rd_some (by repeat (first | exact List.Mem.head _ | apply List.Mem.tail)) (by omega))) rfl ?_
              refine QL.q (Y.field rfl field80_1) rfl ?_
              refine QL.q (Y.loadRd rfl (by repeat (first | exact List.Mem.head _ | apply List.Mem.tail)) (mfirst hj) flat3) rfl ?_
              refine QL.q (Y.sub rfl rfl (by omega)) rfl ?_
              refine QL.q (Y.assign rfl) rfl ?_
              refine QL.q (Y.assign rfl) rfl ?_
              refine QL.nil ?_
              (refine ⟨(fstAt a (fstAt a i + x - 1) - fstAt a i) + (fstAt b (fstAt b j + y - 1) - fstAt b j), [(13, _), (14, _)], ?_, (Keep.cons 13 rfl (Keep.cons 14 rfl (Keep.cons 0 rfl (Keep.cons 1 rfl (Keep.cons 2 rfl (Keep.cons 3 rfl (Keep.cons 4 rfl (Keep.cons 5 rfl (Keep.cons 12 rfl (Keep.nil _)))))))))), ?_⟩; (omega); (exact Turn.drop ⟨[_], rfl, hsub, (fstAt a (fstAt a i + x - 1) - fstAt a i), (fstAt b (fstAt b j + y - 1) - fstAt b j), t2, rfl, by omega, by omega, by rw [show (((fstAt a (fstAt a i + x - 1) - fstAt a i) : Nat) : Int) = (fstAt a (fstAt a i + x - 1) : Int) - (fstAt a i : Int) from by omega, show (((fstAt b (fstAt b j + y - 1) - fstAt b j) : Nat) : Int) = (fstAt b (fstAt b j + y - 1) : Int) - (fstAt b j : Int) from by omega], rfl, rfl, (by omega), fun t' h => htr t' (Tr.part (by omega) (by omega) (by omega) (by omega) (by omega) htr2 h)⟩ (by repeat (first | exact List.Sublist.refl _ | apply List.Sublist.cons_cons | apply List.Sublist.cons))))
          · refine RL.q (Y.move rfl) rfl ?_
            refine RL.no ⟨_, _, rfl, rfl, rfl⟩ rfl ?_
            refine RL.no ⟨_, _, rfl, rfl, rfl⟩ rfl ?_
            refine RL.no ⟨_, _, rfl, rfl, rfl⟩ rfl ?_
            refine RL.q (Y.pickF rfl rfl) rfl ?_
            refine RL.q (Y.assign rfl) rfl ?_
            refine RL.nil ?_
            refine hK8 _ _ _ ?_
            refine CW.keep (Keep.cons 0 rfl (Keep.cons 1 rfl (Keep.cons 2 rfl (Keep.cons 3 rfl (Keep.cons 4 rfl (Keep.cons 5 rfl (Keep.cons 12 rfl (Keep.cons 13 rfl (Keep.cons 14 rfl (Keep.cons 15 rfl (Keep.cons 16 rfl (Keep.cons 122 rfl (Keep.nil _))))))))))))) ?_
            refine CW.no rfl ?_
            refine CW.seq fun K12 hK12 => ?_
            refine CW.region ?_
            refine RL.q (Y.move rfl) rfl ?_
            refine RL.q (Y.move rfl) rfl ?_
            refine RL.q (Y.move rfl) rfl ?_
            refine RL.q (Y.move rfl) rfl ?_
            refine RL.q (Y.move rfl) rfl ?_
            refine RL.q (Y.move rfl) rfl ?_
            refine RL.call rfl func36 rfl rfl (CallOk.pick (x := .own bt 3 (ints t1)) (by repeat (first | exact Pick.here _ | apply Pick.there)) (ih (fstAt a i + x - 1 + (fstAt b j + y - 1)) (by omega) _ _ _ a b _ _ _ (fstAt a i + x - 1) (fstAt b j + y - 1) dual bt t1 rfl (Rd.mono hs1 _ _ hu) (Rd.mono hs1 _ _ hv0) (Rd.mono hs1 _ _ hd) hpa hpb hdo hv hw hla hlb (by omega))) ?_
            rintro v59 _ _ ⟨t2, rfl, rfl, ht2, htr2⟩
            refine RL.nil ?_
            refine hK12 _ _ _ ?_
            refine CW.keep (Keep.cons 0 rfl (Keep.cons 1 rfl (Keep.cons 2 rfl (Keep.cons 3 rfl (Keep.cons 4 rfl (Keep.cons 5 rfl (Keep.cons 12 rfl (Keep.cons 15 rfl (Keep.cons 16 rfl (Keep.nil _)))))))))) ?_
            refine CW.regionQ mix (by kernel_rfl) ?_
            refine QL.q (Y.move rfl) rfl ?_
            refine QL.q (Y.move rfl) rfl ?_
            refine QL.q (Y.index (fstAt a i + x - 1) rfl rfl rfl hv slice74 (fun _ hw => hw.rd_some (by repeat (first | exact List.Mem.head _ | apply List.Mem.tail)) (by omega))) rfl ?_
            refine QL.q (Y.field rfl field80_1) rfl ?_
            refine QL.q (Y.loadRd rfl (by repeat (first | exact List.Mem.head _ | apply List.Mem.tail)) (mfirst hv) flat3) rfl ?_
            refine QL.q (Y.move rfl) rfl ?_
            refine QL.q (Y.move rfl) rfl ?_
            refine QL.q (Y.index i rfl rfl rfl hi slice74 (fun _ hw => hw.rd_some (by repeat (first | exact List.Mem.head _ | apply List.Mem.tail)) (by omega))) rfl ?_
            refine QL.q (Y.field rfl field80_1) rfl ?_
            refine QL.q (Y.loadRd rfl (by repeat (first | exact List.Mem.head _ | apply List.Mem.tail)) (mfirst hi) flat3) rfl ?_
            refine QL.q (Y.sub rfl rfl (by omega)) rfl ?_
            refine QL.q (Y.move rfl) rfl ?_
            refine QL.q (Y.move rfl) rfl ?_
            refine QL.q (Y.index (fstAt b j + y - 1) rfl rfl rfl hw slice74 (fun _ hw => hw.rd_some (by repeat (first | exact List.Mem.head _ | apply List.Mem.tail)) (by omega))) rfl ?_
            refine QL.q (Y.field rfl field80_1) rfl ?_
            refine QL.q (Y.loadRd rfl (by repeat (first | exact List.Mem.head _ | apply List.Mem.tail)) (mfirst hw) flat3) rfl ?_
            refine QL.q (Y.move rfl) rfl ?_
            refine QL.q (Y.move rfl) rfl ?_
            refine QL.q (Y.index j rfl rfl rfl hj slice74 (fun _ hw => hw.rd_some (by repeat (first | exact List.Mem.head _ | apply List.Mem.tail)) (by omega))) rfl ?_
            refine QL.q (Y.field rfl field80_1) rfl ?_
            refine QL.q (Y.loadRd rfl (by repeat (first | exact List.Mem.head _ | apply List.Mem.tail)) (mfirst hj) flat3) rfl ?_
            refine QL.q (Y.sub rfl rfl (by omega)) rfl ?_
            refine QL.q (Y.assign rfl) rfl ?_
            refine QL.q (Y.assign rfl) rfl ?_
            refine QL.nil ?_
            (refine ⟨(fstAt a (fstAt a i + x - 1) - fstAt a i) + (fstAt b (fstAt b j + y - 1) - fstAt b j), [(13, _), (14, _)], ?_, (Keep.cons 13 rfl (Keep.cons 14 rfl (Keep.cons 0 rfl (Keep.cons 1 rfl (Keep.cons 2 rfl (Keep.cons 3 rfl (Keep.cons 4 rfl (Keep.cons 5 rfl (Keep.cons 12 rfl (Keep.nil _)))))))))), ?_⟩; (omega); (exact Turn.drop ⟨[_], rfl, hsub, (fstAt a (fstAt a i + x - 1) - fstAt a i), (fstAt b (fstAt b j + y - 1) - fstAt b j), t2, rfl, by omega, by omega, by rw [show (((fstAt a (fstAt a i + x - 1) - fstAt a i) : Nat) : Int) = (fstAt a (fstAt a i + x - 1) : Int) - (fstAt a i : Int) from by omega, show (((fstAt b (fstAt b j + y - 1) - fstAt b j) : Nat) : Int) = (fstAt b (fstAt b j + y - 1) : Int) - (fstAt b j : Int) from by omega], rfl, rfl, (by omega), fun t' h => htr t' (Tr.part (by omega) (by omega) (by omega) (by omega) (by omega) htr2 h)⟩ (by repeat (first | exact List.Sublist.refl _ | apply List.Sublist.cons_cons | apply List.Sublist.cons))))
    · refine CW.exit ?_
      exact Turn.back1 hw1 hs1 (by repeat (first | exact Pick.here _ | apply Pick.there)) (by repeat (first | exact List.Sublist.refl _ | apply List.Sublist.cons_cons | apply List.Sublist.cons)) ⟨t1, rfl, rfl, ht1, htr _ (Tr.stop (by omega))⟩
  · refine RL.q (Y.move rfl) rfl ?_
    refine RL.no ⟨_, _, rfl, rfl, rfl⟩ rfl ?_
    refine RL.no ⟨_, _, rfl, rfl, rfl⟩ rfl ?_
    refine RL.q (Y.pickF rfl rfl) rfl ?_
    refine RL.nil ?_
    refine hK4 _ _ _ ?_
    refine CW.keep (Keep.cons 0 rfl (Keep.cons 1 rfl (Keep.cons 2 rfl (Keep.cons 3 rfl (Keep.cons 4 rfl (Keep.cons 5 rfl (Keep.cons 12 rfl (Keep.cons 13 rfl (Keep.cons 14 rfl (Keep.cons 36 rfl (Keep.nil _))))))))))) ?_
    refine CW.no rfl ?_
    refine CW.exit ?_
    exact Turn.back1 hw1 hs1 (by repeat (first | exact Pick.here _ | apply Pick.there)) (by repeat (first | exact List.Sublist.refl _ | apply List.Sublist.cons_cons | apply List.Sublist.cons)) ⟨t1, rfl, rfl, ht1, htr _ (Tr.stop (by omega))⟩
end Go.Proofs.Ytjkcjbicleohkaa
