/- THE WALKS, law 2: MatchCosts. Printed by m16L2.py. -/
import Derived.Test.YtjkcjbicleohkaaWv
import Derived.Test.YtjkcjbicleohkaaTree
namespace Go.Proofs.Ytjkcjbicleohkaa
open Xe

def dlists (ls : List (List PairD)) : D := .sl ls.length 1 (ls.map PairD.encs)
theorem dl_get {ls : List (List PairD)} {i : Nat} (h : i < ls.length) : (ls.map PairD.encs)[i * 1]? = some (PairD.encs ls[i]) := by simp [h]
theorem six {zs : List Value} (h : zs.length = 6 * 1) : ∃ a b c d e f, zs = [a, b, c, d, e, f] := by
  match zs, h with
  | [a, b, c, d, e, f], _ => exact ⟨a, b, c, d, e, f, rfl⟩

set_option maxHeartbeats 2000000 in
theorem MatchCosts_ok (w0 : World) (M : Mem) (Γ : List As) (l m k : List Int) (index : Int) (ul um uk : Value) (hl : Rd M (dints l) ul) (hm : Rd M (dints m) um) (hk : Rd M (dints k) uk) (hli : ∀ x ∈ l, InI x) (hmi : ∀ x ∈ m, InI x) (hki : ∀ x ∈ k, InI x) :
    CallOk Try.prog w0 M Γ 4 #[ul, um, uk, vint index] (Is M Γ (.bool true)) := by
  obtain ⟨a, ha⟩ : ∃ a, a = tree l 11 0 := ⟨_, rfl⟩
  obtain ⟨b, hb⟩ : ∃ b, b = tree m 11 5 := ⟨_, rfl⟩
  have hga : good a := ha ▸ tree_good l 11 0 (by omega) (by omega)
  have hgb : good b := hb ▸ tree_good m 11 5 (by omega) (by omega)
  have hg := And.intro hga hgb
  have hla := pon_le hga
  have hlb := pon_le hgb
  have hA0 := (pon_whole a).pos
  have hB0 := (pon_whole b).pos
  have hsa := tree_size l 11 0 (by omega)
  rw [← ha] at hsa
  have hsb := tree_size m 11 5 (by omega)
  rw [← hb] at hsb
  refine enter (f := 4) Try.func4 rfl Try.ntmps4 rfl rfl fun w1 hw1 => ?_
  refine CW.seq fun K1 hK1 => ?_
  refine CW.region ?_
  refine RL.q (Y.assign rfl) rfl ?_
  refine RL.nil ?_
  refine hK1 _ _ _ ?_
  refine CW.keep (Keep.cons 0 rfl (Keep.cons 1 rfl (Keep.cons 2 rfl (Keep.cons 3 rfl (Keep.nil _))))) ?_
  refine CW.seq fun K2 hK2 => ?_
  refine CW.region ?_
  refine RL.q (Y.move rfl) rfl ?_
  refine RL.call rfl func11 rfl rfl (ha ▸ tree_ok _ _ _ l _ 11 0 (hl) hli (by omega) (by omega)) ?_
  rintro _ M21 Γ ⟨hs21, rfl, us21, rfl, hu21⟩
  have hul21 : us21.length = 15 := hu21.1.trans (Ex.enc_len _)
  refine RL.alloc _ zero31 rfl rfl fun b9 => ?_
  refine RL.storeAgg us21 rfl rfl (by repeat (first | exact Repl.here _ | apply Repl.there)) (by simp [hul21]) (by simp [hul21]) (fun _ _ => hu21.one) (by rw [hul21]; exact size31) ?_
  refine RL.nil ?_
  refine hK2 _ _ _ ?_
  refine CW.keep (Keep.cons 1 rfl (Keep.cons 2 rfl (Keep.cons 3 rfl (Keep.cons 9 rfl (Keep.nil _))))) ?_
  refine CW.seq fun K3 hK3 => ?_
  refine CW.region ?_
  refine RL.q (Y.move rfl) rfl ?_
  refine RL.call rfl func11 rfl rfl (hb ▸ tree_ok _ _ _ m _ 11 5 (Rd.mono hs21 _ _ hm) hmi (by omega) (by omega)) ?_
  rintro _ M23 Γ ⟨hs23, rfl, us23, rfl, hu23⟩
  have hul23 : us23.length = 15 := hu23.1.trans (Ex.enc_len _)
  refine RL.alloc _ zero31 rfl rfl fun b10 => ?_
  refine RL.storeAgg us23 rfl rfl (by repeat (first | exact Repl.here _ | apply Repl.there)) (by simp [hul23]) (by simp [hul23]) (fun _ _ => hu23.one) (by rw [hul23]; exact size31) ?_
  refine RL.nil ?_
  refine hK3 _ _ _ ?_
  refine CW.keep (Keep.cons 2 rfl (Keep.cons 3 rfl (Keep.cons 9 rfl (Keep.cons 10 rfl (Keep.nil _))))) ?_
  refine CW.seq fun K4 hK4 => ?_
  refine CW.region ?_
  refine RL.q (Y.loadAll rfl (by repeat (first | exact List.Mem.head _ | apply List.Mem.tail)) hul21 agg31) rfl ?_
  refine RL.q (Y.loadAll rfl (by repeat (first | exact List.Mem.head _ | apply List.Mem.tail)) hul23 agg31) rfl ?_
  refine RL.q (Y.move rfl) rfl ?_
  refine RL.call rfl func22 rfl rfl (pairs_ok _ _ _ a b us21 us23 k _ (hu21.mono hs23) hu23 hga hgb (Rd.mono (hs21.trans (hs23)) _ _ hk) hki) ?_
  rintro v27 M27 _ ⟨hs27, rfl, l0, hl0, hL0⟩
  obtain ⟨a11, c11, rfl, hc11, hlim11, _⟩ := hL0.slice
  refine RL.q (Y.assign rfl) rfl ?_
  refine RL.nil ?_
  refine hK4 _ _ _ ?_
  refine CW.keep (Keep.cons 3 rfl (Keep.cons 9 rfl (Keep.cons 10 rfl (Keep.cons 11 rfl (Keep.nil _))))) ?_
  refine CW.addRds (by have := hu23.mono hs27; rw [Ex.enc_eq] at this; exact this) ?_
  have hpost : ∀ n30, RdL M27 (l0.flatMap PairD.enc) n30 → RdL M27 ((l0 ++ [(⟨⟨0, 0, index⟩, b.id⟩ : PairD)]).flatMap PairD.enc) ([] ++ n30 ++ PairD.vals (⟨⟨0, 0, index⟩, b.id⟩ : PairD)) := fun n30 h => by rw [List.flatMap_append]; exact (by simpa using h : RdL M27 (l0.flatMap PairD.enc) ([] ++ n30)).append (by simpa using PairD.rd (⟨⟨0, 0, index⟩, b.id⟩ : PairD))
  refine CW.cut (fun L' M' Γ' => ∃ (a12 : Option Addr) (c12 : Nat) (us12 : List Value), Keep L' [(12, .slice a12 (0 + l0.length + 1) c12), (9, .pointer (some (adr (some ⟨b9, 0, none⟩) 0))), (10, .pointer (some (adr (some ⟨b10, 0, none⟩) 0))), (11, .slice a11 l0.length c11)] ∧ M' = M27 ∧ RdL M27 ((l0 ++ [(⟨⟨0, 0, index⟩, b.id⟩ : PairD)]).flatMap PairD.enc) us12 ∧ ∀ w, St w0 M' Γ' w → St w0 M27 (.acc (.slice a12 (0 + l0.length + 1) c12) 51 6 (0 + l0.length + 1) us12 :: .own b10 31 us23 :: .own b9 31 us21 :: Γ) w) ?_ ?_
  · refine CW.regionH mix _ [.rds _ us23, .own b10 31 us23] (fun _ hw => hw.sub (by repeat (first | exact List.Sublist.refl _ | exact List.nil_sublist _ | apply List.Sublist.cons_cons | apply List.Sublist.cons))) ?_
    refine HL.take 1 rfl (by kernel_rfl) (by kernel_rfl) (by kernel_rfl) rfl (Y.move rfl) rfl ?_
    refine HL.take 3 rfl (by kernel_rfl) (by kernel_rfl) (by kernel_rfl) rfl (Y.move rfl) rfl ?_
    refine HL.take 4 rfl (by kernel_rfl) (by kernel_rfl) (by kernel_rfl) rfl (Y.build [vint 0, vint 0, vint index] rfl zero24 places24 (by rfl)) rfl ?_
    refine HL.take 5 rfl (by kernel_rfl) (by kernel_rfl) (by kernel_rfl) rfl (Y.field rfl field31_0) rfl ?_
    refine HL.take 6 rfl (by kernel_rfl) (by kernel_rfl) (by kernel_rfl) rfl (Y.loadAggV b.id.vals rfl (by repeat (first | exact List.Mem.head _ | apply List.Mem.tail)) (by repeat (first | exact List.Mem.head _ | apply List.Mem.tail)) (by rfl) agg24) rfl ?_
    refine HL.take 7 rfl (by kernel_rfl) (by kernel_rfl) (by kernel_rfl) rfl (Y.build (PairD.vals (⟨⟨0, 0, index⟩, b.id⟩ : PairD)) rfl zero51 places51 (by rfl)) rfl ?_
    refine HL.step2 0 8 rfl rfl (by kernel_rfl) ?_ ?_
    · refine RL.buildSlice [] elem34 rfl (by decide) fill0 rfl fun b28 => ?_
      refine RL.nil ⟨keep_same (by repeat (first | exact List.Sublist.refl _ | exact List.nil_sublist _ | apply List.Sublist.cons_cons | apply List.Sublist.cons)), ?_⟩
      refine HL.step2 2 8 rfl rfl (by kernel_rfl) ?_ ?_
      · refine RL.ownAcc (b := b28) (k := 0) (e := 51) (sz := 6) (us := []) (by repeat (first | exact Pick.here _ | apply Pick.there)) rfl (by unfold maxLen; omega) ?_
        refine RL.addRd hL0 ?_
        refine RL.appendRd elem34 rfl rfl (by repeat (first | exact Pick.here _ | apply Pick.there)) (by repeat (first | exact List.Mem.head _ | apply List.Mem.tail)) (by first | omega | (unfold lim; omega)) (by first | omega | (unfold lim; omega)) rfl fun a30 c30 n30 hc30 hn30 => ?_
        refine RL.nil ⟨keep_same (by repeat (first | exact List.Sublist.refl _ | exact List.nil_sublist _ | apply List.Sublist.cons_cons | apply List.Sublist.cons)), ?_⟩
        refine HL.step 8 rfl (by kernel_rfl) ?_
        refine RL.buildSlice (PairD.vals (⟨⟨0, 0, index⟩, b.id⟩ : PairD)) elem34 rfl (by decide) (fill1 rfl rfl) rfl fun b36 => ?_
        refine RL.nil ⟨keep_same (by repeat (first | exact List.Sublist.refl _ | exact List.nil_sublist _ | apply List.Sublist.cons_cons | apply List.Sublist.cons)), ?_⟩
        refine HL.step 9 rfl (by kernel_rfl) ?_
        refine RL.append elem34 rfl rfl (by repeat (first | exact Pick.here _ | apply Pick.there)) (SrcOk.own (by repeat (first | exact List.Mem.head _ | apply List.Mem.tail)) (by rfl) (RdL.one (M := fun _ => none) (PairD.rd (⟨⟨0, 0, index⟩, b.id⟩ : PairD)))) (by first | omega | (unfold lim; omega)) (by first | omega | (unfold lim; omega)) rfl fun a37 c37 hc37 => ?_
        refine RL.nil ⟨keep_same (by repeat (first | exact List.Sublist.refl _ | exact List.nil_sublist _ | apply List.Sublist.cons_cons | apply List.Sublist.cons)), ?_⟩
        refine HL.take 10 rfl (by kernel_rfl) (by kernel_rfl) (by kernel_rfl) rfl (Y.assign rfl) rfl ?_
        refine HL.done (by kernel_rfl) ?_
        dsimp only [thenX]
        exact ⟨a37, c37, _, (by repeat (first | exact Keep.nil _ | refine Keep.cons _ rfl ?_)), rfl, hpost n30 hn30, fun _ hw => (hw.perm (Pick.perm (by repeat (first | exact Pick.here _ | apply Pick.there)))).sub (List.Sublist.cons_cons _ (by repeat (first | exact List.Sublist.refl _ | apply List.Sublist.cons_cons | apply List.Sublist.cons)))⟩
      · refine RL.buildSlice (PairD.vals (⟨⟨0, 0, index⟩, b.id⟩ : PairD)) elem34 rfl (by decide) (fill1 rfl rfl) rfl fun b36 => ?_
        refine RL.nil ⟨keep_same (by repeat (first | exact List.Sublist.refl _ | exact List.nil_sublist _ | apply List.Sublist.cons_cons | apply List.Sublist.cons)), ?_⟩
        refine HL.step 2 rfl (by kernel_rfl) ?_
        refine RL.ownAcc (b := b28) (k := 0) (e := 51) (sz := 6) (us := []) (by repeat (first | exact Pick.here _ | apply Pick.there)) rfl (by unfold maxLen; omega) ?_
        refine RL.addRd hL0 ?_
        refine RL.appendRd elem34 rfl rfl (by repeat (first | exact Pick.here _ | apply Pick.there)) (by repeat (first | exact List.Mem.head _ | apply List.Mem.tail)) (by first | omega | (unfold lim; omega)) (by first | omega | (unfold lim; omega)) rfl fun a30 c30 n30 hc30 hn30 => ?_
        refine RL.nil ⟨keep_same (by repeat (first | exact List.Sublist.refl _ | exact List.nil_sublist _ | apply List.Sublist.cons_cons | apply List.Sublist.cons)), ?_⟩
        refine HL.step 9 rfl (by kernel_rfl) ?_
        refine RL.append elem34 rfl rfl (by repeat (first | exact Pick.here _ | apply Pick.there)) (SrcOk.own (by repeat (first | exact List.Mem.head _ | apply List.Mem.tail)) (by rfl) (RdL.one (M := fun _ => none) (PairD.rd (⟨⟨0, 0, index⟩, b.id⟩ : PairD)))) (by first | omega | (unfold lim; omega)) (by first | omega | (unfold lim; omega)) rfl fun a37 c37 hc37 => ?_
        refine RL.nil ⟨keep_same (by repeat (first | exact List.Sublist.refl _ | exact List.nil_sublist _ | apply List.Sublist.cons_cons | apply List.Sublist.cons)), ?_⟩
        refine HL.take 10 rfl (by kernel_rfl) (by kernel_rfl) (by kernel_rfl) rfl (Y.assign rfl) rfl ?_
        refine HL.done (by kernel_rfl) ?_
        dsimp only [thenX]
        exact ⟨a37, c37, _, (by repeat (first | exact Keep.nil _ | refine Keep.cons _ rfl ?_)), rfl, hpost n30 hn30, fun _ hw => (hw.perm (Pick.perm (by repeat (first | exact Pick.here _ | apply Pick.there)))).sub (List.Sublist.cons_cons _ (by repeat (first | exact List.Sublist.refl _ | apply List.Sublist.cons_cons | apply List.Sublist.cons)))⟩
    · refine RL.buildSlice (PairD.vals (⟨⟨0, 0, index⟩, b.id⟩ : PairD)) elem34 rfl (by decide) (fill1 rfl rfl) rfl fun b36 => ?_
      refine RL.nil ⟨keep_same (by repeat (first | exact List.Sublist.refl _ | exact List.nil_sublist _ | apply List.Sublist.cons_cons | apply List.Sublist.cons)), ?_⟩
      refine HL.step 0 rfl (by kernel_rfl) ?_
      refine RL.buildSlice [] elem34 rfl (by decide) fill0 rfl fun b28 => ?_
      refine RL.nil ⟨keep_same (by repeat (first | exact List.Sublist.refl _ | exact List.nil_sublist _ | apply List.Sublist.cons_cons | apply List.Sublist.cons)), ?_⟩
      refine HL.step 2 rfl (by kernel_rfl) ?_
      refine RL.ownAcc (b := b28) (k := 0) (e := 51) (sz := 6) (us := []) (by repeat (first | exact Pick.here _ | apply Pick.there)) rfl (by unfold maxLen; omega) ?_
      refine RL.addRd hL0 ?_
      refine RL.appendRd elem34 rfl rfl (by repeat (first | exact Pick.here _ | apply Pick.there)) (by repeat (first | exact List.Mem.head _ | apply List.Mem.tail)) (by first | omega | (unfold lim; omega)) (by first | omega | (unfold lim; omega)) rfl fun a30 c30 n30 hc30 hn30 => ?_
      refine RL.nil ⟨keep_same (by repeat (first | exact List.Sublist.refl _ | exact List.nil_sublist _ | apply List.Sublist.cons_cons | apply List.Sublist.cons)), ?_⟩
      refine HL.step 9 rfl (by kernel_rfl) ?_
      refine RL.append elem34 rfl rfl (by repeat (first | exact Pick.here _ | apply Pick.there)) (SrcOk.own (by repeat (first | exact List.Mem.head _ | apply List.Mem.tail)) (by rfl) (RdL.one (M := fun _ => none) (PairD.rd (⟨⟨0, 0, index⟩, b.id⟩ : PairD)))) (by first | omega | (unfold lim; omega)) (by first | omega | (unfold lim; omega)) rfl fun a37 c37 hc37 => ?_
      refine RL.nil ⟨keep_same (by repeat (first | exact List.Sublist.refl _ | exact List.nil_sublist _ | apply List.Sublist.cons_cons | apply List.Sublist.cons)), ?_⟩
      refine HL.take 10 rfl (by kernel_rfl) (by kernel_rfl) (by kernel_rfl) rfl (Y.assign rfl) rfl ?_
      refine HL.done (by kernel_rfl) ?_
      dsimp only [thenX]
      exact ⟨a37, c37, _, (by repeat (first | exact Keep.nil _ | refine Keep.cons _ rfl ?_)), rfl, hpost n30 hn30, fun _ hw => (hw.perm (Pick.perm (by repeat (first | exact Pick.here _ | apply Pick.there)))).sub (List.Sublist.cons_cons _ (by repeat (first | exact List.Sublist.refl _ | apply List.Sublist.cons_cons | apply List.Sublist.cons)))⟩
  · rintro _ M27 Γ4 ⟨a12, c12, us12, hk4, rfl, hus12, hG4⟩
    refine CW.pre ?_ hk4 hG4
    rw [show (0 + l0.length + 1) = (l0 ++ [(⟨⟨0, 0, index⟩, b.id⟩ : PairD)]).length from by rw [List.length_append, Nat.zero_add]; rfl]
    refine CW.sealAcc (by repeat (first | exact Pick.here _ | apply Pick.there)) hus12 (by rw [List.length_append]; unfold lim; simp; omega) ?_
    intro M4 a9 c9 hs4 h9 hc9 hN4
    cases h9
    have hL4 := Rd.mono hs4 _ _ hL0
    refine CW.drop (List.Sublist.cons _ (List.Sublist.refl _)) ?_
    refine CW.seq fun K5 hK5 => ?_
    refine CW.region ?_
    refine RL.buildSlice [] elem34 rfl (by decide) fill0 rfl fun b38 => ?_
    refine RL.q (Y.move rfl) rfl ?_
    refine RL.ownAcc (b := b38) (k := 0) (e := 51) (sz := 6) (us := []) (by repeat (first | exact Pick.here _ | apply Pick.there)) rfl (by unfold maxLen; omega) ?_
    refine RL.addRd hL4 ?_
    refine RL.appendRd elem34 rfl rfl (by repeat (first | exact Pick.here _ | apply Pick.there)) (by repeat (first | exact List.Mem.head _ | apply List.Mem.tail)) (by first | omega | (unfold lim; omega)) (by first | omega | (unfold lim; omega)) rfl fun a40 c40 n40 hc40 hn40 => ?_
    refine RL.q (Y.move rfl) rfl ?_
    refine RL.appendRd elem34 rfl rfl (by repeat (first | exact Pick.here _ | apply Pick.there)) (by repeat (first | exact List.Mem.head _ | apply List.Mem.tail)) (by first | omega | (unfold lim; omega)) (by first | omega | (unfold lim; omega)) rfl fun a42 c42 n42 hc42 hn42 => ?_
    refine RL.q (Y.assign rfl) rfl ?_
    refine RL.nil ?_
    refine hK5 _ _ _ ?_
    refine CW.keep (Keep.cons 9 rfl (Keep.cons 10 rfl (Keep.cons 11 rfl (Keep.cons 12 rfl (Keep.cons 13 rfl (Keep.nil _)))))) ?_
    rw [show (0 + l0.length + l0.length) = (l0 ++ l0).length from by rw [List.length_append, Nat.zero_add]]
    refine CW.sealAcc (ds := (l0 ++ l0).flatMap PairD.enc) (by repeat (first | exact Pick.here _ | apply Pick.there)) (by rw [List.flatMap_append]; exact RdL.append (by simpa using hn40) hn42) (by rw [List.length_append]; unfold lim; omega) ?_
    intro M5 a13 c13 hs5 h9 hc9 hT5
    cases h9
    refine CW.seq fun K6 hK6 => ?_
    refine CW.addRds (by have := hu23.mono (hs27.trans (hs4.trans (hs5))); rw [Ex.enc_eq] at this; exact this) ?_
    refine CW.addRds (by have := hu21.mono (hs23.trans (hs27.trans (hs4.trans (hs5)))); rw [Ex.enc_eq] at this; exact this) ?_
    refine CW.region ?_
    refine RL.q (Y.move rfl) rfl ?_
    refine RL.q (Y.move rfl) rfl ?_
    refine RL.q (Y.move rfl) rfl ?_
    refine RL.q (Y.field rfl field31_0) rfl ?_
    refine RL.q (Y.loadAggV a.id.vals rfl (by repeat (first | exact List.Mem.head _ | apply List.Mem.tail)) (by repeat (first | exact List.Mem.head _ | apply List.Mem.tail)) (by rfl) agg24) rfl ?_
    refine RL.q (Y.field rfl field31_0) rfl ?_
    refine RL.q (Y.loadAggV b.id.vals rfl (by repeat (first | exact List.Mem.head _ | apply List.Mem.tail)) (by repeat (first | exact List.Mem.head _ | apply List.Mem.tail)) (by rfl) agg24) rfl ?_
    refine RL.q (Y.build (PairD.vals ⟨a.id, b.id⟩) rfl zero51 places51 (by rfl)) rfl ?_
    refine RL.buildSlice (PairD.vals ⟨a.id, b.id⟩) elem34 rfl (by decide) (fill1 rfl rfl) rfl fun b51 => ?_
    refine RL.q (Y.field rfl field31_0) rfl ?_
    refine RL.q (Y.loadAggV b.id.vals rfl (by repeat (first | exact List.Mem.head _ | apply List.Mem.tail)) (by repeat (first | exact List.Mem.head _ | apply List.Mem.tail)) (by rfl) agg24) rfl ?_
    refine RL.q (Y.field rfl field31_0) rfl ?_
    refine RL.q (Y.loadAggV a.id.vals rfl (by repeat (first | exact List.Mem.head _ | apply List.Mem.tail)) (by repeat (first | exact List.Mem.head _ | apply List.Mem.tail)) (by rfl) agg24) rfl ?_
    refine RL.q (Y.build (PairD.vals ⟨b.id, a.id⟩) rfl zero51 places51 (by rfl)) rfl ?_
    refine RL.buildSlice (PairD.vals ⟨b.id, a.id⟩) elem34 rfl (by decide) (fill1 rfl rfl) rfl fun b57 => ?_
    refine RL.buildSlice [.slice a11 l0.length c11, .slice a12 (l0 ++ [(⟨⟨0, 0, index⟩, b.id⟩ : PairD)]).length c12, .slice a42 (l0 ++ l0).length c42, .slice none 0 0, .slice (some ⟨b51, 0, none⟩) 1 1, .slice (some ⟨b57, 0, none⟩) 1 1] elem56 rfl (by decide) (fun zs hz => by obtain ⟨z1, z2, z3, z4, z5, z6, rfl⟩ := six hz; rfl) rfl fun b58 => ?_
    refine RL.q (Y.assign rfl) rfl ?_
    refine RL.nil ?_
    refine hK6 _ _ _ ?_
    refine CW.keep (Keep.cons 9 rfl (Keep.cons 10 rfl (Keep.cons 14 rfl (Keep.nil _)))) ?_
    refine CW.sealOwn (b := b51) (k := 1) (sz := 6) (ds := ([⟨a.id, b.id⟩] : List PairD).flatMap PairD.enc) (by repeat (first | exact Pick.here _ | apply Pick.there)) (by rw [List.flatMap_cons, List.flatMap_nil, List.append_nil]; exact PairD.rd _) rfl (by unfold lim; omega) fun M6 hs6 hx51 => ?_
    refine CW.sealOwn (b := b57) (k := 1) (sz := 6) (ds := ([⟨b.id, a.id⟩] : List PairD).flatMap PairD.enc) (by repeat (first | exact Pick.here _ | apply Pick.there)) (by rw [List.flatMap_cons, List.flatMap_nil, List.append_nil]; exact PairD.rd _) rfl (by unfold lim; omega) fun M7 hs7 hx57 => ?_
    obtain ⟨ls, hls⟩ : ∃ ls : List (List PairD), ls = [l0, l0 ++ [(⟨⟨0, 0, index⟩, b.id⟩ : PairD)], l0 ++ l0, [], [⟨a.id, b.id⟩], [⟨b.id, a.id⟩]] := ⟨_, rfl⟩
    have hlsn : ls.length = 6 := by rw [hls]; rfl
    have hlsl : ∀ x ∈ ls, x.length ≤ 1000 := by rw [hls]; intro x hx; simp only [List.mem_cons, List.not_mem_nil, or_false] at hx; rcases hx with rfl | rfl | rfl | rfl | rfl | rfl <;> (try simp only [List.length_append, List.length_cons, List.length_nil]) <;> omega
    refine CW.sealOwn (b := b58) (k := 6) (sz := 1) (ds := ls.map PairD.encs) (by repeat (first | exact Pick.here _ | apply Pick.there)) (by rw [hls]; exact RdL.cons (Rd.mono (hs4.trans (hs5.trans (hs6.trans (hs7)))) _ _ hL0) (RdL.cons (Rd.mono (hs5.trans (hs6.trans (hs7))) _ _ hN4) (RdL.cons (Rd.mono (hs6.trans (hs7)) _ _ hT5) (RdL.cons Rd.nilS (RdL.cons (Rd.mono hs7 _ _ hx51) (RdL.cons hx57 (RdL.nil _))))))) rfl (by unfold lim; omega) fun M8 hs8 hx58 => ?_
    have hlsR : Rd M8 (dlists ls) (.slice (some ⟨b58, 0, none⟩) 6 6) := by unfold dlists; rw [hlsn]; exact hx58
    have hsA := (hs23.trans (hs27.trans (hs4.trans (hs5.trans (hs6.trans (hs7.trans (hs8)))))))
    have hsB := (hs27.trans (hs4.trans (hs5.trans (hs6.trans (hs7.trans (hs8))))))
    refine CW.seq fun K7 hK7 => ?_
    refine CW.seq fun K8 hK8 => ?_
    refine CW.region ?_
    refine RL.q (Y.assign rfl) rfl ?_
    refine RL.nil ?_
    refine hK8 _ _ _ ?_
    refine CW.keep (Keep.cons 9 rfl (Keep.cons 10 rfl (Keep.cons 14 rfl (Keep.cons 15 rfl (Keep.nil _))))) ?_
    refine CW.block ?_
    -- LOOP 1: live [9, 10, 14, 15] changed [15]
    refine CW.keep (Keep.cons 15 rfl (Keep.cons 9 rfl (Keep.cons 10 rfl (Keep.cons 14 rfl (Keep.nil _))))) ?_
    refine CW.drop (Γ' := .own b10 31 us23 :: .own b9 31 us21 :: Γ) (by repeat (first | exact List.Sublist.refl _ | apply List.Sublist.cons_cons | apply List.Sublist.cons)) ?_
    refine CW.loopF (fun mm Lc M9 Γc => ∃ i : Nat, mm = 6 - i ∧ i ≤ 6 ∧ Lc = [(15, vint i)] ∧ Γc = []) 6 [(15, _)] [] rfl rfl ⟨0, rfl, Nat.zero_le _, rfl, rfl⟩ ?_
    rintro mm Lc M9 Γc hsub ⟨i, rfl, hi, rfl, rfl⟩
    refine CW.seq fun K9 hK9 => ?_
    refine CW.seq fun K10 hK10 => ?_
    refine CW.region ?_
    refine RL.q (Y.move rfl) rfl ?_
    refine RL.q (Y.move rfl) rfl ?_
    refine RL.q (Y.len rfl Try.underlying56) rfl ?_
    refine RL.q (Y.lss rfl rfl) rfl ?_
    refine RL.nil ?_
    refine hK10 _ _ _ ?_
    refine CW.keep (Keep.cons 9 rfl (Keep.cons 10 rfl (Keep.cons 14 rfl (Keep.cons 15 rfl (Keep.cons 62 rfl (Keep.nil _)))))) ?_
    refine CW.ite rfl (fun h1 => ?_) (fun h1 => ?_)
    · refine CW.skip ?_
      refine hK9 _ _ _ ?_
      refine CW.seq fun K11 hK11 => ?_
      refine CW.block ?_
      refine CW.seq fun K12 hK12 => ?_
      have hil : i < ls.length := by omega
      obtain ⟨uL, hcL, hrL⟩ := (Rd.mono hsub _ _ hlsR).cell (q := i * 1) (dl_get hil)
      obtain ⟨aL, cL, hLe, hcL1, _, _⟩ := hrL.slice
      refine CW.regionQ mix (by kernel_rfl) ?_
      refine QL.q (Y.loadAll rfl (by repeat (first | exact List.Mem.head _ | apply List.Mem.tail)) hul21 agg31) rfl ?_
      refine QL.q (Y.loadAll rfl (by repeat (first | exact List.Mem.head _ | apply List.Mem.tail)) hul23 agg31) rfl ?_
      refine QL.q (Y.move rfl) rfl ?_
      refine QL.q (Y.move rfl) rfl ?_
      refine QL.q (Y.indexP i rfl rfl rfl (by omega) slice56 (Rd.mono hsub _ _ hlsR)) rfl ?_
      refine QL.q (Y.loadC rfl hcL flat34) rfl ?_
      refine QL.callv rfl func23 rfl rfl (fun _ _ => mCost_ok _ _ _ a b us21 us23 ls[i] _ (hu21.mono (hsA.trans (hsub))) (hu23.mono (hsB.trans (hsub))) hrL (by have := hlsl _ (List.getElem_mem hil); omega)) ?_
      refine QL.q (Y.move rfl) rfl ?_
      refine QL.q (Y.extract rfl rfl) rfl ?_
      refine QL.q (Y.extract rfl rfl) rfl ?_
      refine QL.q (Y.assign rfl) rfl ?_
      refine QL.q (Y.assign rfl) rfl ?_
      refine QL.nil ?_
      refine hK12 _ _ _ ?_
      refine CW.keep (Keep.cons 9 rfl (Keep.cons 10 rfl (Keep.cons 14 rfl (Keep.cons 15 rfl (Keep.cons 16 rfl (Keep.cons 17 rfl (Keep.nil _))))))) ?_
      refine CW.seq fun K13 hK13 => ?_
      refine CW.regionH mix _ [.own b10 31 us23, .own b9 31 us21] (fun _ hw => hw.sub (by repeat (first | exact List.Sublist.refl _ | exact List.nil_sublist _ | apply List.Sublist.cons_cons | apply List.Sublist.cons))) ?_
      refine HL.take 0 rfl (by kernel_rfl) (by kernel_rfl) (by kernel_rfl) rfl (Y.loadAll rfl (by repeat (first | exact List.Mem.head _ | apply List.Mem.tail)) hul21 agg31) rfl ?_
      refine HL.take 1 rfl (by kernel_rfl) (by kernel_rfl) (by kernel_rfl) rfl (Y.loadAll rfl (by repeat (first | exact List.Mem.head _ | apply List.Mem.tail)) hul23 agg31) rfl ?_
      refine HL.take 2 rfl (by kernel_rfl) (by kernel_rfl) (by kernel_rfl) rfl (Y.move rfl) rfl ?_
      refine HL.take 3 rfl (by kernel_rfl) (by kernel_rfl) (by kernel_rfl) rfl (Y.move rfl) rfl ?_
      refine HL.take 4 rfl (by kernel_rfl) (by kernel_rfl) (by kernel_rfl) rfl (Y.indexP i rfl rfl rfl (by omega) slice56 (Rd.mono hsub _ _ hlsR)) rfl ?_
      refine HL.take 5 rfl (by kernel_rfl) (by kernel_rfl) (by kernel_rfl) rfl (Y.loadC rfl hcL flat34) rfl ?_
      refine HL.step 6 rfl (by kernel_rfl) ?_
      refine RL.call rfl func16 rfl rfl (plain_ok _ _ _ ls[i] _ hrL (by have := hlsl _ (List.getElem_mem hil); omega)) ?_
      rintro v82 M82 _ ⟨hs82, rfl, h82⟩
      refine RL.nil ⟨keep_more hs82 (by repeat (first | exact List.Sublist.refl _ | exact List.nil_sublist _ | apply List.Sublist.cons_cons | apply List.Sublist.cons)), ?_⟩
      refine HL.step 7 rfl (by kernel_rfl) ?_
      refine RL.call rfl func15 rfl rfl (rcost_ok _ _ _ a b us21 us23 ls[i] _ (hu21.mono (hsA.trans (hsub.trans (hs82)))) (hu23.mono (hsB.trans (hsub.trans (hs82)))) h82 (by have := hlsl _ (List.getElem_mem hil); omega)) ?_
      rintro _ M82 _ ⟨rfl, rfl, rfl⟩
      refine RL.nil ⟨keep_more hs82 (by repeat (first | exact List.Sublist.refl _ | exact List.nil_sublist _ | apply List.Sublist.cons_cons | apply List.Sublist.cons)), ?_⟩
      refine HL.take 8 rfl (by kernel_rfl) (by kernel_rfl) (by kernel_rfl) rfl (Y.move rfl) rfl ?_
      refine HL.take 9 rfl (by kernel_rfl) (by kernel_rfl) (by kernel_rfl) rfl (Y.extract rfl rfl) rfl ?_
      refine HL.take 10 rfl (by kernel_rfl) (by kernel_rfl) (by kernel_rfl) rfl (Y.extract rfl rfl) rfl ?_
      refine HL.take 11 rfl (by kernel_rfl) (by kernel_rfl) (by kernel_rfl) rfl (Y.assign rfl) rfl ?_
      refine HL.take 12 rfl (by kernel_rfl) (by kernel_rfl) (by kernel_rfl) rfl (Y.assign rfl) rfl ?_
      refine HL.done (by kernel_rfl) ?_
      refine hK13 _ _ _ ?_
      refine CW.keep (Keep.cons 9 rfl (Keep.cons 10 rfl (Keep.cons 14 rfl (Keep.cons 15 rfl (Keep.cons 16 rfl (Keep.cons 17 rfl (Keep.cons 18 rfl (Keep.cons 19 rfl (Keep.nil _))))))))) ?_
      rw [rcost_good hg ls[i]]
      refine CW.seq fun K14 hK14 => ?_
      refine CW.region ?_
      refine RL.q (Y.move rfl) rfl ?_
      refine RL.q (Y.move rfl) rfl ?_
      refine RL.qs (Y.neq rfl rfl) rfl (fun g88 => ?_) (fun g88 => ?_)
      · refine RL.q (Y.move rfl) rfl ?_
        refine RL.no ⟨_, _, rfl, rfl, rfl⟩ rfl ?_
        refine RL.no ⟨_, _, rfl, rfl, rfl⟩ rfl ?_
        refine RL.no ⟨_, _, rfl, rfl, rfl⟩ rfl ?_
        refine RL.q (Y.pickT rfl rfl) rfl ?_
        refine RL.nil ?_
        refine hK14 _ _ _ ?_
        refine CW.keep (Keep.cons 9 rfl (Keep.cons 10 rfl (Keep.cons 14 rfl (Keep.cons 15 rfl (Keep.cons 93 rfl (Keep.nil _)))))) ?_
        refine CW.yes rfl ?_
        refine CW.seq fun K15 hK15 => ?_
        refine CW.region ?_
        refine RL.q (Y.assign rfl) rfl ?_
        refine RL.nil ?_
        refine hK15 _ _ _ ?_
        refine CW.keep (Keep.cons 8 rfl (Keep.nil _)) ?_
        refine CW.ret ?_
        exact absurd rfl g88
      · refine RL.q (Y.move rfl) rfl ?_
        refine RL.qg ⟨_, _, rfl, rfl, rfl⟩ (Y.move rfl) rfl ?_
        refine RL.qg ⟨_, _, rfl, rfl, rfl⟩ (Y.move rfl) rfl ?_
        refine RL.qg ⟨_, _, rfl, rfl, rfl⟩ (Y.neq rfl rfl) rfl ?_
        refine RL.q (Y.pickF rfl rfl) rfl ?_
        refine RL.nil ?_
        refine hK14 _ _ _ ?_
        refine CW.keep (Keep.cons 9 rfl (Keep.cons 10 rfl (Keep.cons 14 rfl (Keep.cons 15 rfl (Keep.cons 93 rfl (Keep.nil _)))))) ?_
        refine CW.ite rfl (fun h3 => ?_) (fun h3 => ?_)
        · refine CW.seq fun K16 hK16 => ?_
          refine CW.region ?_
          refine RL.q (Y.assign rfl) rfl ?_
          refine RL.nil ?_
          refine hK16 _ _ _ ?_
          refine CW.keep (Keep.cons 8 rfl (Keep.nil _)) ?_
          refine CW.ret ?_
          exact absurd rfl h3
        · refine CW.skip ?_
          refine hK11 _ _ _ ?_
          refine CW.region ?_
          refine RL.q (Y.move rfl) rfl ?_
          refine RL.q (Y.add rfl rfl (by omega)) rfl ?_
          refine RL.q (Y.assign rfl) rfl ?_
          refine RL.nil ?_
          refine ⟨6 - (i + 1), [(15, _)], ?_, (Keep.cons 15 rfl (Keep.cons 9 rfl (Keep.cons 10 rfl (Keep.cons 14 rfl (Keep.nil _))))), ?_⟩
          · omega
          · exact Turn.drop ⟨[], rfl, hsub.trans hs82, i + 1, rfl, by omega, rfl, rfl⟩ (by repeat (first | exact List.Sublist.refl _ | apply List.Sublist.cons_cons | apply List.Sublist.cons))
    · refine CW.exit ?_
      refine hK7 _ _ _ ?_
      refine CW.seq fun K17 hK17 => ?_
      refine CW.region ?_
      refine RL.callv rfl func21 rfl rfl (lives_ok _ _ _) ?_
      refine RL.q (Y.assign rfl) rfl ?_
      refine RL.nil ?_
      refine hK17 _ _ _ ?_
      refine CW.keep (Keep.cons 8 rfl (Keep.nil _)) ?_
      refine CW.ret ?_
      refine ⟨_, rfl, ?_⟩
      exact Turn.back hw1 (hs21.trans (hsA.trans (hsub))) ⟨rfl, rfl, rfl⟩ (by repeat (first | exact List.Sublist.refl _ | apply List.Sublist.cons_cons | apply List.Sublist.cons))
end Go.Proofs.Ytjkcjbicleohkaa
