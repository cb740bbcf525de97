/- THE WALKS, law 3: MatchChecks. Printed by m16L3.py. -/
import Derived.Test.YtjkcjbicleohkaaWv
import Derived.Test.YtjkcjbicleohkaaTree
import Derived.Test.YtjkcjbicleohkaaXeN
import Derived.Test.YtjkcjbicleohkaaWL2
namespace Go.Proofs.Ytjkcjbicleohkaa
open Xe

theorem even_of {a b : List MNode} {d : List (List Int)} (h : FixD a b d) (ha : 0 < a.length) (hb : 0 < b.length) : evenT d := by
  have hl := h.ok.len
  refine ⟨fun e => by rw [e] at hl; simp at hl; omega, fun r hr => ?_⟩
  have h1 := h.ok.row r hr
  cases d with
  | nil => simp at hr
  | cons x xs =>
    have h2 := h.ok.row x (List.mem_cons_self ..)
    show r.length = x.length ∧ r.length ≠ 0
    omega
theorem checkB_ok (w0 : World) (M : Mem) (Γ : List As) (a b : Ex) (us vs : List Value) (l : List PairD) (ul : Value) (n : Int) (d : List (List Int)) (ud : Value) (hv1 : RdL M a.enc us) (hv2 : RdL M b.enc vs) (hl : Rd M (PairD.encs l) ul) (hll : l.length ≤ 1000) (hd : Rd M (dtab d) ud) (hg : good a ∧ good b) (hc : CheckP a b l n d) :
    CallOk Try.prog w0 M Γ 25 #[.agg us.toArray, .agg vs.toArray, ul, vint n, ud] (Is M Γ (vint 0)) := by
  have h := mCheck_ok w0 M Γ a b us vs l ul n d ud hv1 hv2 hl hll hd
  rw [CheckR_yes hg hc] at h
  exact h
theorem three {zs : List Value} (h : zs.length = 3 * 1) : ∃ a b c, zs = [a, b, c] := by
  match zs, h with
  | [a, b, c], _ => exact ⟨a, b, c, rfl⟩
theorem rows_at {l : List RowT} {d : List (List Int)} (h : l.map (·.2) = d) {k : Nat} (hk : k < d.length) : ∃ p, l[k]? = some p ∧ d[k]? = some p.2 := by
  subst h
  have hk' : k < l.length := by simpa using hk
  exact ⟨l[k], List.getElem?_eq_getElem hk', by simp [hk']⟩

set_option maxHeartbeats 4000000 in
theorem MatchChecks_ok (w0 : World) (M : Mem) (Γ : List As) (l m k : List Int) (at0 how by0 : Int) (ul um uk : Value) (hl : Rd M (dints l) ul) (hm : Rd M (dints m) um) (hk : Rd M (dints k) uk) (hli : ∀ x ∈ l, InI x) (hmi : ∀ x ∈ m, InI x) (hki : ∀ x ∈ k, InI x) (hai : InI at0) (hhi : InI how) (hbi : InI by0) :
    CallOk Try.prog w0 M Γ 5 #[ul, um, uk, vint at0, vint how, vint by0] (Is M Γ (.bool true)) := by
  obtain ⟨a, ha⟩ : ∃ a, a = tree l 9 0 := ⟨_, rfl⟩
  obtain ⟨b, hb⟩ : ∃ b, b = tree m 9 3 := ⟨_, rfl⟩
  have hga : good a := ha ▸ tree_good l 9 0 (by omega) (by omega)
  have hgb : good b := hb ▸ tree_good m 9 3 (by omega) (by omega)
  have hg := And.intro hga hgb
  have hla := pon_le hga
  have hlb := pon_le hgb
  have hA0 := (pon_whole a).pos
  have hB0 := (pon_whole b).pos
  have hsa := tree_size l 9 0 (by omega)
  rw [← ha] at hsa
  have hsb := tree_size m 9 3 (by omega)
  rw [← hb] at hsb
  refine enter (f := 5) Try.func5 rfl Try.ntmps5 rfl rfl fun w1 hw1 => ?_
  refine CW.seq fun K1 hK1 => ?_
  refine CW.region ?_
  refine RL.q (Y.assign rfl) rfl ?_
  refine RL.nil ?_
  refine hK1 _ _ _ ?_
  refine CW.keep (Keep.cons 0 rfl (Keep.cons 1 rfl (Keep.cons 2 rfl (Keep.cons 3 rfl (Keep.cons 4 rfl (Keep.cons 5 rfl (Keep.nil _))))))) ?_
  refine CW.seq fun K2 hK2 => ?_
  refine CW.region ?_
  refine RL.q (Y.move rfl) rfl ?_
  refine RL.call rfl func11 rfl rfl (ha ▸ tree_ok _ _ _ l _ 9 0 (hl) hli (by omega) (by omega)) ?_
  rintro _ M26 Γ ⟨hs26, rfl, us26, rfl, hu26⟩
  have hul26 : us26.length = 15 := hu26.1.trans (Ex.enc_len _)
  refine RL.alloc _ zero31 rfl rfl fun b13 => ?_
  refine RL.storeAgg us26 rfl rfl (by repeat (first | exact Repl.here _ | apply Repl.there)) (by simp [hul26]) (by simp [hul26]) (fun _ _ => hu26.one) (by rw [hul26]; exact size31) ?_
  refine RL.nil ?_
  refine hK2 _ _ _ ?_
  refine CW.keep (Keep.cons 1 rfl (Keep.cons 2 rfl (Keep.cons 3 rfl (Keep.cons 4 rfl (Keep.cons 5 rfl (Keep.cons 13 rfl (Keep.nil _))))))) ?_
  refine CW.seq fun K3 hK3 => ?_
  refine CW.region ?_
  refine RL.q (Y.move rfl) rfl ?_
  refine RL.call rfl func11 rfl rfl (hb ▸ tree_ok _ _ _ m _ 9 3 (Rd.mono hs26 _ _ hm) hmi (by omega) (by omega)) ?_
  rintro _ M28 Γ ⟨hs28, rfl, us28, rfl, hu28⟩
  have hul28 : us28.length = 15 := hu28.1.trans (Ex.enc_len _)
  refine RL.alloc _ zero31 rfl rfl fun b14 => ?_
  refine RL.storeAgg us28 rfl rfl (by repeat (first | exact Repl.here _ | apply Repl.there)) (by simp [hul28]) (by simp [hul28]) (fun _ _ => hu28.one) (by rw [hul28]; exact size31) ?_
  refine RL.nil ?_
  refine hK3 _ _ _ ?_
  refine CW.keep (Keep.cons 2 rfl (Keep.cons 3 rfl (Keep.cons 4 rfl (Keep.cons 5 rfl (Keep.cons 13 rfl (Keep.cons 14 rfl (Keep.nil _))))))) ?_
  refine CW.seq fun K4 hK4 => ?_
  refine CW.region ?_
  refine RL.q (Y.loadAll rfl (by repeat (first | exact List.Mem.head _ | apply List.Mem.tail)) hul26 agg31) rfl ?_
  refine RL.q (Y.loadAll rfl (by repeat (first | exact List.Mem.head _ | apply List.Mem.tail)) hul28 agg31) rfl ?_
  refine RL.call rfl func13 rfl rfl (match_ok _ _ _ a b us26 us28 (hu26.mono hs28) (hu28)) ?_
  rintro v32 M32 _ ⟨hs32, rfl, hR⟩
  obtain ⟨d, n, Q, up, ud, rfl, hbest, hup, hud⟩ := hR.1 hg
  obtain ⟨ap, cp, rfl, hcp, hlimp, _⟩ := hup.slice
  obtain ⟨ad, cd, rfl, hcd, _, _⟩ := hud.slice
  have hQl := hbest.mt.len
  have hdl := hbest.fix.ok.len
  refine RL.q (Y.move rfl) rfl ?_
  refine RL.q (Y.extract rfl rfl) rfl ?_
  refine RL.q (Y.extract rfl rfl) rfl ?_
  refine RL.q (Y.extract rfl rfl) rfl ?_
  refine RL.q (Y.assign rfl) rfl ?_
  refine RL.q (Y.assign rfl) rfl ?_
  refine RL.q (Y.assign rfl) rfl ?_
  refine RL.nil ?_
  refine hK4 _ _ _ ?_
  refine CW.keep (Keep.cons 2 rfl (Keep.cons 3 rfl (Keep.cons 4 rfl (Keep.cons 5 rfl (Keep.cons 13 rfl (Keep.cons 14 rfl (Keep.cons 15 rfl (Keep.cons 16 rfl (Keep.cons 17 rfl (Keep.nil _)))))))))) ?_
  refine CW.seq fun K5 hK5 => ?_
  refine CW.seq fun K6 hK6 => ?_
  refine CW.region ?_
  refine RL.q (Y.move rfl) rfl ?_
  refine RL.callv rfl func24 rfl rfl (even_ok _ _ _ d _ hud) ?_
  refine RL.q (Y.notD rfl) rfl ?_
  refine RL.nil ?_
  refine hK6 _ _ _ ?_
  refine CW.keep (Keep.cons 2 rfl (Keep.cons 3 rfl (Keep.cons 4 rfl (Keep.cons 5 rfl (Keep.cons 13 rfl (Keep.cons 14 rfl (Keep.cons 15 rfl (Keep.cons 16 rfl (Keep.cons 17 rfl (Keep.cons 38 rfl (Keep.nil _))))))))))) ?_
  refine CW.ite rfl (fun h1 => ?_) (fun h1 => ?_)
  · refine CW.seq fun K7 hK7 => ?_
    refine CW.region ?_
    refine RL.q (Y.assign rfl) rfl ?_
    refine RL.nil ?_
    refine hK7 _ _ _ ?_
    refine CW.keep (Keep.cons 12 rfl (Keep.nil _)) ?_
    refine CW.ret ?_
    exact absurd (even_of hbest.fix hA0 hB0) h1
  · refine CW.skip ?_
    refine hK5 _ _ _ ?_
    refine CW.seq fun K8 hK8 => ?_
    refine CW.region ?_
    refine RL.q (Y.move rfl) rfl ?_
    refine RL.q (Y.loadAll rfl (by repeat (first | exact List.Mem.head _ | apply List.Mem.tail)) hul26 agg31) rfl ?_
    refine RL.q (Y.loadAll rfl (by repeat (first | exact List.Mem.head _ | apply List.Mem.tail)) hul28 agg31) rfl ?_
    refine RL.q (Y.move rfl) rfl ?_
    refine RL.call rfl func22 rfl rfl (pairs_ok _ _ _ a b us26 us28 k _ (hu26.mono (hs28.trans (hs32))) (hu28.mono hs32) hga hgb (Rd.mono (hs26.trans (hs28.trans (hs32))) _ _ hk) hki) ?_
    rintro v43 M43 _ ⟨hs43, rfl, l0, hl0, hL0⟩
    obtain ⟨a43, c43, rfl, hc43, _, _⟩ := hL0.slice
    refine RL.q (Y.move rfl) rfl ?_
    refine RL.buildSlice [.slice ap (Q.map (pairOf (pon a 0) (pon b 0))).length cp, .slice a43 l0.length c43, .slice ap (Q.map (pairOf (pon a 0) (pon b 0))).length cp] elem56 rfl (by decide) (fun zs hz => by obtain ⟨z1, z2, z3, rfl⟩ := three hz; rfl) rfl fun b45 => ?_
    refine RL.q (Y.assign rfl) rfl ?_
    refine RL.nil ?_
    refine hK8 _ _ _ ?_
    refine CW.keep (Keep.cons 3 rfl (Keep.cons 4 rfl (Keep.cons 5 rfl (Keep.cons 13 rfl (Keep.cons 14 rfl (Keep.cons 15 rfl (Keep.cons 16 rfl (Keep.cons 17 rfl (Keep.cons 18 rfl (Keep.nil _)))))))))) ?_
    obtain ⟨ls, hls⟩ : ∃ ls : List (List PairD), ls = [(Q.map (pairOf (pon a 0) (pon b 0))), l0, (Q.map (pairOf (pon a 0) (pon b 0)))] := ⟨_, rfl⟩
    have hlsn : ls.length = 3 := by rw [hls]; rfl
    have hlsl : ∀ x ∈ ls, x.length ≤ 1000 := by rw [hls]; intro x hx; simp only [List.mem_cons, List.not_mem_nil, or_false] at hx; rcases hx with rfl | rfl | rfl <;> (try simp only [List.length_map]) <;> omega
    refine CW.sealOwn (b := b45) (k := 3) (sz := 1) (ds := ls.map PairD.encs) (by repeat (first | exact Pick.here _ | apply Pick.there)) (by rw [hls]; exact RdL.cons (Rd.mono hs43 _ _ hup) (RdL.cons hL0 (RdL.cons (Rd.mono hs43 _ _ hup) (RdL.nil _)))) rfl (by unfold lim; omega) fun M8 hs8 hx45 => ?_
    have hlsR : Rd M8 (dlists ls) (.slice (some ⟨b45, 0, none⟩) 3 3) := by unfold dlists; rw [hlsn]; exact hx45
    have hsA := (hs28.trans (hs32.trans (hs43.trans (hs8))))
    have hsB := (hs32.trans (hs43.trans (hs8)))
    have hsC := (hs43.trans (hs8))
    have hudB := Rd.mono hsC _ _ hud
    refine CW.seq fun K9 hK9 => ?_
    refine CW.seq fun K10 hK10 => ?_
    refine CW.region ?_
    refine RL.q (Y.assign rfl) rfl ?_
    refine RL.nil ?_
    refine hK10 _ _ _ ?_
    refine CW.keep (Keep.cons 3 rfl (Keep.cons 4 rfl (Keep.cons 5 rfl (Keep.cons 13 rfl (Keep.cons 14 rfl (Keep.cons 15 rfl (Keep.cons 16 rfl (Keep.cons 17 rfl (Keep.cons 18 rfl (Keep.cons 19 rfl (Keep.nil _))))))))))) ?_
    refine CW.block ?_
    -- LOOP 1: live [3, 4, 5, 13, 14, 15, 16, 17, 18, 19] changed [19]
    refine CW.keep (Keep.cons 19 rfl (Keep.cons 3 rfl (Keep.cons 4 rfl (Keep.cons 5 rfl (Keep.cons 13 rfl (Keep.cons 14 rfl (Keep.cons 15 rfl (Keep.cons 16 rfl (Keep.cons 17 rfl (Keep.cons 18 rfl (Keep.nil _))))))))))) ?_
    refine CW.drop (Γ' := .own b14 31 us28 :: .own b13 31 us26 :: Γ) (by repeat (first | exact List.Sublist.refl _ | apply List.Sublist.cons_cons | apply List.Sublist.cons)) ?_
    refine CW.loopF (fun mm Lc M9 Γc => ∃ i : Nat, mm = 3 - i ∧ i ≤ 3 ∧ Lc = [(19, vint i)] ∧ Γc = []) 3 [(19, _)] [] rfl rfl ⟨0, rfl, Nat.zero_le _, rfl, rfl⟩ ?_
    rintro mm Lc M9 Γc hsub ⟨i, rfl, hi, rfl, rfl⟩
    refine CW.seq fun K11 hK11 => ?_
    refine CW.seq fun K12 hK12 => ?_
    refine CW.region ?_
    refine RL.q (Y.move rfl) rfl ?_
    refine RL.q (Y.lss rfl rfl) rfl ?_
    refine RL.nil ?_
    refine hK12 _ _ _ ?_
    refine CW.keep (Keep.cons 3 rfl (Keep.cons 4 rfl (Keep.cons 5 rfl (Keep.cons 13 rfl (Keep.cons 14 rfl (Keep.cons 15 rfl (Keep.cons 16 rfl (Keep.cons 17 rfl (Keep.cons 18 rfl (Keep.cons 19 rfl (Keep.cons 47 rfl (Keep.nil _)))))))))))) ?_
    refine CW.ite rfl (fun h2 => ?_) (fun h2 => ?_)
    · refine CW.skip ?_
      refine hK11 _ _ _ ?_
      refine CW.seq fun K13 hK13 => ?_
      refine CW.block ?_
      refine CW.seq fun K14 hK14 => ?_
      refine CW.region ?_
      refine RL.q (Y.assign rfl) rfl ?_
      refine RL.nil ?_
      refine hK14 _ _ _ ?_
      refine CW.keep (Keep.cons 3 rfl (Keep.cons 4 rfl (Keep.cons 5 rfl (Keep.cons 13 rfl (Keep.cons 14 rfl (Keep.cons 15 rfl (Keep.cons 16 rfl (Keep.cons 17 rfl (Keep.cons 18 rfl (Keep.cons 19 rfl (Keep.cons 20 rfl (Keep.nil _)))))))))))) ?_
      refine CW.accNil 22 1 ?_
      refine CW.seq fun K15 hK15 => ?_
      refine CW.seq fun K16 hK16 => ?_
      refine CW.region ?_
      refine RL.q (Y.assign rfl) rfl ?_
      refine RL.nil ?_
      refine hK16 _ _ _ ?_
      refine CW.keep (Keep.cons 3 rfl (Keep.cons 4 rfl (Keep.cons 5 rfl (Keep.cons 13 rfl (Keep.cons 14 rfl (Keep.cons 15 rfl (Keep.cons 16 rfl (Keep.cons 17 rfl (Keep.cons 18 rfl (Keep.cons 19 rfl (Keep.cons 20 rfl (Keep.cons 21 rfl (Keep.nil _))))))))))))) ?_
      refine CW.block ?_
      -- LOOP 2: live [3, 4, 5, 13, 14, 15, 16, 17, 18, 19, 20, 21] changed [20, 21]
      refine CW.keep (Keep.cons 20 rfl (Keep.cons 21 rfl (Keep.cons 3 rfl (Keep.cons 4 rfl (Keep.cons 5 rfl (Keep.cons 13 rfl (Keep.cons 14 rfl (Keep.cons 15 rfl (Keep.cons 16 rfl (Keep.cons 17 rfl (Keep.cons 18 rfl (Keep.cons 19 rfl (Keep.nil _))))))))))))) ?_
      refine CW.loopF (fun mm Lc M11 Γc => ∃ (j : Nat) (l : List RowT) (us : List Value) (a20 : Option Addr) (c20 : Nat), mm = d.length - j ∧ j ≤ d.length ∧ Lc = [(20, .slice a20 j c20), (21, vint j)] ∧ Γc = .acc (.slice a20 j c20) 22 1 j us :: matA l ∧ M11 = M9 ∧ l.length = j ∧ l.map rowvA = us ∧ l.map (·.2) = d.take j ∧ j ≤ c20) d.length [(20, _), (21, _)] (.acc (.slice none 0 0) 22 1 0 [] :: matA []) rfl rfl ⟨0, [], [], none, 0, rfl, Nat.zero_le _, rfl, rfl, rfl, rfl, rfl, rfl, Nat.le_refl _⟩ ?_
      rintro mm Lc M9 Γc hsub2 ⟨j, l9, us, a20, c20, rfl, hj, rfl, rfl, rfl, hll, hus, hld, hc20⟩
      refine CW.drop (List.Sublist.refl (.acc (.slice a20 j c20) 22 1 j us :: (matA l9 ++ _))) ?_
      refine CW.seq fun K17 hK17 => ?_
      refine CW.seq fun K18 hK18 => ?_
      refine CW.region ?_
      refine RL.q (Y.move rfl) rfl ?_
      refine RL.q (Y.move rfl) rfl ?_
      refine RL.q (Y.len rfl Try.underlying35) rfl ?_
      refine RL.q (Y.lss rfl rfl) rfl ?_
      refine RL.nil ?_
      refine hK18 _ _ _ ?_
      refine CW.keep (Keep.cons 3 rfl (Keep.cons 4 rfl (Keep.cons 5 rfl (Keep.cons 13 rfl (Keep.cons 14 rfl (Keep.cons 15 rfl (Keep.cons 16 rfl (Keep.cons 17 rfl (Keep.cons 18 rfl (Keep.cons 19 rfl (Keep.cons 20 rfl (Keep.cons 21 rfl (Keep.cons 53 rfl (Keep.nil _)))))))))))))) ?_
      refine CW.ite rfl (fun h3 => ?_) (fun h3 => ?_)
      · have hjd : j < d.length := by omega
        obtain ⟨ud1, hcd1, hrd1⟩ := (Rd.mono hsub _ _ hudB).cell (q := j * 1) (dtab_get (List.getElem?_eq_getElem hjd))
        obtain ⟨ard, crd, rfl, hcrd, _, _⟩ := hrd1.slice
        have hdj := hbest.fix.ok.row _ (List.getElem_mem hjd)
        refine CW.skip ?_
        refine hK17 _ _ _ ?_
        refine CW.seq fun K19 hK19 => ?_
        refine CW.block ?_
        refine CW.region ?_
        refine RL.q (Y.move rfl) rfl ?_
        refine RL.buildSlice [] elem22 rfl (by decide) fill0 rfl fun b57 => ?_
        refine RL.q (Y.move rfl) rfl ?_
        refine RL.q (Y.move rfl) rfl ?_
        refine RL.q (Y.indexP j rfl rfl rfl (by omega) slice35 (Rd.mono hsub _ _ hudB)) rfl ?_
        refine RL.q (Y.loadC rfl hcd1 flat22) rfl ?_
        refine RL.ownAcc (b := b57) (k := 0) (e := 3) (sz := 1) (us := []) (by repeat (first | exact Pick.here _ | apply Pick.there)) rfl (by unfold maxLen; omega) ?_
        refine RL.addRd hrd1 ?_
        refine RL.appendRd elem22 rfl rfl (by repeat (first | exact Pick.here _ | apply Pick.there)) (by repeat (first | exact List.Mem.head _ | apply List.Mem.tail)) (by first | omega | (unfold lim; omega)) (by first | omega | (unfold lim; omega)) rfl fun a62 c62 n62 hc62 hn62 => ?_
        obtain rfl := ints_of_rd hn62
        refine RL.buildSlice [.slice a62 (0 + d[j].length) c62] elem35 rfl (by decide) (fill1 rfl rfl) rfl fun b63 => ?_
        refine RL.append elem35 rfl rfl (by repeat (first | exact Pick.here _ | apply Pick.there)) (SrcOk.own (by repeat (first | exact List.Mem.head _ | apply List.Mem.tail)) (by rfl) (by simp [Value.oneCell'])) (by first | omega | (unfold lim; omega)) (by first | omega | (unfold lim; omega)) rfl fun a64 c64 hc64 => ?_
        refine RL.q (Y.assign rfl) rfl ?_
        refine RL.nil ?_
        refine hK19 _ _ _ ?_
        refine CW.keep (Keep.cons 3 rfl (Keep.cons 4 rfl (Keep.cons 5 rfl (Keep.cons 13 rfl (Keep.cons 14 rfl (Keep.cons 15 rfl (Keep.cons 16 rfl (Keep.cons 17 rfl (Keep.cons 18 rfl (Keep.cons 19 rfl (Keep.cons 20 rfl (Keep.cons 21 rfl (Keep.nil _))))))))))))) ?_
        rw [show 0 + d[j].length = d[j].length from Nat.zero_add _, show ([] ++ ints d[j]) = ints d[j] from rfl]
        refine CW.front (x := .acc (.slice a62 _ _) _ _ _ _) (by repeat (first | exact Pick.here _ | apply Pick.there)) ?_
        refine CW.matAPush [_, _, _] ((a62, c62), d[j]) ?_
        refine CW.region ?_
        refine RL.q (Y.move rfl) rfl ?_
        refine RL.q (Y.add rfl rfl (by omega)) rfl ?_
        refine RL.q (Y.assign rfl) rfl ?_
        refine RL.nil ?_
        refine ⟨d.length - (j + 1), [(20, _), (21, _)], ?_, (Keep.cons 20 rfl (Keep.cons 21 rfl (Keep.cons 3 rfl (Keep.cons 4 rfl (Keep.cons 5 rfl (Keep.cons 13 rfl (Keep.cons 14 rfl (Keep.cons 15 rfl (Keep.cons 16 rfl (Keep.cons 17 rfl (Keep.cons 18 rfl (Keep.cons 19 rfl (Keep.nil _))))))))))))), ?_⟩
        · omega
        · exact Turn.drop ⟨.acc (.slice a64 (j + 1) c64) 22 1 (j + 1) (us ++ [.slice a62 d[j].length c62]) :: matA (l9 ++ [((a62, c62), d[j])]), rfl, hsub2, j + 1, _, _, a64, c64, rfl, by omega, rfl, rfl, rfl, by rw [List.length_append, hll]; rfl, by rw [List.map_append, hus]; rfl, by rw [List.map_append, hld, List.take_succ_eq_append_getElem hjd]; rfl, hc64⟩ (by repeat (first | exact List.Sublist.refl _ | apply List.Sublist.cons_cons | apply List.Sublist.cons))
      · refine CW.exit ?_
        refine hK15 _ _ _ ?_
        refine CW.seq fun K20 hK20 => ?_
        have hjd : j = d.length := by omega
        subst hjd
        rw [List.take_length] at hld
        have hlr : ∀ q ∈ l9, q.2.length ≤ lim := fun q hq => by have := hbest.fix.ok.row q.2 (by rw [← hld]; exact List.mem_map.2 ⟨q, hq, rfl⟩); unfold lim; omega
        obtain ⟨hρ0, hρ1⟩ := around_lt at0 d.length (by omega)
        obtain ⟨ρ, hρ⟩ := Int.eq_ofNat_of_zero_le hρ0
        have hρd : ρ < d.length := by omega
        obtain ⟨p0, hl0, hd0⟩ := rows_at hld (k := 0) (by omega)
        have hp0 : p0.2.length = (pon b 0).length := hbest.fix.ok.row _ (List.mem_of_getElem? hd0)
        have hg0 : us[0 * 1]? = some (rowvA p0) := by rw [Nat.mul_one, ← hus, List.getElem?_map, hl0]; rfl
        obtain ⟨hγ0, hγ1⟩ := around_lt (at0.tdiv 16) p0.2.length (by omega)
        obtain ⟨γ, hγ⟩ := Int.eq_ofNat_of_zero_le hγ0
        have hγd : γ < (pon b 0).length := by omega
        have hnb := hbest.mt.ge
        have hnb2 : 0 ≤ n ∧ n ≤ 256 := by have h1 := hbest.root; have h2 := hbest.fix.fix _ _ (show (pon a 0).length - 1 < (pon a 0).length by omega) (show (pon b 0).length - 1 < (pon b 0).length by omega); have h3 := dpEnd_bd hbest.fix.ok.num (show (pon a 0).length - 1 < (pon a 0).length by omega) (show (pon b 0).length - 1 < (pon b 0).length by omega); omega
        have hul : us.length = d.length := by rw [← hus, List.length_map]; exact hll
        refine CW.region ?_
        refine RL.q (Y.move rfl) rfl ?_
        refine RL.q (Y.move rfl) rfl ?_
        refine RL.q (Y.len rfl Try.underlying35) rfl ?_
        refine RL.callv rfl func12 rfl rfl (around_ok _ _ _ at0 d.length hai (by omega)) ?_
        refine RL.q (Y.assign rfl) rfl ?_
        refine RL.nil ?_
        refine hK20 _ _ _ ?_
        refine CW.keep (Keep.cons 3 rfl (Keep.cons 4 rfl (Keep.cons 5 rfl (Keep.cons 13 rfl (Keep.cons 14 rfl (Keep.cons 15 rfl (Keep.cons 16 rfl (Keep.cons 17 rfl (Keep.cons 18 rfl (Keep.cons 19 rfl (Keep.cons 20 rfl (Keep.cons 22 rfl (Keep.nil _))))))))))))) ?_
        rw [hρ]
        refine CW.seq fun K21 hK21 => ?_
        refine CW.region ?_
        refine RL.q (Y.move rfl) rfl ?_
        refine RL.q (Y.quo rfl rfl (by omega) (tdiv_in _ hai)) rfl ?_
        refine RL.q (Y.move rfl) rfl ?_
        refine RL.q (Y.indexAcc 0 rfl rfl rfl (by omega) slice35 (by repeat (first | exact List.Mem.head _ | apply List.Mem.tail)) hg0) rfl ?_
        refine RL.q (Y.loadAcc rfl (by repeat (first | exact List.Mem.head _ | apply List.Mem.tail)) hg0 flat22) rfl ?_
        refine RL.q (Y.len rfl Try.underlying22) rfl ?_
        refine RL.callv rfl func12 rfl rfl (around_ok _ _ _ _ p0.2.length (tdiv_in _ hai) (by omega)) ?_
        refine RL.q (Y.assign rfl) rfl ?_
        refine RL.nil ?_
        refine hK21 _ _ _ ?_
        refine CW.keep (Keep.cons 3 rfl (Keep.cons 4 rfl (Keep.cons 5 rfl (Keep.cons 13 rfl (Keep.cons 14 rfl (Keep.cons 15 rfl (Keep.cons 16 rfl (Keep.cons 17 rfl (Keep.cons 18 rfl (Keep.cons 19 rfl (Keep.cons 20 rfl (Keep.cons 22 rfl (Keep.cons 23 rfl (Keep.nil _)))))))))))))) ?_
        rw [hγ]
        refine CW.seq fun K22 hK22 => ?_
        refine CW.region ?_
        refine RL.q (Y.move rfl) rfl ?_
        refine RL.q (Y.assign rfl) rfl ?_
        refine RL.nil ?_
        refine hK22 _ _ _ ?_
        refine CW.keep (Keep.cons 3 rfl (Keep.cons 4 rfl (Keep.cons 5 rfl (Keep.cons 13 rfl (Keep.cons 14 rfl (Keep.cons 15 rfl (Keep.cons 16 rfl (Keep.cons 17 rfl (Keep.cons 18 rfl (Keep.cons 19 rfl (Keep.cons 20 rfl (Keep.cons 22 rfl (Keep.cons 23 rfl (Keep.cons 24 rfl (Keep.nil _))))))))))))))) ?_
        refine CW.cut (fun L' M' Γ' => ∃ (xs : List (List Int)) (cost : Int) (ax : Option Addr) (cx : Nat), Keep L' [(20, .slice ax xs.length cx), (24, vint cost), (3, vint at0), (4, vint how), (5, vint by0), (13, .pointer (some (adr (some ⟨b13, 0, none⟩) 0))), (14, .pointer (some (adr (some ⟨b14, 0, none⟩) 0))), (15, .slice ap (Q.map (pairOf (pon a 0) (pon b 0))).length cp), (16, vint n), (17, .slice ad d.length cd), (18, .slice (some ⟨b45, 0, none⟩) 3 3), (19, vint i)] ∧ M' = M9 ∧ SealT w0 M9 Γ' xs (.slice ax xs.length cx) (.own b14 31 us28 :: .own b13 31 us26 :: Γ)) ?_ ?_
        · refine CW.seq fun K23 hK23 => ?_
          refine CW.region ?_
          refine RL.q (Y.move rfl) rfl ?_
          refine RL.q (Y.gtr rfl rfl) rfl ?_
          refine RL.nil ?_
          refine hK23 _ _ _ ?_
          refine CW.keep (Keep.cons 3 rfl (Keep.cons 4 rfl (Keep.cons 5 rfl (Keep.cons 13 rfl (Keep.cons 14 rfl (Keep.cons 15 rfl (Keep.cons 16 rfl (Keep.cons 17 rfl (Keep.cons 18 rfl (Keep.cons 19 rfl (Keep.cons 20 rfl (Keep.cons 22 rfl (Keep.cons 23 rfl (Keep.cons 24 rfl (Keep.cons 78 rfl (Keep.nil _)))))))))))))))) ?_
          refine CW.ite rfl (fun h4 => ?_) (fun h4 => ?_)
          · refine CW.seq fun K24 hK24 => ?_
            refine CW.region ?_
            refine RL.q (Y.move rfl) rfl ?_
            refine RL.callv rfl func12 rfl rfl (around_ok _ _ _ how 8 hhi (by omega)) ?_
            refine RL.nil ?_
            refine hK24 _ _ _ ?_
            refine CW.keep (Keep.cons 3 rfl (Keep.cons 4 rfl (Keep.cons 5 rfl (Keep.cons 13 rfl (Keep.cons 14 rfl (Keep.cons 15 rfl (Keep.cons 16 rfl (Keep.cons 17 rfl (Keep.cons 18 rfl (Keep.cons 19 rfl (Keep.cons 20 rfl (Keep.cons 22 rfl (Keep.cons 23 rfl (Keep.cons 24 rfl (Keep.cons 80 rfl (Keep.nil _)))))))))))))))) ?_
            refine CW.block ?_
            refine CW.seq fun K25 hK25 => ?_
            refine CW.region ?_
            refine RL.q (Y.eql rfl rfl) rfl ?_
            refine RL.q (Y.assign rfl) rfl ?_
            refine RL.nil ?_
            refine hK25 _ _ _ ?_
            refine CW.keep (Keep.cons 3 rfl (Keep.cons 4 rfl (Keep.cons 5 rfl (Keep.cons 13 rfl (Keep.cons 14 rfl (Keep.cons 15 rfl (Keep.cons 16 rfl (Keep.cons 17 rfl (Keep.cons 18 rfl (Keep.cons 19 rfl (Keep.cons 20 rfl (Keep.cons 22 rfl (Keep.cons 23 rfl (Keep.cons 24 rfl (Keep.cons 80 rfl (Keep.cons 81 rfl (Keep.nil _))))))))))))))))) ?_
            refine CW.ite rfl (fun h5 => ?_) (fun h5 => ?_)
            · obtain ⟨p, hli2, hdp⟩ := rows_at hld (k := ρ) (by omega)
              have hpl : p.2.length = (pon b 0).length := hbest.fix.ok.row _ (List.mem_of_getElem? hdp)
              have hgi : us[ρ * 1]? = some (rowvA p) := by rw [Nat.mul_one, ← hus, List.getElem?_map, hli2]; rfl
              have hγp : γ < p.2.length := by omega
              refine CW.perm (List.Perm.cons _ ((matA_perm hli2 p).1.append_right _)) ?_
              refine CW.know (F := p.2.length ≤ p.1.2 ∧ (0 < p.2.length * 1 → p.1.1.isSome = true)) (fun w hw => acc_le (sz := 1) (e := 3) (us := ints p.2) hw (List.mem_cons_of_mem _ (List.mem_cons_self ..))) ?_
              rintro ⟨hpc, hps⟩
              have hsome := hps (by omega)
              clear hps
              obtain ⟨z, hz1⟩ : ∃ z, p.2[γ]? = some z := ⟨p.2[γ], List.getElem?_eq_getElem hγp⟩
              have hzb := hbest.fix.ok.num _ (List.mem_of_getElem? hdp) z (List.mem_of_getElem? hz1)
              refine CW.regionH mix _ [.acc (.slice a20 d.length c20) 22 1 d.length us] (fun _ hw => hw.sub sub_head) ?_
              refine HL.take 0 rfl (by kernel_rfl) (by kernel_rfl) (by kernel_rfl) rfl (Y.move rfl) rfl ?_
              refine HL.take 1 rfl (by kernel_rfl) (by kernel_rfl) (by kernel_rfl) rfl (Y.move rfl) rfl ?_
              refine HL.take 2 rfl (by kernel_rfl) (by kernel_rfl) (by kernel_rfl) rfl (Y.indexAcc ρ rfl rfl rfl (by omega) slice35 (by repeat (first | exact List.Mem.head _ | apply List.Mem.tail)) hgi) rfl ?_
              refine HL.take 3 rfl (by kernel_rfl) (by kernel_rfl) (by kernel_rfl) rfl (Y.loadAcc rfl (by repeat (first | exact List.Mem.head _ | apply List.Mem.tail)) hgi flat22) rfl ?_
              refine HL.take 4 rfl (by kernel_rfl) (by kernel_rfl) (by kernel_rfl) rfl (Y.move rfl) rfl ?_
              refine HL.take 5 rfl (by kernel_rfl) (by kernel_rfl) (by kernel_rfl) rfl (Y.move rfl) rfl ?_
              refine HL.take 6 rfl (by kernel_rfl) (by kernel_rfl) (by kernel_rfl) rfl (Y.move rfl) rfl ?_
              refine HL.take 7 rfl (by kernel_rfl) (by kernel_rfl) (by kernel_rfl) rfl (Y.indexAcc ρ rfl rfl rfl (by omega) slice35 (by repeat (first | exact List.Mem.head _ | apply List.Mem.tail)) hgi) rfl ?_
              refine HL.take 8 rfl (by kernel_rfl) (by kernel_rfl) (by kernel_rfl) rfl (Y.loadAcc rfl (by repeat (first | exact List.Mem.head _ | apply List.Mem.tail)) hgi flat22) rfl ?_
              refine HL.take 9 rfl (by kernel_rfl) (by kernel_rfl) (by kernel_rfl) rfl (Y.move rfl) rfl ?_
              refine HL.take 10 rfl (by kernel_rfl) (by kernel_rfl) (by kernel_rfl) rfl (Y.index γ rfl rfl rfl hγp slice22 (fun _ _ => hsome)) rfl ?_
              refine HL.step 11 rfl (by kernel_rfl) ?_
              refine RL.q (Y.loadAcc rfl (by repeat (first | exact List.Mem.head _ | apply List.Mem.tail)) (ints_get (k := γ) hz1 (by omega)) flat3) rfl ?_
              refine RL.nil ⟨keep_same (by repeat (first | exact List.Sublist.refl _ | exact List.nil_sublist _ | apply List.Sublist.cons_cons | apply List.Sublist.cons)), ?_⟩
              refine HL.take 12 rfl (by kernel_rfl) (by kernel_rfl) (by kernel_rfl) rfl (Y.add rfl rfl (by omega)) rfl ?_
              refine HL.take 13 rfl (by kernel_rfl) (by kernel_rfl) (by kernel_rfl) rfl (Y.index γ rfl rfl rfl hγp slice22 (fun _ _ => hsome)) rfl ?_
              refine HL.step 14 rfl (by kernel_rfl) ?_
              refine RL.perm (List.Perm.swap _ _ _) ?_
              refine RL.storeAcc (ints (p.2.set γ (z + 1))) rfl rfl (ints_set _ _ γ _ (by omega)) (by rw [ints_len]; omega) (by rfl) size3 ?_
              refine RL.nil ⟨keep_same (by repeat (first | exact List.Sublist.refl _ | exact List.nil_sublist _ | apply List.Sublist.cons_cons | apply List.Sublist.cons)), ?_⟩
              refine HL.done (by kernel_rfl) ?_
              show (fun L' M' Γ' => ∃ (xs : List (List Int)) (cost : Int) (ax : Option Addr) (cx : Nat), Keep L' [(20, .slice ax xs.length cx), (24, vint cost), (3, vint at0), (4, vint how), (5, vint by0), (13, .pointer (some (adr (some ⟨b13, 0, none⟩) 0))), (14, .pointer (some (adr (some ⟨b14, 0, none⟩) 0))), (15, .slice ap (Q.map (pairOf (pon a 0) (pon b 0))).length cp), (16, vint n), (17, .slice ad d.length cd), (18, .slice (some ⟨b45, 0, none⟩) 3 3), (19, vint i)] ∧ M' = M9 ∧ SealT w0 M9 Γ' xs (.slice ax xs.length cx) (.own b14 31 us28 :: .own b13 31 us26 :: Γ)) _ _ _
              have hxl : ((l9.set ρ (p.1, p.2.set γ (z + 1))).map (·.2)).length = d.length := by rw [List.length_map, List.length_set, hll]
              refine ⟨(l9.set ρ (p.1, p.2.set γ (z + 1))).map (·.2), n, a20, c20, ?_, rfl, ?_⟩
              · rw [hxl]
                exact (by repeat (first | exact Keep.nil _ | refine Keep.cons _ rfl ?_))
              · rw [hxl]
                refine sealT_pre ?_ (sealT_set (p := p) (R := .own b14 31 us28 :: .own b13 31 us26 :: Γ) (p.1, p.2.set γ (z + 1)) hli2 (us := us) (by rw [rowvA_set hli2 (by simp [rowvA])]; exact hus.symm) hlr (by rw [List.length_set]; unfold lim; omega) (by unfold lim; omega) hll.symm (List.Sublist.refl _))
                intro w hw
                simpa [rowA, rowvA] using hw
            · refine CW.seq fun K26 hK26 => ?_
              refine CW.region ?_
              refine RL.q (Y.eql rfl rfl) rfl ?_
              refine RL.q (Y.assign rfl) rfl ?_
              refine RL.nil ?_
              refine hK26 _ _ _ ?_
              refine CW.keep (Keep.cons 3 rfl (Keep.cons 4 rfl (Keep.cons 5 rfl (Keep.cons 13 rfl (Keep.cons 14 rfl (Keep.cons 15 rfl (Keep.cons 16 rfl (Keep.cons 17 rfl (Keep.cons 18 rfl (Keep.cons 19 rfl (Keep.cons 20 rfl (Keep.cons 22 rfl (Keep.cons 23 rfl (Keep.cons 24 rfl (Keep.cons 80 rfl (Keep.cons 97 rfl (Keep.nil _))))))))))))))))) ?_
              refine CW.ite rfl (fun h6 => ?_) (fun h6 => ?_)
              · obtain ⟨p, hli2, hdp⟩ := rows_at hld (k := ρ) (by omega)
                have hpl : p.2.length = (pon b 0).length := hbest.fix.ok.row _ (List.mem_of_getElem? hdp)
                have hgi : us[ρ * 1]? = some (rowvA p) := by rw [Nat.mul_one, ← hus, List.getElem?_map, hli2]; rfl
                have hγp : γ < p.2.length := by omega
                refine CW.perm (List.Perm.cons _ ((matA_perm hli2 p).1.append_right _)) ?_
                refine CW.know (F := p.2.length ≤ p.1.2 ∧ (0 < p.2.length * 1 → p.1.1.isSome = true)) (fun w hw => acc_le (sz := 1) (e := 3) (us := ints p.2) hw (List.mem_cons_of_mem _ (List.mem_cons_self ..))) ?_
                rintro ⟨hpc, hps⟩
                have hsome := hps (by omega)
                clear hps
                obtain ⟨z, hz1⟩ : ∃ z, p.2[γ]? = some z := ⟨p.2[γ], List.getElem?_eq_getElem hγp⟩
                have hzb := hbest.fix.ok.num _ (List.mem_of_getElem? hdp) z (List.mem_of_getElem? hz1)
                refine CW.regionH mix _ [.acc (.slice a20 d.length c20) 22 1 d.length us] (fun _ hw => hw.sub sub_head) ?_
                refine HL.take 0 rfl (by kernel_rfl) (by kernel_rfl) (by kernel_rfl) rfl (Y.move rfl) rfl ?_
                refine HL.take 1 rfl (by kernel_rfl) (by kernel_rfl) (by kernel_rfl) rfl (Y.move rfl) rfl ?_
                refine HL.take 2 rfl (by kernel_rfl) (by kernel_rfl) (by kernel_rfl) rfl (Y.indexAcc ρ rfl rfl rfl (by omega) slice35 (by repeat (first | exact List.Mem.head _ | apply List.Mem.tail)) hgi) rfl ?_
                refine HL.take 3 rfl (by kernel_rfl) (by kernel_rfl) (by kernel_rfl) rfl (Y.loadAcc rfl (by repeat (first | exact List.Mem.head _ | apply List.Mem.tail)) hgi flat22) rfl ?_
                refine HL.take 4 rfl (by kernel_rfl) (by kernel_rfl) (by kernel_rfl) rfl (Y.move rfl) rfl ?_
                refine HL.take 5 rfl (by kernel_rfl) (by kernel_rfl) (by kernel_rfl) rfl (Y.move rfl) rfl ?_
                refine HL.take 6 rfl (by kernel_rfl) (by kernel_rfl) (by kernel_rfl) rfl (Y.move rfl) rfl ?_
                refine HL.take 7 rfl (by kernel_rfl) (by kernel_rfl) (by kernel_rfl) rfl (Y.indexAcc ρ rfl rfl rfl (by omega) slice35 (by repeat (first | exact List.Mem.head _ | apply List.Mem.tail)) hgi) rfl ?_
                refine HL.take 8 rfl (by kernel_rfl) (by kernel_rfl) (by kernel_rfl) rfl (Y.loadAcc rfl (by repeat (first | exact List.Mem.head _ | apply List.Mem.tail)) hgi flat22) rfl ?_
                refine HL.take 9 rfl (by kernel_rfl) (by kernel_rfl) (by kernel_rfl) rfl (Y.move rfl) rfl ?_
                refine HL.take 10 rfl (by kernel_rfl) (by kernel_rfl) (by kernel_rfl) rfl (Y.index γ rfl rfl rfl hγp slice22 (fun _ _ => hsome)) rfl ?_
                refine HL.step 11 rfl (by kernel_rfl) ?_
                refine RL.q (Y.loadAcc rfl (by repeat (first | exact List.Mem.head _ | apply List.Mem.tail)) (ints_get (k := γ) hz1 (by omega)) flat3) rfl ?_
                refine RL.nil ⟨keep_same (by repeat (first | exact List.Sublist.refl _ | exact List.nil_sublist _ | apply List.Sublist.cons_cons | apply List.Sublist.cons)), ?_⟩
                refine HL.take 12 rfl (by kernel_rfl) (by kernel_rfl) (by kernel_rfl) rfl (Y.sub rfl rfl (by omega)) rfl ?_
                refine HL.take 13 rfl (by kernel_rfl) (by kernel_rfl) (by kernel_rfl) rfl (Y.max2 rfl rfl) rfl ?_
                refine HL.take 14 rfl (by kernel_rfl) (by kernel_rfl) (by kernel_rfl) rfl (Y.index γ rfl rfl rfl hγp slice22 (fun _ _ => hsome)) rfl ?_
                refine HL.step 15 rfl (by kernel_rfl) ?_
                refine RL.perm (List.Perm.swap _ _ _) ?_
                refine RL.storeAcc (ints (p.2.set γ (max 0 (z - 1)))) rfl rfl (ints_set _ _ γ _ (by omega)) (by rw [ints_len]; omega) (by rfl) size3 ?_
                refine RL.nil ⟨keep_same (by repeat (first | exact List.Sublist.refl _ | exact List.nil_sublist _ | apply List.Sublist.cons_cons | apply List.Sublist.cons)), ?_⟩
                refine HL.done (by kernel_rfl) ?_
                show (fun L' M' Γ' => ∃ (xs : List (List Int)) (cost : Int) (ax : Option Addr) (cx : Nat), Keep L' [(20, .slice ax xs.length cx), (24, vint cost), (3, vint at0), (4, vint how), (5, vint by0), (13, .pointer (some (adr (some ⟨b13, 0, none⟩) 0))), (14, .pointer (some (adr (some ⟨b14, 0, none⟩) 0))), (15, .slice ap (Q.map (pairOf (pon a 0) (pon b 0))).length cp), (16, vint n), (17, .slice ad d.length cd), (18, .slice (some ⟨b45, 0, none⟩) 3 3), (19, vint i)] ∧ M' = M9 ∧ SealT w0 M9 Γ' xs (.slice ax xs.length cx) (.own b14 31 us28 :: .own b13 31 us26 :: Γ)) _ _ _
                have hxl : ((l9.set ρ (p.1, p.2.set γ (max 0 (z - 1)))).map (·.2)).length = d.length := by rw [List.length_map, List.length_set, hll]
                refine ⟨(l9.set ρ (p.1, p.2.set γ (max 0 (z - 1)))).map (·.2), n, a20, c20, ?_, rfl, ?_⟩
                · rw [hxl]
                  exact (by repeat (first | exact Keep.nil _ | refine Keep.cons _ rfl ?_))
                · rw [hxl]
                  refine sealT_pre ?_ (sealT_set (p := p) (R := .own b14 31 us28 :: .own b13 31 us26 :: Γ) (p.1, p.2.set γ (max 0 (z - 1))) hli2 (us := us) (by rw [rowvA_set hli2 (by simp [rowvA])]; exact hus.symm) hlr (by rw [List.length_set]; unfold lim; omega) (by unfold lim; omega) hll.symm (List.Sublist.refl _))
                  intro w hw
                  simpa [rowA, rowvA] using hw
              · refine CW.seq fun K27 hK27 => ?_
                refine CW.region ?_
                refine RL.q (Y.eql rfl rfl) rfl ?_
                refine RL.q (Y.assign rfl) rfl ?_
                refine RL.nil ?_
                refine hK27 _ _ _ ?_
                refine CW.keep (Keep.cons 3 rfl (Keep.cons 4 rfl (Keep.cons 5 rfl (Keep.cons 13 rfl (Keep.cons 14 rfl (Keep.cons 15 rfl (Keep.cons 16 rfl (Keep.cons 17 rfl (Keep.cons 18 rfl (Keep.cons 19 rfl (Keep.cons 20 rfl (Keep.cons 22 rfl (Keep.cons 23 rfl (Keep.cons 24 rfl (Keep.cons 80 rfl (Keep.cons 114 rfl (Keep.nil _))))))))))))))))) ?_
                refine CW.ite rfl (fun h7 => ?_) (fun h7 => ?_)
                · obtain ⟨p, hli2, hdp⟩ := rows_at hld (k := ρ) (by omega)
                  have hpl : p.2.length = (pon b 0).length := hbest.fix.ok.row _ (List.mem_of_getElem? hdp)
                  have hgi : us[ρ * 1]? = some (rowvA p) := by rw [Nat.mul_one, ← hus, List.getElem?_map, hli2]; rfl
                  have hγp : γ < p.2.length := by omega
                  refine CW.perm (List.Perm.cons _ ((matA_perm hli2 p).1.append_right _)) ?_
                  refine CW.know (F := p.2.length ≤ p.1.2 ∧ (0 < p.2.length * 1 → p.1.1.isSome = true)) (fun w hw => acc_le (sz := 1) (e := 3) (us := ints p.2) hw (List.mem_cons_of_mem _ (List.mem_cons_self ..))) ?_
                  rintro ⟨hpc, hps⟩
                  have hsome := hps (by omega)
                  clear hps
                  refine CW.region ?_
                  refine RL.q (Y.move rfl) rfl ?_
                  refine RL.q (Y.move rfl) rfl ?_
                  refine RL.q (Y.indexAcc ρ rfl rfl rfl (by omega) slice35 (by repeat (first | exact List.Mem.head _ | apply List.Mem.tail)) hgi) rfl ?_
                  refine RL.q (Y.loadAcc rfl (by repeat (first | exact List.Mem.head _ | apply List.Mem.tail)) hgi flat22) rfl ?_
                  refine RL.q (Y.move rfl) rfl ?_
                  refine RL.q (Y.move rfl) rfl ?_
                  refine RL.q (Y.index γ rfl rfl rfl hγp slice22 (fun _ _ => hsome)) rfl ?_
                  refine RL.perm (List.Perm.swap _ _ _) ?_
                  refine RL.storeAcc (ints (p.2.set γ (by0))) rfl rfl (ints_set _ _ γ _ (by omega)) (by rw [ints_len]; omega) (by rfl) size3 ?_
                  refine RL.nil ?_
                  show (fun L' M' Γ' => ∃ (xs : List (List Int)) (cost : Int) (ax : Option Addr) (cx : Nat), Keep L' [(20, .slice ax xs.length cx), (24, vint cost), (3, vint at0), (4, vint how), (5, vint by0), (13, .pointer (some (adr (some ⟨b13, 0, none⟩) 0))), (14, .pointer (some (adr (some ⟨b14, 0, none⟩) 0))), (15, .slice ap (Q.map (pairOf (pon a 0) (pon b 0))).length cp), (16, vint n), (17, .slice ad d.length cd), (18, .slice (some ⟨b45, 0, none⟩) 3 3), (19, vint i)] ∧ M' = M9 ∧ SealT w0 M9 Γ' xs (.slice ax xs.length cx) (.own b14 31 us28 :: .own b13 31 us26 :: Γ)) _ _ _
                  have hxl : ((l9.set ρ (p.1, p.2.set γ (by0))).map (·.2)).length = d.length := by rw [List.length_map, List.length_set, hll]
                  refine ⟨(l9.set ρ (p.1, p.2.set γ (by0))).map (·.2), n, a20, c20, ?_, rfl, ?_⟩
                  · rw [hxl]
                    exact (by repeat (first | exact Keep.nil _ | refine Keep.cons _ rfl ?_))
                  · rw [hxl]
                    refine sealT_pre ?_ (sealT_set (p := p) (R := .own b14 31 us28 :: .own b13 31 us26 :: Γ) (p.1, p.2.set γ (by0)) hli2 (us := us) (by rw [rowvA_set hli2 (by simp [rowvA])]; exact hus.symm) hlr (by rw [List.length_set]; unfold lim; omega) (by unfold lim; omega) hll.symm (List.Sublist.refl _))
                    intro w hw
                    simpa [rowA, rowvA] using hw
                · refine CW.seq fun K28 hK28 => ?_
                  refine CW.region ?_
                  refine RL.q (Y.eql rfl rfl) rfl ?_
                  refine RL.q (Y.assign rfl) rfl ?_
                  refine RL.nil ?_
                  refine hK28 _ _ _ ?_
                  refine CW.keep (Keep.cons 3 rfl (Keep.cons 4 rfl (Keep.cons 5 rfl (Keep.cons 13 rfl (Keep.cons 14 rfl (Keep.cons 15 rfl (Keep.cons 16 rfl (Keep.cons 17 rfl (Keep.cons 18 rfl (Keep.cons 19 rfl (Keep.cons 20 rfl (Keep.cons 22 rfl (Keep.cons 23 rfl (Keep.cons 24 rfl (Keep.cons 80 rfl (Keep.cons 123 rfl (Keep.nil _))))))))))))))))) ?_
                  refine CW.ite rfl (fun h8 => ?_) (fun h8 => ?_)
                  · refine CW.region ?_
                    refine RL.q (Y.move rfl) rfl ?_
                    refine RL.q (Y.move rfl) rfl ?_
                    refine RL.q (Y.slice0 ρ c20 rfl ⟨_, rfl, rfl⟩ rfl (by simp) (by omega) (by omega) slice35) rfl ?_
                    refine RL.q (Y.assign rfl) rfl ?_
                    refine RL.nil ?_
                    show (fun L' M' Γ' => ∃ (xs : List (List Int)) (cost : Int) (ax : Option Addr) (cx : Nat), Keep L' [(20, .slice ax xs.length cx), (24, vint cost), (3, vint at0), (4, vint how), (5, vint by0), (13, .pointer (some (adr (some ⟨b13, 0, none⟩) 0))), (14, .pointer (some (adr (some ⟨b14, 0, none⟩) 0))), (15, .slice ap (Q.map (pairOf (pon a 0) (pon b 0))).length cp), (16, vint n), (17, .slice ad d.length cd), (18, .slice (some ⟨b45, 0, none⟩) 3 3), (19, vint i)] ∧ M' = M9 ∧ SealT w0 M9 Γ' xs (.slice ax xs.length cx) (.own b14 31 us28 :: .own b13 31 us26 :: Γ)) _ _ _
                    have hxl : ((l9.take ρ).map (·.2)).length = ρ := by rw [List.length_map, List.length_take]; omega
                    refine ⟨(l9.take ρ).map (·.2), n, a20, c20, ?_, rfl, ?_⟩
                    · rw [hxl]
                      exact (by repeat (first | exact Keep.nil _ | refine Keep.cons _ rfl ?_))
                    · rw [hxl, ← hus]
                      exact sealT_take (R := .own b14 31 us28 :: .own b13 31 us26 :: Γ) (by omega) hlr (by unfold lim; omega) hll.symm (List.Sublist.refl _)
                  · refine CW.seq fun K29 hK29 => ?_
                    refine CW.region ?_
                    refine RL.q (Y.eql rfl rfl) rfl ?_
                    refine RL.q (Y.assign rfl) rfl ?_
                    refine RL.nil ?_
                    refine hK29 _ _ _ ?_
                    refine CW.keep (Keep.cons 3 rfl (Keep.cons 4 rfl (Keep.cons 5 rfl (Keep.cons 13 rfl (Keep.cons 14 rfl (Keep.cons 15 rfl (Keep.cons 16 rfl (Keep.cons 17 rfl (Keep.cons 18 rfl (Keep.cons 19 rfl (Keep.cons 20 rfl (Keep.cons 22 rfl (Keep.cons 23 rfl (Keep.cons 24 rfl (Keep.cons 80 rfl (Keep.cons 128 rfl (Keep.nil _))))))))))))))))) ?_
                    refine CW.ite rfl (fun h9 => ?_) (fun h9 => ?_)
                    · obtain ⟨p, hli2, hdp⟩ := rows_at hld (k := ρ) (by omega)
                      have hpl : p.2.length = (pon b 0).length := hbest.fix.ok.row _ (List.mem_of_getElem? hdp)
                      have hgi : us[ρ * 1]? = some (rowvA p) := by rw [Nat.mul_one, ← hus, List.getElem?_map, hli2]; rfl
                      have hγp : γ < p.2.length := by omega
                      refine CW.perm (List.Perm.cons _ ((matA_perm hli2 p).1.append_right _)) ?_
                      refine CW.know (F := p.2.length ≤ p.1.2 ∧ (0 < p.2.length * 1 → p.1.1.isSome = true)) (fun w hw => acc_le (sz := 1) (e := 3) (us := ints p.2) hw (List.mem_cons_of_mem _ (List.mem_cons_self ..))) ?_
                      rintro ⟨hpc, hps⟩
                      have hsome := hps (by omega)
                      clear hps
                      refine CW.region ?_
                      refine RL.q (Y.move rfl) rfl ?_
                      refine RL.q (Y.move rfl) rfl ?_
                      refine RL.q (Y.move rfl) rfl ?_
                      refine RL.q (Y.move rfl) rfl ?_
                      refine RL.q (Y.indexAcc ρ rfl rfl rfl (by omega) slice35 (by repeat (first | exact List.Mem.head _ | apply List.Mem.tail)) hgi) rfl ?_
                      refine RL.q (Y.loadAcc rfl (by repeat (first | exact List.Mem.head _ | apply List.Mem.tail)) hgi flat22) rfl ?_
                      refine RL.q (Y.move rfl) rfl ?_
                      refine RL.q (Y.slice0 γ p.1.2 rfl ⟨_, rfl, rfl⟩ rfl (by simp) (by omega) (by omega) slice22) rfl ?_
                      refine RL.q (Y.indexAcc ρ rfl rfl rfl (by omega) slice35 (by repeat (first | exact List.Mem.head _ | apply List.Mem.tail)) hgi) rfl ?_
                      refine RL.storeAcc (us.set ρ (.slice p.1.1 γ p.1.2)) rfl rfl (by rw [Nat.mul_one]) (by omega) (by rfl) size22 ?_
                      refine RL.perm (List.Perm.swap _ _ _) ?_
                      refine RL.accTake (k := γ) (by omega) ?_
                      refine RL.nil ?_
                      show (fun L' M' Γ' => ∃ (xs : List (List Int)) (cost : Int) (ax : Option Addr) (cx : Nat), Keep L' [(20, .slice ax xs.length cx), (24, vint cost), (3, vint at0), (4, vint how), (5, vint by0), (13, .pointer (some (adr (some ⟨b13, 0, none⟩) 0))), (14, .pointer (some (adr (some ⟨b14, 0, none⟩) 0))), (15, .slice ap (Q.map (pairOf (pon a 0) (pon b 0))).length cp), (16, vint n), (17, .slice ad d.length cd), (18, .slice (some ⟨b45, 0, none⟩) 3 3), (19, vint i)] ∧ M' = M9 ∧ SealT w0 M9 Γ' xs (.slice ax xs.length cx) (.own b14 31 us28 :: .own b13 31 us26 :: Γ)) _ _ _
                      have hxl : ((l9.set ρ (p.1, p.2.take γ)).map (·.2)).length = d.length := by rw [List.length_map, List.length_set, hll]
                      have htl : (p.2.take γ).length = γ := by rw [List.length_take]; omega
                      refine ⟨(l9.set ρ (p.1, p.2.take γ)).map (·.2), n, a20, c20, ?_, rfl, ?_⟩
                      · rw [hxl]
                        exact (by repeat (first | exact Keep.nil _ | refine Keep.cons _ rfl ?_))
                      · rw [hxl]
                        refine sealT_pre ?_ (sealT_set (p := p) (R := .own b14 31 us28 :: .own b13 31 us26 :: Γ) (p.1, p.2.take γ) hli2 (us := us.set ρ (.slice p.1.1 γ p.1.2)) (by rw [List.map_set, hus]; simp only [rowvA, htl]) hlr (by rw [htl]; unfold lim; omega) (by unfold lim; omega) hll.symm (List.Sublist.refl _))
                        intro w hw
                        simpa [rowA, rowvA, htl, List.map_take] using hw
                    · refine CW.seq fun K30 hK30 => ?_
                      refine CW.region ?_
                      refine RL.q (Y.eql rfl rfl) rfl ?_
                      refine RL.q (Y.assign rfl) rfl ?_
                      refine RL.nil ?_
                      refine hK30 _ _ _ ?_
                      refine CW.keep (Keep.cons 3 rfl (Keep.cons 4 rfl (Keep.cons 5 rfl (Keep.cons 13 rfl (Keep.cons 14 rfl (Keep.cons 15 rfl (Keep.cons 16 rfl (Keep.cons 17 rfl (Keep.cons 18 rfl (Keep.cons 19 rfl (Keep.cons 20 rfl (Keep.cons 22 rfl (Keep.cons 24 rfl (Keep.cons 80 rfl (Keep.cons 139 rfl (Keep.nil _)))))))))))))))) ?_
                      refine CW.ite rfl (fun h10 => ?_) (fun h10 => ?_)
                      · have hab := around_lt by0 3 (by omega)
                        refine CW.region ?_
                        refine RL.q (Y.move rfl) rfl ?_
                        refine RL.q (Y.move rfl) rfl ?_
                        refine RL.callv rfl func12 rfl rfl (around_ok _ _ _ by0 3 hbi (by omega)) ?_
                        refine RL.q (Y.add rfl rfl (by omega)) rfl ?_
                        refine RL.q (Y.sub rfl rfl (by omega)) rfl ?_
                        refine RL.q (Y.assign rfl) rfl ?_
                        refine RL.nil ?_
                        show (fun L' M' Γ' => ∃ (xs : List (List Int)) (cost : Int) (ax : Option Addr) (cx : Nat), Keep L' [(20, .slice ax xs.length cx), (24, vint cost), (3, vint at0), (4, vint how), (5, vint by0), (13, .pointer (some (adr (some ⟨b13, 0, none⟩) 0))), (14, .pointer (some (adr (some ⟨b14, 0, none⟩) 0))), (15, .slice ap (Q.map (pairOf (pon a 0) (pon b 0))).length cp), (16, vint n), (17, .slice ad d.length cd), (18, .slice (some ⟨b45, 0, none⟩) 3 3), (19, vint i)] ∧ M' = M9 ∧ SealT w0 M9 Γ' xs (.slice ax xs.length cx) (.own b14 31 us28 :: .own b13 31 us26 :: Γ)) _ _ _
                        refine ⟨d, n + around by0 3 - 1, a20, c20, (by repeat (first | exact Keep.nil _ | refine Keep.cons _ rfl ?_)), rfl, ?_⟩
                        refine sealT_eq hld ?_
                        exact sealT_mk (l := l9) (u := .slice a20 d.length c20) (by rw [hus]; exact List.Perm.refl _) hlr (by unfold lim; omega) hll.symm (List.Sublist.refl _)
                      · refine CW.seq fun K31 hK31 => ?_
                        refine CW.region ?_
                        refine RL.q (Y.eql rfl rfl) rfl ?_
                        refine RL.q (Y.assign rfl) rfl ?_
                        refine RL.nil ?_
                        refine hK31 _ _ _ ?_
                        refine CW.keep (Keep.cons 3 rfl (Keep.cons 4 rfl (Keep.cons 5 rfl (Keep.cons 13 rfl (Keep.cons 14 rfl (Keep.cons 15 rfl (Keep.cons 16 rfl (Keep.cons 17 rfl (Keep.cons 18 rfl (Keep.cons 19 rfl (Keep.cons 20 rfl (Keep.cons 22 rfl (Keep.cons 24 rfl (Keep.cons 80 rfl (Keep.cons 146 rfl (Keep.nil _)))))))))))))))) ?_
                        refine CW.ite rfl (fun h11 => ?_) (fun h11 => ?_)
                        · refine CW.seq fun K32 hK32 => ?_
                          clear hρ hρ1 hρ0 hγ hγ0 hγ1
                          obtain ⟨ρ, hρe⟩ : ∃ ρ, ρ = d.length - 1 := ⟨_, rfl⟩
                          obtain ⟨γ, hγe⟩ : ∃ γ, γ = (pon b 0).length - 1 := ⟨_, rfl⟩
                          obtain ⟨p, hli2, hdp⟩ := rows_at hld (k := ρ) (by omega)
                          have hpl : p.2.length = (pon b 0).length := hbest.fix.ok.row _ (List.mem_of_getElem? hdp)
                          have hgi : us[ρ * 1]? = some (rowvA p) := by rw [Nat.mul_one, ← hus, List.getElem?_map, hli2]; rfl
                          have hγp : γ < p.2.length := by omega
                          refine CW.perm (List.Perm.cons _ ((matA_perm hli2 p).1.append_right _)) ?_
                          refine CW.know (F := p.2.length ≤ p.1.2 ∧ (0 < p.2.length * 1 → p.1.1.isSome = true)) (fun w hw => acc_le (sz := 1) (e := 3) (us := ints p.2) hw (List.mem_cons_of_mem _ (List.mem_cons_self ..))) ?_
                          rintro ⟨hpc, hps⟩
                          have hsome := hps (by omega)
                          clear hps
                          refine CW.regionH mix _ [.acc (.slice a20 d.length c20) 22 1 d.length us] (fun _ hw => hw.sub sub_head) ?_
                          refine HL.take 0 rfl (by kernel_rfl) (by kernel_rfl) (by kernel_rfl) rfl (Y.move rfl) rfl ?_
                          refine HL.take 1 rfl (by kernel_rfl) (by kernel_rfl) (by kernel_rfl) rfl (Y.move rfl) rfl ?_
                          refine HL.take 2 rfl (by kernel_rfl) (by kernel_rfl) (by kernel_rfl) rfl (Y.len rfl Try.underlying35) rfl ?_
                          refine HL.take 3 rfl (by kernel_rfl) (by kernel_rfl) (by kernel_rfl) rfl (Y.sub rfl rfl (by omega)) rfl ?_
                          refine HL.take 4 rfl (by kernel_rfl) (by kernel_rfl) (by kernel_rfl) rfl (Y.indexAcc ρ rfl rfl (by omega) (by omega) slice35 (by repeat (first | exact List.Mem.head _ | apply List.Mem.tail)) hgi) rfl ?_
                          refine HL.take 5 rfl (by kernel_rfl) (by kernel_rfl) (by kernel_rfl) rfl (Y.loadAcc rfl (by repeat (first | exact List.Mem.head _ | apply List.Mem.tail)) hgi flat22) rfl ?_
                          refine HL.take 6 rfl (by kernel_rfl) (by kernel_rfl) (by kernel_rfl) rfl (Y.move rfl) rfl ?_
                          refine HL.take 7 rfl (by kernel_rfl) (by kernel_rfl) (by kernel_rfl) rfl (Y.indexAcc 0 rfl rfl rfl (by omega) slice35 (by repeat (first | exact List.Mem.head _ | apply List.Mem.tail)) hg0) rfl ?_
                          refine HL.take 8 rfl (by kernel_rfl) (by kernel_rfl) (by kernel_rfl) rfl (Y.loadAcc rfl (by repeat (first | exact List.Mem.head _ | apply List.Mem.tail)) hg0 flat22) rfl ?_
                          refine HL.take 9 rfl (by kernel_rfl) (by kernel_rfl) (by kernel_rfl) rfl (Y.len rfl Try.underlying22) rfl ?_
                          refine HL.take 10 rfl (by kernel_rfl) (by kernel_rfl) (by kernel_rfl) rfl (Y.sub rfl rfl (by omega)) rfl ?_
                          refine HL.take 11 rfl (by kernel_rfl) (by kernel_rfl) (by kernel_rfl) rfl (Y.move rfl) rfl ?_
                          refine HL.take 12 rfl (by kernel_rfl) (by kernel_rfl) (by kernel_rfl) rfl (Y.index γ rfl rfl (by omega) hγp slice22 (fun _ _ => hsome)) rfl ?_
                          refine HL.step 13 rfl (by kernel_rfl) ?_
                          refine RL.perm (List.Perm.swap _ _ _) ?_
                          refine RL.storeAcc (ints (p.2.set γ (by0))) rfl rfl (ints_set _ _ γ _ (by omega)) (by rw [ints_len]; omega) (by rfl) size3 ?_
                          refine RL.nil ⟨keep_same (by repeat (first | exact List.Sublist.refl _ | exact List.nil_sublist _ | apply List.Sublist.cons_cons | apply List.Sublist.cons)), ?_⟩
                          refine HL.done (by kernel_rfl) ?_
                          refine hK32 _ _ _ ?_
                          refine CW.keep (Keep.cons 3 rfl (Keep.cons 4 rfl (Keep.cons 5 rfl (Keep.cons 13 rfl (Keep.cons 14 rfl (Keep.cons 15 rfl (Keep.cons 16 rfl (Keep.cons 17 rfl (Keep.cons 18 rfl (Keep.cons 19 rfl (Keep.cons 20 rfl (Keep.nil _)))))))))))) ?_
                          refine CW.region ?_
                          refine RL.q (Y.move rfl) rfl ?_
                          refine RL.q (Y.assign rfl) rfl ?_
                          refine RL.nil ?_
                          show (fun L' M' Γ' => ∃ (xs : List (List Int)) (cost : Int) (ax : Option Addr) (cx : Nat), Keep L' [(20, .slice ax xs.length cx), (24, vint cost), (3, vint at0), (4, vint how), (5, vint by0), (13, .pointer (some (adr (some ⟨b13, 0, none⟩) 0))), (14, .pointer (some (adr (some ⟨b14, 0, none⟩) 0))), (15, .slice ap (Q.map (pairOf (pon a 0) (pon b 0))).length cp), (16, vint n), (17, .slice ad d.length cd), (18, .slice (some ⟨b45, 0, none⟩) 3 3), (19, vint i)] ∧ M' = M9 ∧ SealT w0 M9 Γ' xs (.slice ax xs.length cx) (.own b14 31 us28 :: .own b13 31 us26 :: Γ)) _ _ _
                          have hxl : ((l9.set ρ (p.1, p.2.set γ (by0))).map (·.2)).length = d.length := by rw [List.length_map, List.length_set, hll]
                          refine ⟨(l9.set ρ (p.1, p.2.set γ (by0))).map (·.2), by0, a20, c20, ?_, rfl, ?_⟩
                          · rw [hxl]
                            exact (by repeat (first | exact Keep.nil _ | refine Keep.cons _ rfl ?_))
                          · rw [hxl]
                            refine sealT_pre ?_ (sealT_set (p := p) (R := .own b14 31 us28 :: .own b13 31 us26 :: Γ) (p.1, p.2.set γ (by0)) hli2 (us := us) (by rw [rowvA_set hli2 (by simp [rowvA])]; exact hus.symm) hlr (by rw [List.length_set]; unfold lim; omega) (by unfold lim; omega) hll.symm (List.Sublist.refl _))
                            intro w hw
                            simpa [rowA, rowvA] using hw
                        · refine CW.seq fun K33 hK33 => ?_
                          refine CW.region ?_
                          refine RL.q (Y.eql rfl rfl) rfl ?_
                          refine RL.q (Y.assign rfl) rfl ?_
                          refine RL.nil ?_
                          refine hK33 _ _ _ ?_
                          refine CW.keep (Keep.cons 3 rfl (Keep.cons 4 rfl (Keep.cons 5 rfl (Keep.cons 13 rfl (Keep.cons 14 rfl (Keep.cons 15 rfl (Keep.cons 16 rfl (Keep.cons 17 rfl (Keep.cons 18 rfl (Keep.cons 19 rfl (Keep.cons 20 rfl (Keep.cons 22 rfl (Keep.cons 24 rfl (Keep.cons 162 rfl (Keep.nil _))))))))))))))) ?_
                          refine CW.ite rfl (fun h12 => ?_) (fun h12 => ?_)
                          · obtain ⟨p, hli2, hdp⟩ := rows_at hld (k := ρ) (by omega)
                            have hpl : p.2.length = (pon b 0).length := hbest.fix.ok.row _ (List.mem_of_getElem? hdp)
                            have hgi : us[ρ * 1]? = some (rowvA p) := by rw [Nat.mul_one, ← hus, List.getElem?_map, hli2]; rfl
                            have hγp : γ < p.2.length := by omega
                            refine CW.perm (List.Perm.cons _ ((matA_perm hli2 p).1.append_right _)) ?_
                            refine CW.know (F := p.2.length ≤ p.1.2 ∧ (0 < p.2.length * 1 → p.1.1.isSome = true)) (fun w hw => acc_le (sz := 1) (e := 3) (us := ints p.2) hw (List.mem_cons_of_mem _ (List.mem_cons_self ..))) ?_
                            rintro ⟨hpc, hps⟩
                            have hsome := hps (by omega)
                            clear hps
                            refine CW.region ?_
                            refine RL.q (Y.move rfl) rfl ?_
                            refine RL.q (Y.move rfl) rfl ?_
                            refine RL.q (Y.move rfl) rfl ?_
                            refine RL.q (Y.move rfl) rfl ?_
                            refine RL.q (Y.indexAcc ρ rfl rfl rfl (by omega) slice35 (by repeat (first | exact List.Mem.head _ | apply List.Mem.tail)) hgi) rfl ?_
                            refine RL.q (Y.loadAcc rfl (by repeat (first | exact List.Mem.head _ | apply List.Mem.tail)) hgi flat22) rfl ?_
                            refine RL.buildSlice [vint 0] elem22 rfl (by decide) (fill1 rfl rfl) rfl fun b170 => ?_
                            refine RL.append elem22 rfl rfl (by repeat (first | exact Pick.here _ | apply Pick.there)) (SrcOk.own (by repeat (first | exact List.Mem.head _ | apply List.Mem.tail)) (by rfl) (by simp [Value.oneCell'])) (by first | omega | (unfold lim; omega)) (by first | omega | (unfold lim; omega)) rfl fun a171 c171 hc171 => ?_
                            refine RL.q (Y.indexAcc ρ rfl rfl rfl (by omega) slice35 (by repeat (first | exact List.Mem.head _ | apply List.Mem.tail)) hgi) rfl ?_
                            refine RL.perm (List.Perm.trans (List.Perm.swap _ _ _) (List.Perm.cons _ (List.Perm.refl _))) ?_
                            refine RL.perm (Pick.perm (x := .acc (.slice a20 d.length c20) 22 1 d.length us) (by repeat (first | exact Pick.here _ | apply Pick.there))) ?_
                            refine RL.storeAcc (us.set ρ (.slice a171 (p.2.length + 1) c171)) rfl rfl (by rw [Nat.mul_one]) (by omega) (by rfl) size22 ?_
                            refine RL.nil ?_
                            show (fun L' M' Γ' => ∃ (xs : List (List Int)) (cost : Int) (ax : Option Addr) (cx : Nat), Keep L' [(20, .slice ax xs.length cx), (24, vint cost), (3, vint at0), (4, vint how), (5, vint by0), (13, .pointer (some (adr (some ⟨b13, 0, none⟩) 0))), (14, .pointer (some (adr (some ⟨b14, 0, none⟩) 0))), (15, .slice ap (Q.map (pairOf (pon a 0) (pon b 0))).length cp), (16, vint n), (17, .slice ad d.length cd), (18, .slice (some ⟨b45, 0, none⟩) 3 3), (19, vint i)] ∧ M' = M9 ∧ SealT w0 M9 Γ' xs (.slice ax xs.length cx) (.own b14 31 us28 :: .own b13 31 us26 :: Γ)) _ _ _
                            have hxl : ((l9.set ρ ((a171, c171), p.2 ++ [0])).map (·.2)).length = d.length := by rw [List.length_map, List.length_set, hll]
                            have htl : (p.2 ++ [(0 : Int)]).length = p.2.length + 1 := by simp
                            refine ⟨(l9.set ρ ((a171, c171), p.2 ++ [0])).map (·.2), n, a20, c20, ?_, rfl, ?_⟩
                            · rw [hxl]
                              exact (by repeat (first | exact Keep.nil _ | refine Keep.cons _ rfl ?_))
                            · rw [hxl]
                              refine sealT_pre ?_ (sealT_set (p := p) (R := .own b14 31 us28 :: .own b13 31 us26 :: Γ) ((a171, c171), p.2 ++ [0]) hli2 (us := us.set ρ (.slice a171 (p.2.length + 1) c171)) (by rw [List.map_set, hus]; simp only [rowvA, htl]) hlr (by rw [htl]; unfold lim; omega) (by unfold lim; omega) hll.symm (List.Sublist.refl _))
                              intro w hw
                              have h1 := hw.perm (List.Perm.trans (List.Perm.cons _ (List.Perm.swap _ _ _)) (List.Perm.swap _ _ _))
                              have h2 := h1.sub (List.Sublist.cons_cons _ (List.Sublist.cons_cons _ (List.Sublist.cons _ (List.Sublist.refl _))))
                              simpa [rowA, rowvA, htl] using h2
                          · refine CW.skip ?_
                            show (fun L' M' Γ' => ∃ (xs : List (List Int)) (cost : Int) (ax : Option Addr) (cx : Nat), Keep L' [(20, .slice ax xs.length cx), (24, vint cost), (3, vint at0), (4, vint how), (5, vint by0), (13, .pointer (some (adr (some ⟨b13, 0, none⟩) 0))), (14, .pointer (some (adr (some ⟨b14, 0, none⟩) 0))), (15, .slice ap (Q.map (pairOf (pon a 0) (pon b 0))).length cp), (16, vint n), (17, .slice ad d.length cd), (18, .slice (some ⟨b45, 0, none⟩) 3 3), (19, vint i)] ∧ M' = M9 ∧ SealT w0 M9 Γ' xs (.slice ax xs.length cx) (.own b14 31 us28 :: .own b13 31 us26 :: Γ)) _ _ _
                            refine ⟨d, n, a20, c20, (by repeat (first | exact Keep.nil _ | refine Keep.cons _ rfl ?_)), rfl, ?_⟩
                            refine sealT_eq hld ?_
                            exact sealT_mk (l := l9) (u := .slice a20 d.length c20) (by rw [hus]; exact List.Perm.refl _) hlr (by unfold lim; omega) hll.symm (List.Sublist.refl _)
          · refine CW.skip ?_
            show (fun L' M' Γ' => ∃ (xs : List (List Int)) (cost : Int) (ax : Option Addr) (cx : Nat), Keep L' [(20, .slice ax xs.length cx), (24, vint cost), (3, vint at0), (4, vint how), (5, vint by0), (13, .pointer (some (adr (some ⟨b13, 0, none⟩) 0))), (14, .pointer (some (adr (some ⟨b14, 0, none⟩) 0))), (15, .slice ap (Q.map (pairOf (pon a 0) (pon b 0))).length cp), (16, vint n), (17, .slice ad d.length cd), (18, .slice (some ⟨b45, 0, none⟩) 3 3), (19, vint i)] ∧ M' = M9 ∧ SealT w0 M9 Γ' xs (.slice ax xs.length cx) (.own b14 31 us28 :: .own b13 31 us26 :: Γ)) _ _ _
            refine ⟨d, n, a20, c20, (by repeat (first | exact Keep.nil _ | refine Keep.cons _ rfl ?_)), rfl, ?_⟩
            refine sealT_eq hld ?_
            exact sealT_mk (l := l9) (u := .slice a20 d.length c20) (by rw [hus]; exact List.Perm.refl _) hlr (by unfold lim; omega) hll.symm (List.Sublist.refl _)
        · rintro _ M9 Γ37 ⟨xs, cost, ax, cx, hk37, rfl, hS⟩
          refine CW.keep hk37 ?_
          refine CW.sealT hS fun M10 hs10 hx10 => ?_
          refine CW.seq fun K34 hK34 => ?_
          have hil : i < ls.length := by omega
          have hlsM := Rd.mono (hsub.trans hs10) _ _ hlsR
          obtain ⟨uL, hcL, hrL2⟩ := hlsM.cell (q := i * 1) (dl_get hil)
          obtain ⟨aL, cL, rfl, _, _, _⟩ := hrL2.slice
          have hsA10 := hsA.trans (hsub.trans hs10)
          have hsB10 := hsB.trans (hsub.trans hs10)
          refine CW.regionH mix _ [.own b14 31 us28, .own b13 31 us26] (fun _ hw => hw.sub (by repeat (first | exact List.Sublist.refl _ | exact List.nil_sublist _ | apply List.Sublist.cons_cons | apply List.Sublist.cons))) ?_
          refine HL.take 0 rfl (by kernel_rfl) (by kernel_rfl) (by kernel_rfl) rfl (Y.loadAll rfl (by repeat (first | exact List.Mem.head _ | apply List.Mem.tail)) hul26 agg31) rfl ?_
          refine HL.take 1 rfl (by kernel_rfl) (by kernel_rfl) (by kernel_rfl) rfl (Y.loadAll rfl (by repeat (first | exact List.Mem.head _ | apply List.Mem.tail)) hul28 agg31) rfl ?_
          refine HL.take 2 rfl (by kernel_rfl) (by kernel_rfl) (by kernel_rfl) rfl (Y.move rfl) rfl ?_
          refine HL.take 3 rfl (by kernel_rfl) (by kernel_rfl) (by kernel_rfl) rfl (Y.move rfl) rfl ?_
          refine HL.take 4 rfl (by kernel_rfl) (by kernel_rfl) (by kernel_rfl) rfl (Y.indexP i rfl rfl rfl (by omega) slice56 hlsM) rfl ?_
          refine HL.take 5 rfl (by kernel_rfl) (by kernel_rfl) (by kernel_rfl) rfl (Y.loadC rfl hcL flat34) rfl ?_
          refine HL.take 6 rfl (by kernel_rfl) (by kernel_rfl) (by kernel_rfl) rfl (Y.move rfl) rfl ?_
          refine HL.take 7 rfl (by kernel_rfl) (by kernel_rfl) (by kernel_rfl) rfl (Y.move rfl) rfl ?_
          refine HL.take 9 rfl (by kernel_rfl) (by kernel_rfl) (by kernel_rfl) rfl (Y.loadAll rfl (by repeat (first | exact List.Mem.head _ | apply List.Mem.tail)) hul26 agg31) rfl ?_
          refine HL.take 10 rfl (by kernel_rfl) (by kernel_rfl) (by kernel_rfl) rfl (Y.loadAll rfl (by repeat (first | exact List.Mem.head _ | apply List.Mem.tail)) hul28 agg31) rfl ?_
          refine HL.take 11 rfl (by kernel_rfl) (by kernel_rfl) (by kernel_rfl) rfl (Y.move rfl) rfl ?_
          refine HL.take 12 rfl (by kernel_rfl) (by kernel_rfl) (by kernel_rfl) rfl (Y.move rfl) rfl ?_
          refine HL.take 13 rfl (by kernel_rfl) (by kernel_rfl) (by kernel_rfl) rfl (Y.indexP i rfl rfl rfl (by omega) slice56 hlsM) rfl ?_
          refine HL.take 14 rfl (by kernel_rfl) (by kernel_rfl) (by kernel_rfl) rfl (Y.loadC rfl hcL flat34) rfl ?_
          refine HL.take 16 rfl (by kernel_rfl) (by kernel_rfl) (by kernel_rfl) rfl (Y.move rfl) rfl ?_
          refine HL.take 17 rfl (by kernel_rfl) (by kernel_rfl) (by kernel_rfl) rfl (Y.move rfl) rfl ?_
          refine HL.step 8 rfl (by kernel_rfl) ?_
          refine RL.callv rfl func25 rfl rfl (mCheck_ok _ _ _ a b us26 us28 ls[i] _ cost xs _ (hu26.mono (by first | exact hsA10 | exact hsA10.trans hs188)) (hu28.mono (by first | exact hsB10 | exact hsB10.trans hs188)) (Rd.mono (by first | exact Sub.refl _ | exact hs188) _ _ hrL2) (by have := hlsl _ (List.getElem_mem hil); omega) (Rd.mono (by first | exact Sub.refl _ | exact hs188) _ _ hx10)) ?_
          refine RL.nil ⟨(by first | exact keep_same (by repeat (first | exact List.Sublist.refl _ | exact List.nil_sublist _ | apply List.Sublist.cons_cons | apply List.Sublist.cons)) | exact keep_more hs188 (by repeat (first | exact List.Sublist.refl _ | exact List.nil_sublist _ | apply List.Sublist.cons_cons | apply List.Sublist.cons))), ?_⟩
          refine HL.step 15 rfl (by kernel_rfl) ?_
          refine RL.call rfl func16 rfl rfl (plain_ok _ _ _ ls[i] _ hrL2 (by have := hlsl _ (List.getElem_mem hil); omega)) ?_
          rintro v188 M188 _ ⟨hs188, rfl, h188⟩
          refine RL.nil ⟨keep_more hs188 (by repeat (first | exact List.Sublist.refl _ | exact List.nil_sublist _ | apply List.Sublist.cons_cons | apply List.Sublist.cons)), ?_⟩
          refine HL.step 18 rfl (by kernel_rfl) ?_
          refine RL.callv rfl func26 rfl rfl (rcheck_ok _ _ _ a b us26 us28 ls[i] _ cost xs _ (hu26.mono (hsA10.trans hs188)) (hu28.mono (hsB10.trans hs188)) h188 (by have := hlsl _ (List.getElem_mem hil); omega) (Rd.mono hs188 _ _ hx10) hg) ?_
          refine RL.nil ⟨keep_more hs188 (by repeat (first | exact List.Sublist.refl _ | exact List.nil_sublist _ | apply List.Sublist.cons_cons | apply List.Sublist.cons)), ?_⟩
          refine HL.take 19 rfl (by kernel_rfl) (by kernel_rfl) (by kernel_rfl) rfl (Y.neq rfl rfl) rfl ?_
          refine HL.done (by kernel_rfl) ?_
          refine hK34 _ _ _ ?_
          refine CW.keep (Keep.cons 3 rfl (Keep.cons 4 rfl (Keep.cons 5 rfl (Keep.cons 13 rfl (Keep.cons 14 rfl (Keep.cons 15 rfl (Keep.cons 16 rfl (Keep.cons 17 rfl (Keep.cons 18 rfl (Keep.cons 19 rfl (Keep.cons 192 rfl (Keep.nil _)))))))))))) ?_
          refine CW.ite rfl (fun h13 => ?_) (fun h13 => ?_)
          · refine CW.seq fun K35 hK35 => ?_
            refine CW.region ?_
            refine RL.q (Y.assign rfl) rfl ?_
            refine RL.nil ?_
            refine hK35 _ _ _ ?_
            refine CW.keep (Keep.cons 12 rfl (Keep.nil _)) ?_
            refine CW.ret ?_
            exact absurd rfl h13
          · refine CW.skip ?_
            refine hK13 _ _ _ ?_
            refine CW.region ?_
            refine RL.q (Y.move rfl) rfl ?_
            refine RL.q (Y.add rfl rfl (by omega)) rfl ?_
            refine RL.q (Y.assign rfl) rfl ?_
            refine RL.nil ?_
            refine ⟨3 - (i + 1), [(19, _)], ?_, (Keep.cons 19 rfl (Keep.cons 3 rfl (Keep.cons 4 rfl (Keep.cons 5 rfl (Keep.cons 13 rfl (Keep.cons 14 rfl (Keep.cons 15 rfl (Keep.cons 16 rfl (Keep.cons 17 rfl (Keep.cons 18 rfl (Keep.nil _))))))))))), ?_⟩
            · omega
            · exact Turn.drop ⟨[], rfl, hsub.trans (hs10.trans hs188), i + 1, rfl, by omega, rfl, rfl⟩ (by repeat (first | exact List.Sublist.refl _ | apply List.Sublist.cons_cons | apply List.Sublist.cons))
    · refine CW.exit ?_
      refine hK9 _ _ _ ?_
      refine CW.seq fun K36 hK36 => ?_
      refine CW.region ?_
      refine RL.q (Y.loadAll rfl (by repeat (first | exact List.Mem.head _ | apply List.Mem.tail)) hul26 agg31) rfl ?_
      refine RL.q (Y.loadAll rfl (by repeat (first | exact List.Mem.head _ | apply List.Mem.tail)) hul28 agg31) rfl ?_
      refine RL.q (Y.move rfl) rfl ?_
      refine RL.q (Y.move rfl) rfl ?_
      refine RL.q (Y.move rfl) rfl ?_
      refine RL.callv rfl func25 rfl rfl (checkB_ok _ _ _ a b us26 us28 (Q.map (pairOf (pon a 0) (pon b 0))) _ n d _ (hu26.mono (hsA.trans hsub)) (hu28.mono (hsB.trans hsub)) (Rd.mono (hsC.trans hsub) _ _ hup) (by rw [List.length_map]; omega) (Rd.mono (hsC.trans hsub) _ _ hud) hg (hbest.check hg)) ?_
      refine RL.qs (Y.eql rfl rfl) rfl (fun g199 => ?_) (fun g199 => ?_)
      · refine RL.q (Y.move rfl) rfl ?_
        refine RL.callv ⟨_, _, rfl, rfl, rfl⟩ func21 rfl rfl (lives_ok _ _ _) ?_
        refine RL.q (Y.pickT rfl rfl) rfl ?_
        refine RL.q (Y.assign rfl) rfl ?_
        refine RL.nil ?_
        refine hK36 _ _ _ ?_
        refine CW.keep (Keep.cons 12 rfl (Keep.nil _)) ?_
        refine CW.ret ?_
        refine ⟨_, rfl, ?_⟩
        exact Turn.back hw1 (hs26.trans (hsA.trans (hsub))) ⟨rfl, rfl, rfl⟩ (by repeat (first | exact List.Sublist.refl _ | apply List.Sublist.cons_cons | apply List.Sublist.cons))
      · refine RL.q (Y.move rfl) rfl ?_
        refine RL.no ⟨_, _, rfl, rfl, rfl⟩ rfl ?_
        refine RL.q (Y.pickF rfl rfl) rfl ?_
        refine RL.q (Y.assign rfl) rfl ?_
        refine RL.nil ?_
        refine hK36 _ _ _ ?_
        refine CW.keep (Keep.cons 12 rfl (Keep.nil _)) ?_
        refine CW.ret ?_
        exact absurd rfl g199
end Go.Proofs.Ytjkcjbicleohkaa
