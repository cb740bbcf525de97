/- THE WALKS, 16: Match. Printed by m16p.py. -/
import Derived.Test.YtjkcjbicleohkaaWo
import Derived.Test.YtjkcjbicleohkaaBest
namespace Go.Proofs.Ytjkcjbicleohkaa
open Xe

theorem mn_ok (w0 : World) (M : Mem) (Γ : List As) (e : Ex) (vs : List Value) (hvs : RdL M e.enc vs) :
    CallOk Try.prog w0 M Γ 34 #[.agg vs.toArray] (Gives M Γ fun M' v => ∃ u, v = .tuple #[u, .bool (decide (good e))] ∧ (good e → Rd M' (MNode.encs (pon e 0)) u)) := by
  refine (mnodes_ok w0 M Γ e vs hvs).mono ?_
  rintro v M' Γ' ⟨h1, h2, u, ok, h3, h4⟩
  refine ⟨h1, h2, u, ?_⟩
  by_cases hg : good e
  · cases ok with
    | true =>
      simp only [if_true] at h4
      obtain ⟨p, h5, h6⟩ := h4
      rw [mvisit_good hg] at h5
      cases h5
      exact ⟨by rw [h3, decide_eq_true hg], fun _ => h6⟩
    | false => simp [mvisit_good hg] at h4
  · cases ok with
    | true =>
      simp only [if_true] at h4
      obtain ⟨p, h5, h6⟩ := h4
      rw [mvisit_bad hg] at h5
      cases h5
    | false => exact ⟨by rw [h3, decide_eq_false hg], fun h => absurd h hg⟩
/-- What Match hands back. -/
def MatchR (e1 e2 : Ex) (M' : Mem) (v : Value) : Prop :=
  (good e1 ∧ good e2 → ∃ d n Q up ud, v = .tuple #[up, vint n, ud] ∧ Best (pon e1 0) (pon e2 0) d n Q ∧ Rd M' (PairD.encs (Q.map (pairOf (pon e1 0) (pon e2 0)))) up ∧ Rd M' (dtab d) ud) ∧
  (¬ (good e1 ∧ good e2) → v = .tuple #[.slice none 0 0, vint (-1), .slice none 0 0])
theorem MatchR.bad {e1 e2 : Ex} {M' : Mem} (h : ¬ (good e1 ∧ good e2)) : MatchR e1 e2 M' (.tuple #[.slice none 0 0, vint (-1), .slice none 0 0]) := ⟨fun h' => absurd h' h, fun _ => rfl⟩
theorem MatchR.good {e1 e2 : Ex} {M' : Mem} {v : Value} (h : good e1 ∧ good e2) (hr : ∃ d n Q up ud, v = .tuple #[up, vint n, ud] ∧ Best (pon e1 0) (pon e2 0) d n Q ∧ Rd M' (PairD.encs (Q.map (pairOf (pon e1 0) (pon e2 0)))) up ∧ Rd M' (dtab d) ud) : MatchR e1 e2 M' v := ⟨fun _ => hr, fun h' => absurd h h'⟩

set_option maxHeartbeats 1000000 in
theorem match_ok (w0 : World) (M : Mem) (Γ : List As) (e1 e2 : Ex) (vs1 vs2 : List Value) (hv1 : RdL M e1.enc vs1) (hv2 : RdL M e2.enc vs2) :
    CallOk Try.prog w0 M Γ 13 #[.agg vs1.toArray, .agg vs2.toArray] (Gives M Γ (MatchR e1 e2)) := by
  have hl1 : vs1.length = 15 := hv1.1.trans (Ex.enc_len e1)
  have hl2 : vs2.length = 15 := hv2.1.trans (Ex.enc_len e2)
  refine enter3 (f := 13) Try.func13 rfl Try.ntmps13 rfl rfl fun w1 hw1 => ?_
  refine CW.seq fun K1 hK1 => ?_
  refine CW.region ?_
  refine RL.box _ rfl rfl rfl fun b2 => ?_
  refine RL.box _ rfl rfl rfl fun b3 => ?_
  refine RL.q (Y.assign rfl) rfl ?_
  refine RL.q (Y.assign rfl) rfl ?_
  refine RL.q (Y.assign rfl) rfl ?_
  refine RL.nil ?_
  refine hK1 _ _ _ ?_
  refine CW.keep (Keep.cons 2 rfl (Keep.cons 3 rfl (Keep.nil _))) ?_
  refine CW.seq fun K2 hK2 => ?_
  refine CW.region ?_
  refine RL.q (Y.loadAll rfl (by repeat (first | exact List.Mem.head _ | apply List.Mem.tail)) hl1 agg31) rfl ?_
  refine RL.call rfl func34 rfl rfl (mn_ok _ _ _ e1 vs1 hv1) ?_
  rintro _ M1 _ ⟨hs1, rfl, u1, rfl, hu1⟩
  refine RL.q (Y.move rfl) rfl ?_
  refine RL.q (Y.extract rfl rfl) rfl ?_
  refine RL.q (Y.extract rfl rfl) rfl ?_
  refine RL.q (Y.assign rfl) rfl ?_
  refine RL.q (Y.assign rfl) rfl ?_
  refine RL.nil ?_
  refine hK2 _ _ _ ?_
  refine CW.keep (Keep.cons 3 rfl (Keep.cons 7 rfl (Keep.cons 8 rfl (Keep.nil _)))) ?_
  refine CW.seq fun K3 hK3 => ?_
  refine CW.region ?_
  refine RL.q (Y.loadAll rfl (by repeat (first | exact List.Mem.head _ | apply List.Mem.tail)) hl2 agg31) rfl ?_
  refine RL.call rfl func34 rfl rfl (mn_ok _ _ _ e2 vs2 (hv2.mono hs1)) ?_
  rintro _ M2 _ ⟨hs2, rfl, u2, rfl, hu2⟩
  refine RL.q (Y.move rfl) rfl ?_
  refine RL.q (Y.extract rfl rfl) rfl ?_
  refine RL.q (Y.extract rfl rfl) rfl ?_
  refine RL.q (Y.assign rfl) rfl ?_
  refine RL.q (Y.assign rfl) rfl ?_
  refine RL.nil ?_
  refine hK3 _ _ _ ?_
  refine CW.keep (Keep.cons 7 rfl (Keep.cons 8 rfl (Keep.cons 9 rfl (Keep.cons 10 rfl (Keep.nil _))))) ?_
  refine CW.seq fun K4 hK4 => ?_
  refine CW.seq fun K5 hK5 => ?_
  refine CW.region ?_
  refine RL.qs (Y.move rfl) rfl (fun g31 => ?_) (fun g31 => ?_)
  · refine RL.q (Y.not rfl) rfl ?_
    refine RL.q (Y.move rfl) rfl ?_
    refine RL.qg ⟨_, _, rfl, rfl, rfl⟩ (Y.move rfl) rfl ?_
    refine RL.qg ⟨_, _, rfl, rfl, rfl⟩ (Y.notD rfl) rfl ?_
    refine RL.q (Y.pickF rfl rfl) rfl ?_
    refine RL.nil ?_
    refine hK5 _ _ _ ?_
    refine CW.keep (Keep.cons 7 rfl (Keep.cons 9 rfl (Keep.cons 36 rfl (Keep.nil _)))) ?_
    refine CW.ite rfl (fun h1 => ?_) (fun h1 => ?_)
    · refine CW.seq fun K6 hK6 => ?_
      refine CW.region ?_
      refine RL.q (Y.assign rfl) rfl ?_
      refine RL.q (Y.assign rfl) rfl ?_
      refine RL.q (Y.assign rfl) rfl ?_
      refine RL.nil ?_
      refine hK6 _ _ _ ?_
      refine CW.keep (Keep.cons 4 rfl (Keep.cons 5 rfl (Keep.cons 6 rfl (Keep.nil _)))) ?_
      refine CW.ret ?_
      refine ⟨_, _, _, rfl, rfl, rfl, Turn.drop ⟨hs1.trans hs2, rfl, MatchR.bad (fun h => h1 h.2)⟩ (by repeat (first | exact List.Sublist.refl _ | apply List.Sublist.cons_cons | apply List.Sublist.cons))⟩
    · refine CW.skip ?_
      refine hK4 _ _ _ ?_
      refine CW.seq fun K7 hK7 => ?_
      have hg2 := Decidable.not_not.1 h1
      have hu1 := Rd.mono hs2 _ _ (hu1 g31)
      have hu2 := hu2 hg2
      have hwa := pon_whole e1
      have hwb := pon_whole e2
      have hlA := pon_len e1 0
      have hlB := pon_len e2 0
      have hla1 := g31.2.1
      have hlb1 := hg2.2.1
      obtain ⟨A, hAe⟩ : ∃ A, A = pon e1 0 := ⟨_, rfl⟩
      obtain ⟨B, hBe⟩ : ∃ B, B = pon e2 0 := ⟨_, rfl⟩
      rw [← hAe] at hwa hlA hu1
      rw [← hBe] at hwb hlB hu2
      have hpa := hwa.post
      have hpb := hwb.post
      have hA0 := hwa.pos
      have hB0 := hwb.pos
      obtain ⟨a1, c1, rfl, hc1, hlim1, hlen1⟩ := hu1.slice
      obtain ⟨a2, c2, rfl, hcc2, hlim2, hlen2⟩ := hu2.slice
      refine CW.region ?_
      refine RL.q (Y.move rfl) rfl ?_
      refine RL.q (Y.len rfl Try.underlying74) rfl ?_
      refine RL.make (k := A.length) elem35 zero22 rfl rfl (by rfl) (by rfl) (by first | omega | (unfold lim; omega)) (by first | omega | (unfold lim; omega)) rfl fun b39 => ?_
      refine RL.q (Y.assign rfl) rfl ?_
      refine RL.nil ?_
      refine hK7 _ _ _ ?_
      refine CW.keep (Keep.cons 7 rfl (Keep.cons 9 rfl (Keep.cons 11 rfl (Keep.nil _)))) ?_
      rw [made_nils]
      refine CW.seq fun K8 hK8 => ?_
      refine CW.seq fun K9 hK9 => ?_
      refine CW.region ?_
      refine RL.q (Y.move rfl) rfl ?_
      refine RL.q (Y.len rfl Try.underlying74) rfl ?_
      refine RL.q (Y.move rfl) rfl ?_
      refine RL.nil ?_
      refine hK9 _ _ _ ?_
      refine CW.keep (Keep.cons 7 rfl (Keep.cons 9 rfl (Keep.cons 11 rfl (Keep.cons 41 rfl (Keep.cons 42 rfl (Keep.nil _)))))) ?_
      refine CW.block ?_
      -- LOOP 1: live [7, 9, 11, 41, 42] changed [42]
      refine CW.keep (Keep.cons 42 rfl (Keep.cons 7 rfl (Keep.cons 9 rfl (Keep.cons 11 rfl (Keep.cons 41 rfl (Keep.nil _)))))) ?_
      refine CW.loopF (fun mm Lc M3 Γc => ∃ (i : Nat) (l : List (Nat × List Int)) (us : List Value), mm = A.length - i ∧ i ≤ A.length ∧ Lc = [(42, vint i)] ∧ Γc = .own b39 22 (outerP us A.length) :: mat l ∧ M3 = M2 ∧ us.length = i ∧ l.map rowv = us ∧ rows l = List.replicate i (List.replicate B.length 0)) A.length [(42, _)] (.own b39 22 (outerP [] A.length) :: mat []) rfl rfl ⟨0, [], [], rfl, Nat.zero_le _, rfl, rfl, rfl, rfl, rfl, rfl⟩ ?_
      rintro mm Lc M3 Γc hsub ⟨i, l, us, rfl, hi, rfl, rfl, rfl, hul, hus, hrl⟩
      refine CW.drop (List.Sublist.refl (.own b39 22 (outerP us A.length) :: (mat l ++ _))) ?_
      refine CW.seq fun K10 hK10 => ?_
      refine CW.region ?_
      refine RL.q (Y.lss rfl rfl) rfl ?_
      refine RL.nil ?_
      refine hK10 _ _ _ ?_
      refine CW.keep (Keep.cons 7 rfl (Keep.cons 9 rfl (Keep.cons 11 rfl (Keep.cons 41 rfl (Keep.cons 42 rfl (Keep.cons 43 rfl (Keep.nil _))))))) ?_
      refine CW.seq fun K11 hK11 => ?_
      refine CW.ite rfl (fun h2 => ?_) (fun h2 => ?_)
      · refine CW.skip ?_
        refine hK11 _ _ _ ?_
        refine CW.seq fun K12 hK12 => ?_
        refine CW.block ?_
        refine CW.seq fun K13 hK13 => ?_
        refine CW.region ?_
        refine RL.q (Y.move rfl) rfl ?_
        refine RL.q (Y.assign rfl) rfl ?_
        refine RL.nil ?_
        refine hK13 _ _ _ ?_
        refine CW.keep (Keep.cons 7 rfl (Keep.cons 9 rfl (Keep.cons 11 rfl (Keep.cons 12 rfl (Keep.cons 41 rfl (Keep.cons 42 rfl (Keep.nil _))))))) ?_
        refine CW.region ?_
        refine RL.q (Y.move rfl) rfl ?_
        refine RL.q (Y.move rfl) rfl ?_
        refine RL.q (Y.move rfl) rfl ?_
        refine RL.q (Y.len rfl Try.underlying74) rfl ?_
        refine RL.make (k := B.length) elem22 zero3 rfl rfl (by rfl) (by rfl) (by first | omega | (unfold lim; omega)) (by first | omega | (unfold lim; omega)) rfl fun b49 => ?_
        refine RL.q (Y.index i rfl rfl rfl (by omega) slice35 (fun _ _ => rfl)) rfl ?_
        refine RL.store (outerP (us ++ [Value.slice (some ⟨b49, 0, none⟩) B.length B.length]) A.length) rfl rfl (by repeat (first | exact Repl.here _ | apply Repl.there)) (outerP_set (by omega) (by omega)) (by rw [outerP_len (by omega)]; omega) (by rfl) size22 ?_
        refine RL.nil ?_
        refine hK12 _ _ _ ?_
        refine CW.keep (Keep.cons 7 rfl (Keep.cons 9 rfl (Keep.cons 11 rfl (Keep.cons 41 rfl (Keep.cons 42 rfl (Keep.nil _)))))) ?_
        rw [made_ints]
        refine CW.front (x := .own b49 _ _) (by repeat (first | exact Pick.here _ | apply Pick.there)) ?_
        refine CW.matPush [_] (b49, List.replicate B.length 0) ?_
        refine CW.region ?_
        refine RL.q (Y.add rfl rfl (by omega)) rfl ?_
        refine RL.q (Y.move rfl) rfl ?_
        refine RL.nil ?_
        refine ⟨A.length - (i + 1), [(42, _)], ?_, (Keep.cons 42 rfl (Keep.cons 7 rfl (Keep.cons 9 rfl (Keep.cons 11 rfl (Keep.cons 41 rfl (Keep.nil _)))))), ?_⟩
        · omega
        · exact Turn.drop ⟨.own b39 22 (outerP (us ++ [Value.slice (some ⟨b49, 0, none⟩) B.length B.length]) A.length) :: mat (l ++ [(b49, List.replicate B.length 0)]), rfl, hsub, i + 1, _, _, rfl, by omega, rfl, rfl, rfl, by rw [List.length_append, hul]; rfl, by rw [List.map_append, hus]; simp [rowv], by rw [rows, List.map_append, ← rows, hrl, List.replicate_succ']; rfl⟩ (List.Sublist.refl _)
      · refine CW.exit ?_
        refine hK8 _ _ _ ?_
        refine CW.seq fun K14 hK14 => ?_
        refine CW.seq fun K15 hK15 => ?_
        refine CW.region ?_
        refine RL.q (Y.move rfl) rfl ?_
        refine RL.q (Y.len rfl Try.underlying74) rfl ?_
        refine RL.q (Y.move rfl) rfl ?_
        refine RL.nil ?_
        refine hK15 _ _ _ ?_
        refine CW.keep (Keep.cons 7 rfl (Keep.cons 9 rfl (Keep.cons 11 rfl (Keep.cons 53 rfl (Keep.cons 54 rfl (Keep.nil _)))))) ?_
        refine CW.block ?_
        -- LOOP 2: live [7, 9, 11, 53, 54] changed [54]
        refine CW.keep (Keep.cons 54 rfl (Keep.cons 7 rfl (Keep.cons 9 rfl (Keep.cons 11 rfl (Keep.cons 53 rfl (Keep.nil _)))))) ?_
        have hi9 : i = A.length := by omega
        have hD0 : Dn A B A.length 0 0 (rows l) := by rw [hrl, hi9]; exact Dn.start A B _
        have hll : l.length = A.length := by rw [← hi9, ← hul, ← hus, List.length_map]
        rw [outerP_full (by omega)]
        clear hul hrl
        rename_i l1 _
        obtain ⟨l0, hl0⟩ : ∃ l0, l0 = l := ⟨_, rfl⟩
        refine CW.loopF (fun mm Lc M3 Γc => ∃ (i : Nat) (l : List (Nat × List Int)), mm = A.length - i ∧ i ≤ A.length ∧ Lc = [(54, vint i)] ∧ Γc = .own b39 22 us :: mat l ∧ l.length = A.length ∧ l.map rowv = us ∧ Dn A B A.length i 0 (rows l)) A.length [(54, _)] (.own b39 22 us :: mat l) rfl rfl ⟨0, l, rfl, Nat.zero_le _, rfl, rfl, hll, hus, hD0⟩ ?_
        clear hD0 hll hus hi9 hi hl0
        rintro mm Lc M3 Γc hsub ⟨i, l, rfl, hi, rfl, rfl, hll, hus, hD⟩
        refine CW.drop (List.Sublist.refl (.own b39 22 us :: (mat l ++ _))) ?_
        refine CW.seq fun K16 hK16 => ?_
        refine CW.region ?_
        refine RL.q (Y.lss rfl rfl) rfl ?_
        refine RL.nil ?_
        refine hK16 _ _ _ ?_
        refine CW.keep (Keep.cons 7 rfl (Keep.cons 9 rfl (Keep.cons 11 rfl (Keep.cons 53 rfl (Keep.cons 54 rfl (Keep.cons 55 rfl (Keep.nil _))))))) ?_
        refine CW.seq fun K17 hK17 => ?_
        refine CW.ite rfl (fun h3 => ?_) (fun h3 => ?_)
        · refine CW.skip ?_
          refine hK17 _ _ _ ?_
          refine CW.seq fun K18 hK18 => ?_
          refine CW.block ?_
          refine CW.seq fun K19 hK19 => ?_
          refine CW.region ?_
          refine RL.q (Y.move rfl) rfl ?_
          refine RL.q (Y.assign rfl) rfl ?_
          refine RL.nil ?_
          refine hK19 _ _ _ ?_
          refine CW.keep (Keep.cons 7 rfl (Keep.cons 9 rfl (Keep.cons 11 rfl (Keep.cons 13 rfl (Keep.cons 53 rfl (Keep.cons 54 rfl (Keep.nil _))))))) ?_
          refine CW.seq fun K20 hK20 => ?_
          refine CW.region ?_
          refine RL.q (Y.move rfl) rfl ?_
          refine RL.q (Y.len rfl Try.underlying74) rfl ?_
          refine RL.q (Y.move rfl) rfl ?_
          refine RL.nil ?_
          refine hK20 _ _ _ ?_
          refine CW.keep (Keep.cons 7 rfl (Keep.cons 9 rfl (Keep.cons 11 rfl (Keep.cons 13 rfl (Keep.cons 53 rfl (Keep.cons 54 rfl (Keep.cons 58 rfl (Keep.cons 59 rfl (Keep.nil _))))))))) ?_
          refine CW.block ?_
          -- LOOP 3: live [7, 9, 11, 13, 53, 54, 58, 59] changed [59]
          refine CW.keep (Keep.cons 59 rfl (Keep.cons 7 rfl (Keep.cons 9 rfl (Keep.cons 11 rfl (Keep.cons 13 rfl (Keep.cons 53 rfl (Keep.cons 54 rfl (Keep.cons 58 rfl (Keep.nil _))))))))) ?_
          refine CW.loopF (fun mm Lc M4 Γc => ∃ (j : Nat) (l : List (Nat × List Int)), mm = B.length - j ∧ j ≤ B.length ∧ Lc = [(59, vint j)] ∧ Γc = .own b39 22 us :: mat l ∧ l.length = A.length ∧ l.map rowv = us ∧ Dn A B A.length i j (rows l)) B.length [(59, _)] (.own b39 22 us :: mat l) rfl rfl ⟨0, l, rfl, Nat.zero_le _, rfl, rfl, hll, hus, hD⟩ ?_
          clear hll hus hD
          rintro mm Lc M4 Γc hsub3 ⟨j, l, rfl, hj, rfl, rfl, hll, hus, hD⟩
          refine CW.drop (List.Sublist.refl (.own b39 22 us :: (mat l ++ _))) ?_
          refine CW.seq fun K21 hK21 => ?_
          refine CW.region ?_
          refine RL.q (Y.lss rfl rfl) rfl ?_
          refine RL.nil ?_
          refine hK21 _ _ _ ?_
          refine CW.keep (Keep.cons 7 rfl (Keep.cons 9 rfl (Keep.cons 11 rfl (Keep.cons 13 rfl (Keep.cons 53 rfl (Keep.cons 54 rfl (Keep.cons 58 rfl (Keep.cons 59 rfl (Keep.cons 60 rfl (Keep.nil _)))))))))) ?_
          refine CW.seq fun K22 hK22 => ?_
          refine CW.ite rfl (fun h4 => ?_) (fun h4 => ?_)
          · refine CW.skip ?_
            refine hK22 _ _ _ ?_
            refine CW.seq fun K23 hK23 => ?_
            refine CW.block ?_
            refine CW.seq fun K24 hK24 => ?_
            refine CW.region ?_
            refine RL.q (Y.move rfl) rfl ?_
            refine RL.q (Y.assign rfl) rfl ?_
            refine RL.nil ?_
            refine hK24 _ _ _ ?_
            refine CW.keep (Keep.cons 7 rfl (Keep.cons 9 rfl (Keep.cons 11 rfl (Keep.cons 13 rfl (Keep.cons 14 rfl (Keep.cons 53 rfl (Keep.cons 54 rfl (Keep.cons 58 rfl (Keep.cons 59 rfl (Keep.nil _)))))))))) ?_
            refine CW.seq fun K25 hK25 => ?_
            subst hus
            have hrow : ∀ p ∈ l, p.2.length ≤ lim := fun p hp => by have := hD.row p.2 (List.mem_map.2 ⟨p, hp, rfl⟩); unfold lim; omega
            refine CW.region ?_
            refine RL.q (Y.move rfl) rfl ?_
            refine RL.q (Y.move rfl) rfl ?_
            refine RL.q (Y.move rfl) rfl ?_
            refine RL.q (Y.move rfl) rfl ?_
            refine RL.q (Y.move rfl) rfl ?_
            refine RL.call rfl func35 rfl rfl (CallOk.lend (R := fun M' v => Rd M' (dtab (dpTab A B (rows l) i j)) v) (.own b39 22 (l.map rowv) :: mat l) _ (tab_perm _) (fun y hy => by rcases List.mem_cons.1 hy with rfl | hy; trivial; exact mat_owns l y hy) (fun _ _ _ hs hr => Rd.mono hs _ _ hr) fun M5 hl5 => table_ok _ _ _ A B _ _ _ i j (rows l) (Rd.mono (hsub.trans (hsub3.trans hl5.sub)) _ _ hu1) (Rd.mono (hsub.trans (hsub3.trans hl5.sub)) _ _ hu2) (hll ▸ hl5.tab hrow (by unfold lim; omega)) hpa hpb hD.okk (by omega) (by omega) (by omega) (by omega)) ?_
            rintro v67 M6 _ ⟨hs6, rfl, hT⟩
            obtain ⟨aT, cT, rfl, hcT, hlimT, hlenT⟩ := hT.slice
            refine RL.q (Y.assign rfl) rfl ?_
            refine RL.nil ?_
            refine hK25 _ _ _ ?_
            refine CW.keep (Keep.cons 7 rfl (Keep.cons 9 rfl (Keep.cons 11 rfl (Keep.cons 13 rfl (Keep.cons 14 rfl (Keep.cons 15 rfl (Keep.cons 53 rfl (Keep.cons 54 rfl (Keep.cons 58 rfl (Keep.cons 59 rfl (Keep.nil _))))))))))) ?_
            obtain ⟨u0, hc0, hr0⟩ := hT.cell (q := 0 * 1) (dtab_get (dpTab_get _ _ _ _ _ 0 (by omega)))
            obtain ⟨ar0, cr0, rfl, _, _, _⟩ := hr0.slice
            obtain ⟨un, hcn, hrn⟩ := hT.cell (q := (sizeAt A i) * 1) (dtab_get (dpTab_get _ _ _ _ _ (sizeAt A i) (by omega)))
            obtain ⟨arn, crn, rfl, _, _, _⟩ := hrn.slice
            obtain ⟨bi, r, hli⟩ := rows_ex (l := l) (i := i) (by omega)
            have hgi : (l.map rowv)[i * 1]? = some (rowv (bi, r)) := by rw [Nat.mul_one, List.getElem?_map, hli]; rfl
            have hrl : r.length = B.length := hD.row r (List.mem_of_getElem? (rows_get hli))
            have hz := dpEnd_bd (a := A) (b := B) hD.num (i := i) (j := j) (by omega) (by omega)
            refine CW.regionH mix _ [.own b39 22 (l.map rowv)] (fun _ hw => hw.sub sub_head) ?_
            refine HL.take 0 rfl (by kernel_rfl) (by kernel_rfl) (by kernel_rfl) rfl (Y.move rfl) rfl ?_
            refine HL.take 1 rfl (by kernel_rfl) (by kernel_rfl) (by kernel_rfl) rfl (Y.move rfl) rfl ?_
            refine HL.take 2 rfl (by kernel_rfl) (by kernel_rfl) (by kernel_rfl) rfl (Y.index i rfl rfl rfl (by omega) slice35 (fun _ _ => rfl)) rfl ?_
            refine HL.take 3 rfl (by kernel_rfl) (by kernel_rfl) (by kernel_rfl) rfl (Y.loadOwn rfl (by repeat (first | exact List.Mem.head _ | apply List.Mem.tail)) hgi flat22) rfl ?_
            refine HL.take 4 rfl (by kernel_rfl) (by kernel_rfl) (by kernel_rfl) rfl (Y.move rfl) rfl ?_
            refine HL.take 5 rfl (by kernel_rfl) (by kernel_rfl) (by kernel_rfl) rfl (Y.move rfl) rfl ?_
            refine HL.take 6 rfl (by kernel_rfl) (by kernel_rfl) (by kernel_rfl) rfl (Y.move rfl) rfl ?_
            refine HL.take 7 rfl (by kernel_rfl) (by kernel_rfl) (by kernel_rfl) rfl (Y.len rfl Try.underlying35) rfl ?_
            refine HL.take 8 rfl (by kernel_rfl) (by kernel_rfl) (by kernel_rfl) rfl (Y.sub rfl rfl (by omega)) rfl ?_
            refine HL.take 9 rfl (by kernel_rfl) (by kernel_rfl) (by kernel_rfl) rfl (Y.indexP (sizeAt A i) rfl rfl (by rw [dpTab_len]; omega) (by rw [dpTab_len]; omega) slice35 hT) rfl ?_
            refine HL.take 10 rfl (by kernel_rfl) (by kernel_rfl) (by kernel_rfl) rfl (Y.loadC rfl hcn flat22) rfl ?_
            refine HL.take 11 rfl (by kernel_rfl) (by kernel_rfl) (by kernel_rfl) rfl (Y.move rfl) rfl ?_
            refine HL.take 12 rfl (by kernel_rfl) (by kernel_rfl) (by kernel_rfl) rfl (Y.indexP 0 rfl rfl rfl (by rw [dpTab_len]; omega) slice35 hT) rfl ?_
            refine HL.take 13 rfl (by kernel_rfl) (by kernel_rfl) (by kernel_rfl) rfl (Y.loadC rfl hc0 flat22) rfl ?_
            refine HL.take 14 rfl (by kernel_rfl) (by kernel_rfl) (by kernel_rfl) rfl (Y.len rfl Try.underlying22) rfl ?_
            refine HL.take 15 rfl (by kernel_rfl) (by kernel_rfl) (by kernel_rfl) rfl (Y.sub rfl rfl (by omega)) rfl ?_
            refine HL.take 16 rfl (by kernel_rfl) (by kernel_rfl) (by kernel_rfl) rfl (Y.indexP (sizeAt B j) rfl rfl (by rw [dpRow_len]; omega) (by rw [dpRow_len]; omega) slice22 hrn) rfl ?_
            refine HL.take 17 rfl (by kernel_rfl) (by kernel_rfl) (by kernel_rfl) rfl (Y.loadP rfl hrn (dints_get (dpRow_get _ _ _ _ _ _ (sizeAt B j) (Nat.le_refl _))) flat3) rfl ?_
            refine HL.take 18 rfl (by kernel_rfl) (by kernel_rfl) (by kernel_rfl) rfl (Y.index j rfl rfl rfl (by show j < r.length; omega) slice22 (fun _ _ => rfl)) rfl ?_
            refine HL.step 19 rfl (by kernel_rfl) ?_
            refine RL.store (ints (r.set j (dpEnd A B (rows l) i j))) rfl rfl (.there _ (Repl.mat hli (r.set j (dpEnd A B (rows l) i j)) _)) (ints_set _ _ j _ (by omega)) (by rw [ints_len]; omega) (by rfl) size3 ?_
            refine RL.nil ⟨keep_same sub_head, ?_⟩
            refine HL.done (by kernel_rfl) ?_
            refine hK23 _ _ _ ?_
            refine CW.keep (Keep.cons 7 rfl (Keep.cons 9 rfl (Keep.cons 11 rfl (Keep.cons 13 rfl (Keep.cons 53 rfl (Keep.cons 54 rfl (Keep.cons 58 rfl (Keep.cons 59 rfl (Keep.nil _))))))))) ?_
            refine CW.region ?_
            refine RL.q (Y.add rfl rfl (by omega)) rfl ?_
            refine RL.q (Y.move rfl) rfl ?_
            refine RL.nil ?_
            refine ⟨B.length - (j + 1), [(59, _)], ?_, (Keep.cons 59 rfl (Keep.cons 7 rfl (Keep.cons 9 rfl (Keep.cons 11 rfl (Keep.cons 13 rfl (Keep.cons 53 rfl (Keep.cons 54 rfl (Keep.cons 58 rfl (Keep.nil _))))))))), ?_⟩
            · omega
            · exact Turn.drop ⟨.own b39 22 (l.map rowv) :: mat (l.set i (bi, r.set j (dpEnd A B (rows l) i j))), rfl, hsub3.trans hs6, j + 1, _, rfl, by omega, rfl, rfl, by rw [List.length_set]; exact hll, rowv_set hli (by rw [List.length_set]), by rw [rows_set hli]; exact hD.set hpa hpb (Nat.le_refl _) (by omega) (by omega) (by omega) (rows_get hli)⟩ (List.Sublist.refl _)
          · refine CW.exit ?_
            refine hK18 _ _ _ ?_
            refine CW.region ?_
            refine RL.q (Y.add rfl rfl (by omega)) rfl ?_
            refine RL.q (Y.move rfl) rfl ?_
            refine RL.nil ?_
            refine ⟨A.length - (i + 1), [(54, _)], ?_, (Keep.cons 54 rfl (Keep.cons 7 rfl (Keep.cons 9 rfl (Keep.cons 11 rfl (Keep.cons 53 rfl (Keep.nil _)))))), ?_⟩
            · omega
            · exact Turn.drop ⟨.own b39 22 us :: mat l, rfl, hsub.trans hsub3, i + 1, l, rfl, by omega, rfl, rfl, hll, hus, by have h9 : j = B.length := (by omega); rw [h9] at hD; exact hD.next⟩ (List.Sublist.refl _)
        · refine CW.exit ?_
          refine hK14 _ _ _ ?_
          refine CW.seq fun K26 hK26 => ?_
          have hrow : ∀ p ∈ l, p.2.length ≤ lim := fun p hp => by have := hD.row p.2 (List.mem_map.2 ⟨p, hp, rfl⟩); unfold lim; omega
          subst hus
          have hi9 : i = A.length := by omega
          subst hi9
          refine CW.sealTab (tab_perm _) hrow (by unfold lim; omega) fun M6 hs6 hd6 => ?_
          rw [hll] at hd6
          have hu16 := Rd.mono (hsub.trans hs6) _ _ hu1
          have hu26 := Rd.mono (hsub.trans hs6) _ _ hu2
          refine CW.region ?_
          refine RL.q (Y.move rfl) rfl ?_
          refine RL.q (Y.len rfl Try.underlying74) rfl ?_
          refine RL.make (k := A.length) elem22 zero3 rfl rfl (by rfl) (by rfl) (by first | omega | (unfold lim; omega)) (by first | omega | (unfold lim; omega)) rfl fun b91 => ?_
          refine RL.q (Y.assign rfl) rfl ?_
          refine RL.nil ?_
          refine hK26 _ _ _ ?_
          refine CW.keep (Keep.cons 7 rfl (Keep.cons 9 rfl (Keep.cons 11 rfl (Keep.cons 16 rfl (Keep.nil _))))) ?_
          rw [made_ints, ← part_zero (fun _ => (-1 : Int))]
          refine CW.seq fun K27 hK27 => ?_
          refine CW.seq fun K28 hK28 => ?_
          refine CW.region ?_
          refine RL.q (Y.move rfl) rfl ?_
          refine RL.q (Y.len rfl Try.underlying22) rfl ?_
          refine RL.q (Y.move rfl) rfl ?_
          refine RL.nil ?_
          refine hK28 _ _ _ ?_
          refine CW.keep (Keep.cons 7 rfl (Keep.cons 9 rfl (Keep.cons 11 rfl (Keep.cons 16 rfl (Keep.cons 93 rfl (Keep.cons 94 rfl (Keep.nil _))))))) ?_
          refine CW.block ?_
          -- LOOP 4: live [7, 9, 11, 16, 93, 94] changed [94]
          refine CW.keep (Keep.cons 94 rfl (Keep.cons 7 rfl (Keep.cons 9 rfl (Keep.cons 11 rfl (Keep.cons 16 rfl (Keep.cons 93 rfl (Keep.nil _))))))) ?_
          refine CW.loopF (fun mm Lc M7 Γc => ∃ k : Nat, mm = A.length - k ∧ k ≤ A.length ∧ Lc = [(94, vint k)] ∧ Γc = [.own b91 3 (ints (rowP (fun _ => (-1 : Int)) k A.length))] ∧ M7 = M6) A.length [(94, _)] [.own _ _ _] rfl rfl ⟨0, rfl, Nat.zero_le _, rfl, rfl, rfl⟩ ?_
          rintro mm Lc M7 Γc hsub7 ⟨k, rfl, hk, rfl, rfl, rfl⟩
          refine CW.seq fun K29 hK29 => ?_
          refine CW.region ?_
          refine RL.q (Y.lss rfl rfl) rfl ?_
          refine RL.nil ?_
          refine hK29 _ _ _ ?_
          refine CW.keep (Keep.cons 7 rfl (Keep.cons 9 rfl (Keep.cons 11 rfl (Keep.cons 16 rfl (Keep.cons 93 rfl (Keep.cons 94 rfl (Keep.cons 95 rfl (Keep.nil _)))))))) ?_
          refine CW.seq fun K30 hK30 => ?_
          refine CW.ite rfl (fun h5 => ?_) (fun h5 => ?_)
          · refine CW.skip ?_
            refine hK30 _ _ _ ?_
            refine CW.seq fun K31 hK31 => ?_
            refine CW.block ?_
            refine CW.seq fun K32 hK32 => ?_
            refine CW.region ?_
            refine RL.q (Y.move rfl) rfl ?_
            refine RL.q (Y.assign rfl) rfl ?_
            refine RL.nil ?_
            refine hK32 _ _ _ ?_
            refine CW.keep (Keep.cons 7 rfl (Keep.cons 9 rfl (Keep.cons 11 rfl (Keep.cons 16 rfl (Keep.cons 17 rfl (Keep.cons 93 rfl (Keep.cons 94 rfl (Keep.nil _)))))))) ?_
            refine CW.region ?_
            refine RL.q (Y.move rfl) rfl ?_
            refine RL.q (Y.move rfl) rfl ?_
            refine RL.q (Y.index k rfl rfl rfl (by omega) slice22 (fun _ _ => rfl)) rfl ?_
            refine RL.store (ints (rowP (fun _ => (-1 : Int)) (k + 1) A.length)) rfl rfl (by repeat (first | exact Repl.here _ | apply Repl.there)) (fill_one (by omega) (by omega) rfl) (by rw [ints_len, part_len]; omega) (by rfl) size3 ?_
            refine RL.nil ?_
            refine hK31 _ _ _ ?_
            refine CW.keep (Keep.cons 7 rfl (Keep.cons 9 rfl (Keep.cons 11 rfl (Keep.cons 16 rfl (Keep.cons 93 rfl (Keep.cons 94 rfl (Keep.nil _))))))) ?_
            refine CW.region ?_
            refine RL.q (Y.add rfl rfl (by omega)) rfl ?_
            refine RL.q (Y.move rfl) rfl ?_
            refine RL.nil ?_
            refine ⟨A.length - (k + 1), [(94, _)], ?_, (Keep.cons 94 rfl (Keep.cons 7 rfl (Keep.cons 9 rfl (Keep.cons 11 rfl (Keep.cons 16 rfl (Keep.cons 93 rfl (Keep.nil _))))))), ?_⟩
            · omega
            · exact Turn.drop ⟨[_], rfl, hsub7, k + 1, rfl, by omega, rfl, rfl, rfl⟩ (by repeat (first | exact List.Sublist.refl _ | apply List.Sublist.cons_cons | apply List.Sublist.cons))
          · refine CW.exit ?_
            refine hK27 _ _ _ ?_
            refine CW.seq fun K33 hK33 => ?_
            have hk9 : k = A.length := by omega
            subst hk9
            have htE : rowP (fun _ => (-1 : Int)) A.length A.length = List.replicate A.length (-1) := by rw [part_full]; apply List.ext_getElem <;> simp
            obtain ⟨t, hte⟩ : ∃ t, t = rowP (fun _ => (-1 : Int)) A.length A.length := ⟨_, rfl⟩
            rw [← hte]
            have ht : t.length = A.length := by rw [hte, part_len]
            have hcall := fun Γ1 : List As => trace_ok _ w0 _ Γ1 A B _ _ _ (A.length - 1) (B.length - 1) (rows l) b91 t rfl hu16 hu26 hd6 hpa hpb hD.done.ok (by omega) (by omega) (by omega) (by omega) ht
            simp only [show ((A.length - 1 : Nat) : Int) = (A.length : Int) - 1 from by omega, show ((B.length - 1 : Nat) : Int) = (B.length : Int) - 1 from by omega] at hcall
            refine CW.region ?_
            refine RL.q (Y.move rfl) rfl ?_
            refine RL.q (Y.move rfl) rfl ?_
            refine RL.q (Y.move rfl) rfl ?_
            refine RL.q (Y.len rfl Try.underlying74) rfl ?_
            refine RL.q (Y.sub rfl rfl (by omega)) rfl ?_
            refine RL.q (Y.move rfl) rfl ?_
            refine RL.q (Y.len rfl Try.underlying74) rfl ?_
            refine RL.q (Y.sub rfl rfl (by omega)) rfl ?_
            refine RL.q (Y.move rfl) rfl ?_
            refine RL.q (Y.move rfl) rfl ?_
            refine RL.call rfl func36 rfl rfl (hcall _) ?_
            rintro v111 M6 _ ⟨t, rfl, rfl, ht, hTr⟩
            refine RL.nil ?_
            refine hK33 _ _ _ ?_
            refine CW.keep (Keep.cons 7 rfl (Keep.cons 9 rfl (Keep.cons 11 rfl (Keep.cons 16 rfl (Keep.nil _))))) ?_
            rw [hte, htE] at hTr
            have hbest := best_of hwa hwb hD.done hTr
            refine CW.addRd hu16 ?_
            refine CW.addRd hu26 ?_
            refine CW.seq fun K34 hK34 => ?_
            refine CW.region ?_
            refine RL.q (Y.assign rfl) rfl ?_
            refine RL.nil ?_
            refine hK34 _ _ _ ?_
            refine CW.keep (Keep.cons 7 rfl (Keep.cons 9 rfl (Keep.cons 11 rfl (Keep.cons 16 rfl (Keep.cons 18 rfl (Keep.nil _)))))) ?_
            refine CW.accNil 51 6 ?_
            refine CW.seq fun K35 hK35 => ?_
            refine CW.seq fun K36 hK36 => ?_
            refine CW.region ?_
            refine RL.q (Y.move rfl) rfl ?_
            refine RL.q (Y.len rfl Try.underlying22) rfl ?_
            refine RL.q (Y.move rfl) rfl ?_
            refine RL.nil ?_
            refine hK36 _ _ _ ?_
            refine CW.keep (Keep.cons 7 rfl (Keep.cons 9 rfl (Keep.cons 11 rfl (Keep.cons 18 rfl (Keep.cons 112 rfl (Keep.cons 113 rfl (Keep.cons 114 rfl (Keep.nil _)))))))) ?_
            refine CW.block ?_
            -- LOOP 5: live [7, 9, 11, 18, 112, 113, 114] changed [18, 114]
            refine CW.keep (Keep.cons 18 rfl (Keep.cons 114 rfl (Keep.cons 7 rfl (Keep.cons 9 rfl (Keep.cons 11 rfl (Keep.cons 112 rfl (Keep.cons 113 rfl (Keep.nil _)))))))) ?_
            refine CW.loopF (fun mm Lc M8 Γc => ∃ (k : Nat) (a18 : Option Addr) (c18 : Nat) (us : List Value), mm = A.length - k ∧ k ≤ A.length ∧ Lc = [(18, .slice a18 (outQ t k).length c18), (114, vint k)] ∧ Γc = [.acc (.slice a18 (outQ t k).length c18) 51 6 (outQ t k).length us] ∧ M8 = M6 ∧ RdL M6 (((outQ t k).map (pairOf A B)).flatMap PairD.enc) us) A.length [(18, _), (114, _)] [.acc _ _ _ _ _] rfl rfl ⟨0, none, 0, [], rfl, Nat.zero_le _, rfl, rfl, rfl, RdL.nil _⟩ ?_
            rintro mm Lc M8 Γc hsub8 ⟨k, a18, c18, us2, rfl, hk, rfl, rfl, rfl, hus2⟩
            have hql := outQ_len t k
            refine CW.seq fun K37 hK37 => ?_
            refine CW.region ?_
            refine RL.q (Y.lss rfl rfl) rfl ?_
            refine RL.nil ?_
            refine hK37 _ _ _ ?_
            refine CW.keep (Keep.cons 7 rfl (Keep.cons 9 rfl (Keep.cons 11 rfl (Keep.cons 18 rfl (Keep.cons 112 rfl (Keep.cons 113 rfl (Keep.cons 114 rfl (Keep.cons 115 rfl (Keep.nil _))))))))) ?_
            refine CW.seq fun K38 hK38 => ?_
            refine CW.ite rfl (fun h6 => ?_) (fun h6 => ?_)
            · have hkA : k < A.length := by omega
              obtain ⟨z0, htk⟩ : ∃ z0, t[k]? = some z0 := ⟨t[k]'(by omega), List.getElem?_eq_getElem _⟩
              have hgd : t.getD k (-1) = z0 := by rw [List.getD_eq_getElem?_getD, htk]; rfl
              refine CW.skip ?_
              refine hK38 _ _ _ ?_
              refine CW.seq fun K39 hK39 => ?_
              refine CW.block ?_
              refine CW.seq fun K40 hK40 => ?_
              refine CW.region ?_
              refine RL.q (Y.move rfl) rfl ?_
              refine RL.q (Y.index k rfl rfl rfl (by omega) slice22 (fun _ _ => rfl)) rfl ?_
              refine RL.q (Y.loadOwn rfl (by repeat (first | exact List.Mem.head _ | apply List.Mem.tail)) (ints_get (k := k) htk (by omega)) flat3) rfl ?_
              refine RL.q (Y.assign rfl) rfl ?_
              refine RL.q (Y.assign rfl) rfl ?_
              refine RL.nil ?_
              refine hK40 _ _ _ ?_
              refine CW.keep (Keep.cons 7 rfl (Keep.cons 9 rfl (Keep.cons 11 rfl (Keep.cons 18 rfl (Keep.cons 19 rfl (Keep.cons 20 rfl (Keep.cons 112 rfl (Keep.cons 113 rfl (Keep.cons 114 rfl (Keep.nil _)))))))))) ?_
              refine CW.seq fun K41 hK41 => ?_
              refine CW.region ?_
              refine RL.q (Y.move rfl) rfl ?_
              refine RL.q (Y.geq rfl rfl) rfl ?_
              refine RL.nil ?_
              refine hK41 _ _ _ ?_
              refine CW.keep (Keep.cons 7 rfl (Keep.cons 9 rfl (Keep.cons 11 rfl (Keep.cons 18 rfl (Keep.cons 19 rfl (Keep.cons 20 rfl (Keep.cons 112 rfl (Keep.cons 113 rfl (Keep.cons 114 rfl (Keep.cons 120 rfl (Keep.nil _))))))))))) ?_
              refine CW.ite rfl (fun h7 => ?_) (fun h7 => ?_)
              · obtain ⟨z, rfl⟩ := Int.eq_ofNat_of_zero_le h7
                have hzB : z < B.length := by have := tr_bd hwa hwb hD.done hTr htk (by omega) hkA; simpa using this
                have hq0 : outQ t (k + 1) = outQ t k ++ [(k, z)] := by rw [outQ_yes (by rw [hgd]; omega), hgd]; rfl
                have hq1 : (outQ t (k + 1)).length = (outQ t k).length + 1 := by rw [hq0, List.length_append]; rfl
                refine CW.regionHP mix (x := .acc _ _ _ _ _) (by repeat (first | exact Pick.here _ | apply Pick.there)) ?_
                refine HL.take 0 rfl (by kernel_rfl) (by kernel_rfl) (by kernel_rfl) rfl (Y.move rfl) rfl ?_
                refine HL.take 1 rfl (by kernel_rfl) (by kernel_rfl) (by kernel_rfl) rfl (Y.move rfl) rfl ?_
                refine HL.take 2 rfl (by kernel_rfl) (by kernel_rfl) (by kernel_rfl) rfl (Y.move rfl) rfl ?_
                refine HL.take 3 rfl (by kernel_rfl) (by kernel_rfl) (by kernel_rfl) rfl (Y.index k rfl rfl rfl hkA slice74 (fun _ hw => hw.rd_some (by repeat (first | exact List.Mem.head _ | apply List.Mem.tail)) (by omega))) rfl ?_
                refine HL.take 4 rfl (by kernel_rfl) (by kernel_rfl) (by kernel_rfl) rfl (Y.field rfl field80_0) rfl ?_
                refine HL.take 5 rfl (by kernel_rfl) (by kernel_rfl) (by kernel_rfl) rfl (Y.field rfl field31_0) rfl ?_
                refine HL.take 6 rfl (by kernel_rfl) (by kernel_rfl) (by kernel_rfl) rfl (Y.loadAggRd ((exAt A k).id.vals) rfl (by repeat (first | exact List.Mem.head _ | apply List.Mem.tail)) (by rw [exAt_M hkA]; exact (flat_sub MNode.enc_len _ k _ (List.getElem?_eq_getElem hkA) 0 3 (by decide)).trans (by rw [MNode.enc_eq]; rfl)) agg24) rfl ?_
                refine HL.take 7 rfl (by kernel_rfl) (by kernel_rfl) (by kernel_rfl) rfl (Y.move rfl) rfl ?_
                refine HL.take 8 rfl (by kernel_rfl) (by kernel_rfl) (by kernel_rfl) rfl (Y.move rfl) rfl ?_
                refine HL.take 9 rfl (by kernel_rfl) (by kernel_rfl) (by kernel_rfl) rfl (Y.index z rfl rfl rfl hzB slice74 (fun _ hw => hw.rd_some (by repeat (first | exact List.Mem.head _ | apply List.Mem.tail)) (by omega))) rfl ?_
                refine HL.take 10 rfl (by kernel_rfl) (by kernel_rfl) (by kernel_rfl) rfl (Y.field rfl field80_0) rfl ?_
                refine HL.take 11 rfl (by kernel_rfl) (by kernel_rfl) (by kernel_rfl) rfl (Y.field rfl field31_0) rfl ?_
                refine HL.take 12 rfl (by kernel_rfl) (by kernel_rfl) (by kernel_rfl) rfl (Y.loadAggRd ((exAt B z).id.vals) rfl (by repeat (first | exact List.Mem.head _ | apply List.Mem.tail)) (by rw [exAt_M hzB]; exact (flat_sub MNode.enc_len _ z _ (List.getElem?_eq_getElem hzB) 0 3 (by decide)).trans (by rw [MNode.enc_eq]; rfl)) agg24) rfl ?_
                refine HL.take 13 rfl (by kernel_rfl) (by kernel_rfl) (by kernel_rfl) rfl (Y.build (PairD.vals (pairOf A B (k, z))) rfl zero51 places51 (by rfl)) rfl ?_
                refine HL.step 14 rfl (by kernel_rfl) ?_
                refine RL.buildSlice (PairD.vals (pairOf A B (k, z))) elem34 rfl (by decide) (fill1 rfl rfl) rfl fun b135 => ?_
                refine RL.nil ⟨keep_same (by repeat (first | exact List.Sublist.refl _ | apply List.Sublist.cons_cons | apply List.Sublist.cons)), ?_⟩
                refine HL.step 15 rfl (by kernel_rfl) ?_
                refine RL.append elem34 rfl rfl (by repeat (first | exact Pick.here _ | apply Pick.there)) (SrcOk.own (by repeat (first | exact List.Mem.head _ | apply List.Mem.tail)) (by rfl) (RdL.one (M := fun _ => none) (PairD.rd (pairOf A B (k, z))))) (by first | omega | (unfold lim; omega)) (by first | omega | (unfold lim; omega)) rfl fun a136 c136 hc136 => ?_
                refine RL.nil ⟨keep_same (by repeat (first | exact List.Sublist.refl _ | apply List.Sublist.cons_cons | apply List.Sublist.cons)), ?_⟩
                refine HL.take 16 rfl (by kernel_rfl) (by kernel_rfl) (by kernel_rfl) rfl (Y.assign rfl) rfl ?_
                refine HL.done (by kernel_rfl) ?_
                refine hK39 _ _ _ ?_
                refine CW.keep (Keep.cons 7 rfl (Keep.cons 9 rfl (Keep.cons 11 rfl (Keep.cons 18 rfl (Keep.cons 112 rfl (Keep.cons 113 rfl (Keep.cons 114 rfl (Keep.nil _)))))))) ?_
                refine CW.region ?_
                refine RL.q (Y.add rfl rfl (by omega)) rfl ?_
                refine RL.q (Y.move rfl) rfl ?_
                refine RL.nil ?_
                refine ⟨A.length - (k + 1), [(18, _), (114, _)], ?_, (Keep.cons 18 rfl (Keep.cons 114 rfl (Keep.cons 7 rfl (Keep.cons 9 rfl (Keep.cons 11 rfl (Keep.cons 112 rfl (Keep.cons 113 rfl (Keep.nil _)))))))), ?_⟩
                · omega
                · exact Turn.drop ⟨[_], rfl, hsub8, k + 1, a136, c136, _, rfl, by omega, by first | (rw [hq1]; done) | (rw [hq1]; rfl), by first | (rw [hq1]; done) | (rw [hq1]; rfl), rfl, by rw [hq0, List.map_append, List.flatMap_append]; exact hus2.append (by simpa using PairD.rd (pairOf A B (k, z)))⟩ (by repeat (first | exact List.Sublist.refl _ | apply List.Sublist.cons_cons | apply List.Sublist.cons))
              · have hq0 : outQ t (k + 1) = outQ t k := outQ_no (by rw [hgd]; exact h7)
                refine CW.skip ?_
                refine hK39 _ _ _ ?_
                refine CW.region ?_
                refine RL.q (Y.add rfl rfl (by omega)) rfl ?_
                refine RL.q (Y.move rfl) rfl ?_
                refine RL.nil ?_
                refine ⟨A.length - (k + 1), [(18, _), (114, _)], ?_, (Keep.cons 18 rfl (Keep.cons 114 rfl (Keep.cons 7 rfl (Keep.cons 9 rfl (Keep.cons 11 rfl (Keep.cons 112 rfl (Keep.cons 113 rfl (Keep.nil _)))))))), ?_⟩
                · omega
                · exact Turn.drop ⟨[_], rfl, hsub8, k + 1, a18, c18, _, rfl, by omega, by first | (rw [hq0]; done) | (rw [hq0]; rfl), by first | (rw [hq0]; done) | (rw [hq0]; rfl), rfl, by rw [hq0]; exact hus2⟩ (by repeat (first | exact List.Sublist.refl _ | apply List.Sublist.cons_cons | apply List.Sublist.cons))
            · refine CW.exit ?_
              refine hK35 _ _ _ ?_
              refine CW.seq fun K42 hK42 => ?_
              obtain ⟨rR, hR0, hR1, hR2, hR3⟩ := hD.done.ok.get (v := A.length - 1) (w := B.length - 1) (by omega) (by omega)
              have hRl : rR.length = B.length := hD.row rR (List.mem_of_getElem? hR0)
              obtain ⟨uR, hcR, hrR⟩ := hd6.cell (q := (A.length - 1) * 1) (dtab_get hR0)
              obtain ⟨arR, crR, rfl, _, _, _⟩ := hrR.slice
              refine CW.regionQ mix (by kernel_rfl) ?_
              refine QL.q (Y.move rfl) rfl ?_
              refine QL.q (Y.move rfl) rfl ?_
              refine QL.q (Y.move rfl) rfl ?_
              refine QL.q (Y.len rfl Try.underlying74) rfl ?_
              refine QL.q (Y.sub rfl rfl (by omega)) rfl ?_
              refine QL.q (Y.indexP (A.length - 1) rfl rfl (by omega) (by omega) slice35 hd6) rfl ?_
              refine QL.q (Y.loadC rfl hcR flat22) rfl ?_
              refine QL.q (Y.move rfl) rfl ?_
              refine QL.q (Y.len rfl Try.underlying74) rfl ?_
              refine QL.q (Y.sub rfl rfl (by omega)) rfl ?_
              refine QL.q (Y.indexP (B.length - 1) rfl rfl (by omega) (by omega) slice22 hrR) rfl ?_
              refine QL.q (Y.loadP rfl hrR (dints_get hR1) flat3) rfl ?_
              refine QL.q (Y.move rfl) rfl ?_
              refine QL.q (Y.assign rfl) rfl ?_
              refine QL.q (Y.assign rfl) rfl ?_
              refine QL.q (Y.assign rfl) rfl ?_
              refine QL.nil ?_
              refine hK42 _ _ _ ?_
              refine CW.keep (Keep.cons 4 rfl (Keep.cons 5 rfl (Keep.cons 6 rfl (Keep.nil _)))) ?_
              refine CW.ret ?_
              refine ⟨_, _, _, rfl, rfl, rfl, ?_⟩
              have hk9 : k = A.length := by omega
              subst hk9
              exact Turn.sealAcc (by repeat (first | exact Pick.here _ | apply Pick.there)) hus2 (by unfold lim; omega) (by repeat (first | exact List.Sublist.refl _ | apply List.Sublist.cons_cons | apply List.Sublist.cons)) fun M' h1 h2 => ⟨hs1.trans (hs2.trans (hsub.trans (hs6.trans h1))), rfl, MatchR.good ⟨g31, hg2⟩ ⟨rows l, _, outQ t A.length, _, _, rfl, hAe ▸ hBe ▸ hbest, by rw [← hAe, ← hBe, PairD.encs, List.length_map]; exact h2, Rd.mono h1 _ _ hd6⟩⟩
  · refine RL.q (Y.not rfl) rfl ?_
    refine RL.q (Y.move rfl) rfl ?_
    refine RL.no ⟨_, _, rfl, rfl, rfl⟩ rfl ?_
    refine RL.no ⟨_, _, rfl, rfl, rfl⟩ rfl ?_
    refine RL.q (Y.pickT rfl rfl) rfl ?_
    refine RL.nil ?_
    refine hK5 _ _ _ ?_
    refine CW.keep (Keep.cons 7 rfl (Keep.cons 9 rfl (Keep.cons 36 rfl (Keep.nil _)))) ?_
    refine CW.yes rfl ?_
    refine CW.seq fun K43 hK43 => ?_
    refine CW.region ?_
    refine RL.q (Y.assign rfl) rfl ?_
    refine RL.q (Y.assign rfl) rfl ?_
    refine RL.q (Y.assign rfl) rfl ?_
    refine RL.nil ?_
    refine hK43 _ _ _ ?_
    refine CW.keep (Keep.cons 4 rfl (Keep.cons 5 rfl (Keep.cons 6 rfl (Keep.nil _)))) ?_
    refine CW.ret ?_
    refine ⟨_, _, _, rfl, rfl, rfl, Turn.drop ⟨hs1.trans hs2, rfl, MatchR.bad (fun h => g31 h.1)⟩ (by repeat (first | exact List.Sublist.refl _ | apply List.Sublist.cons_cons | apply List.Sublist.cons))⟩
end Go.Proofs.Ytjkcjbicleohkaa
