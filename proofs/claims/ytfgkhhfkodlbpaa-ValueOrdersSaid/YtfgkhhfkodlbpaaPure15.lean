/- THE MADE TYPES ARE WELL-FOUNDED; the made values are of words. No program in sight. -/
import Derived.Test.YtfgkhhfkodlbpaaPure14
namespace Xe
open Go
theorem idK_small {n : Int} (h0 : 0 ≤ n) (h1 : n < 32) : idK n = ⟨0, 1, n⟩ := by
  have e1 : n.tdiv 32 = 0 := by rw [Int.tdiv_eq_ediv_of_nonneg h0]; omega
  have e2 : n.tmod 32 = n := by rw [Int.tmod_eq_emod_of_nonneg h0]; omega
  rw [idK, e1, e2]; rfl
theorem tDefs_get (l : List Int) {k i : Nat} (h : i < k) : (tDefs l k)[i]'(by rw [tDefs_len]; exact h) = tDef l i := by simp [tDefs]
theorem types_def (l : List Int) {i : Nat} (h : i < tMany l) : hasDef (typesP l) (idK (1 + (i : Int))) ∧ theDef (typesP l) (idK (1 + (i : Int))) = tDef l i := by
  have hm := tMany_rng l
  have hl : i < (typesP l).defs.length := by rw [show (typesP l).defs = tDefs l (tMany l) from rfl, tDefs_len]; exact h
  have hg : (typesP l).defs[i] = tDef l i := tDefs_get l h
  have h1 := theDef_hit (p := typesP l) (id := idK (1 + (i : Int))) hl (fun j hj hlt e => by
    have hj' : j < tMany l := by omega
    rw [show (typesP l).defs[j] = tDef l j from tDefs_get l hj'] at e
    have e2 : idK (1 + (j : Int)) = idK (1 + (i : Int)) := e
    rw [idK_small (by omega) (by omega), idK_small (by omega) (by omega)] at e2
    simp only [IdT.mk.injEq] at e2
    omega) (by rw [hg]; rfl)
  rw [hg] at h1
  exact h1
theorem wfT_mono {p : ProgT} : ∀ {n m : Nat} {t : Ty}, n ≤ m → wfT p n t → wfT p m t
  | 0, _, _, _, h => h.elim
  | n + 1, 0, _, hm, _ => by omega
  | n + 1, m + 1, t, hm, h => by
    rw [wfT] at h ⊢
    rcases h with h | h | h | h
    · exact .inl h
    · exact .inr (.inl h)
    · exact .inr (.inr (.inl ⟨h.1, h.2.1, wfT_mono (by omega) h.2.2⟩))
    · exact .inr (.inr (.inr ⟨h.1, h.2.1, h.2.2.1, h.2.2.2.1, h.2.2.2.2.1, fun s hs => wfT_mono (by omega) (h.2.2.2.2.2 s hs)⟩))
theorem wfT_num (p : ProgT) (n : Nat) : wfT p (n + 1) ty0 := .inl rfl
theorem wfT_bool (p : ProgT) (n : Nat) : wfT p (n + 1) (.mk 1 id0 []) := .inr (.inl rfl)
theorem wfT_listT {p : ProgT} {n : Nat} {t : Ty} (h : wfT p n t) : wfT p (n + 1) (listT t) := .inr (.inr (.inl ⟨rfl, by simp [listT, Ty.kids], h⟩))
theorem pick_wf {p : ProgT} {f q : Nat} (n : Int) (hof : ∀ j : Nat, j < q → wfT p f (ofT (idK (1 + (j : Int))))) : wfT p (f + 2) (pickTy n q) := by
  have hr := around_lt n (4 + 2 * (q : Int)) (by omega)
  unfold pickTy
  split
  · exact wfT_bool p _
  split
  · exact wfT_listT (wfT_num p f)
  split
  · rename_i h4
    have e : (around n (4 + 2 * (q : Int)) - 4).tdiv 2 = (around n (4 + 2 * (q : Int)) - 4) / 2 := Int.tdiv_eq_ediv_of_nonneg (by omega)
    obtain ⟨j, hj⟩ := Int.eq_ofNat_of_zero_le (show 0 ≤ (around n (4 + 2 * (q : Int)) - 4) / 2 by omega)
    rw [e, hj]
    have h := hof j (by omega)
    split
    · exact wfT_mono (by omega) (wfT_listT h)
    · exact wfT_mono (by omega) h
  · exact wfT_num p _
theorem types_wf (l : List Int) : ∀ i : Nat, i < tMany l → wfT (typesP l) (3 * i + 3) (ofT (idK (1 + (i : Int)))) := by
  intro i
  induction i using Nat.strongRecOn with
  | _ i ih =>
    intro hi
    have hd := (types_def l hi).2
    rw [wfT]
    refine .inr (.inr (.inr ⟨by simp [ofT, Ty.kind], by simp [ofT, Ty.kind], by simp [ofT, Ty.kind], ?_⟩))
    have ha := tArity_rng l i
    rw [show (ofT (idK (1 + (i : Int)))).df = idK (1 + (i : Int)) from rfl, hd]
    have hs : (tDef l i).slots = tSlots l i (tArity l i) := rfl
    rw [hs, tSlots_len]
    refine ⟨by omega, fun _ => by omega, fun s hs => ?_⟩
    obtain ⟨j, _, rfl⟩ := List.mem_map.1 hs
    refine pick_wf (f := 3 * i) _ fun k hk => ?_
    exact wfT_mono (by omega) (ih k hk (by omega))
/-! ### Values of words -/
theorem mkS_all {Q : Val → Prop} {g : Ty → Int → MR} : ∀ (ts : List Ty) (pos : Int), (∀ t ∈ ts, ∀ q, Q (g t q).1) → ∀ v ∈ (mkS g ts pos).1, Q v
  | [], _, _, v, hv => by simp [mkS] at hv
  | t :: ts, pos, h, v, hv => by
    simp only [mkS, List.mem_cons] at hv
    rcases hv with rfl | hv
    · exact h t (List.mem_cons_self ..) pos
    · exact mkS_all ts _ (fun u hu => h u (List.mem_cons_of_mem _ hu)) v hv
def Val.Fine (v : Val) : Prop := v.Ok ∧ v.Sm
theorem fine_mk {k n : Int} {l : List Val} (hk : 0 ≤ k ∧ k ≤ 4) (hn : -4611686018427387904 ≤ n ∧ n ≤ 4611686018427387904) (h : ∀ v ∈ l, v.Fine) : (Val.mk k n l).Fine :=
  ⟨.mk (by simp only [Val.kind, InI]; omega) (by simp only [Val.n, InI]; omega) fun v hv => (h v hv).1, .mk hn fun v hv => (h v hv).2⟩
theorem mkF_fine {p : ProgT} {l : List Int} : ∀ (n : Nat) (t : Ty) (pos d : Int), wfT p n t → (mkF p l n t pos d).1.Fine := by
  intro n
  induction n with
  | zero => intro t pos d h; exact h.elim
  | succ n ih =>
    intro t pos d h
    have hc := atL_lt l pos 1048576 (by omega)
    have hq : (atL l pos 1048576).tdiv 16 = atL l pos 1048576 / 16 := Int.tdiv_eq_ediv_of_nonneg hc.1
    have hq3 : ((atL l pos 1048576).tdiv 16).tmod 3 = atL l pos 1048576 / 16 % 3 := by rw [hq, Int.tmod_eq_emod_of_nonneg (by omega)]
    have hq9 : ((atL l pos 1048576).tdiv 16).tmod 9 = atL l pos 1048576 / 16 % 9 := by rw [hq, Int.tmod_eq_emod_of_nonneg (by omega)]
    have hr2 : (atL l pos 1048576).tmod 2 = atL l pos 1048576 % 2 := Int.tmod_eq_emod_of_nonneg hc.1
    have none : ∀ v ∈ ([] : List Val), v.Fine := fun v hv => by cases hv
    rw [mkF]
    by_cases h0 : t.kind = 0
    · rw [if_pos h0]
      split
      · exact fine_mk (by omega) (by omega) none
      · split
        · exact fine_mk (by omega) (by omega) none
        · exact fine_mk (by omega) (by omega) none
    rw [if_neg h0]
    by_cases h1 : t.kind = 1
    · rw [if_pos h1]; exact fine_mk (by omega) (by omega) none
    rw [if_neg h1]
    by_cases h2 : t.kind = 2
    · rw [if_pos h2]
      have hk := (wfT_list h h2).2
      exact fine_mk (by omega) (by omega) (mkS_all _ _ fun u hu q => by rw [List.eq_of_mem_replicate hu]; exact ih _ q (d + 1) hk)
    rw [if_neg h2]
    obtain ⟨h3, h4, h5⟩ := wfT_def h h0 h1 h2
    by_cases hcd : (theDef p t.df).kind = 1
    · rw [if_pos hcd]
      have hpos := h4 hcd
      have h6 := Int.emod_lt_of_pos (atL l pos 1048576) (show (0 : Int) < (theDef p t.df).slots.length by omega)
      have h7 := Int.emod_nonneg (atL l pos 1048576) (show ((theDef p t.df).slots.length : Int) ≠ 0 by omega)
      have hm : (atL l pos 1048576).tmod (theDef p t.df).slots.length = atL l pos 1048576 % (theDef p t.df).slots.length := Int.tmod_eq_emod_of_nonneg hc.1
      have hlt : ((atL l pos 1048576).tmod (theDef p t.df).slots.length).toNat < (theDef p t.df).slots.length := by omega
      refine fine_mk (by omega) (by omega) fun v hv => ?_
      rw [List.mem_singleton] at hv
      rw [hv]
      refine ih _ (pos + 1) (d + 1) ?_
      rw [List.getD_eq_getElem?_getD, List.getElem?_map, List.getElem?_eq_getElem hlt]
      exact h5 _ (List.getElem_mem hlt)
    rw [if_neg hcd]
    refine fine_mk (by omega) (by omega) (mkS_all _ _ fun u hu q => ?_)
    obtain ⟨s, hs1, rfl⟩ := List.mem_map.1 hu
    exact ih _ q (d + 1) (h5 s hs1)
end Xe
