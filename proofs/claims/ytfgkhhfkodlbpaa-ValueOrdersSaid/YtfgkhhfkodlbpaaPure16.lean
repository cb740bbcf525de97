/- ZERO VALUES AND TURNED VALUES ARE OF WORDS. No program in sight. -/
import Derived.Test.YtfgkhhfkodlbpaaPure15
namespace Xe
open Go
theorem fine_nil : ∀ v ∈ ([] : List Val), v.Fine := fun v hv => by cases hv
theorem v0_fine : v0.Fine := fine_mk (by decide) (by decide) fine_nil
theorem zeroL_fine {g : Ty → Int → ZR} (hg : ∀ t l, (g t l).1.Fine) : ∀ (ts : List Ty) (l : Int), ∀ v ∈ (zeroL g ts l).1, v.Fine
  | [], l, v, hv => by simp [zeroL] at hv
  | t :: ts, l, v, hv => by
    rw [zeroL] at hv
    split at hv
    · simp at hv
    · split at hv
      · simp at hv
      · simp only [List.mem_cons] at hv
        rcases hv with rfl | hv
        · exact hg t l
        · exact zeroL_fine hg ts _ v hv
theorem zNode_fine {k : Int} (hk : 0 ≤ k ∧ k ≤ 4) {r : List Val × Int × Int} (h : ∀ v ∈ r.1, v.Fine) : (zNode k r).1.Fine := by
  unfold zNode
  split
  · exact v0_fine
  · exact fine_mk hk (by decide) h
theorem zeroF_fine (p : ProgT) : ∀ (n : Nat) (t : Ty) (l : Int), (zeroF p n t l).1.Fine := by
  intro n
  induction n with
  | zero => intro t l; rw [zeroF]; split <;> exact v0_fine
  | succ n ih =>
    intro t l
    rw [zeroF]
    split
    · exact v0_fine
    split
    · exact v0_fine
    split
    · exact fine_mk (by decide) (by decide) fine_nil
    split
    · exact fine_mk (by decide) (by decide) fine_nil
    split
    · exact fine_mk (by decide) (by decide) fine_nil
    split
    · split
      · exact v0_fine
      · exact zNode_fine (by decide) (zeroL_fine ih _ _)
    · exact zNode_fine (by decide) (zeroL_fine ih _ _)
theorem rzV_fine (p : ProgT) (t : Ty) : (rzV p t).Fine := by
  unfold rzV
  split
  · exact v0_fine
  · exact zeroF_fine p 24 t 256
theorem valV_fine {p : ProgT} {n : Nat} {t : Ty} {l : List Int} (h : wfT p n t) : (valV p n t l).Fine := by
  unfold valV
  split
  · exact rzV_fine p t
  · exact mkF_fine n t 0 1 h
/-- A turned value's numbers are words. -/
theorem spoilAt_ok {v : Val} {how wth : Int} (h : v.Fine) (hw : InI wth) : (spoilAt v how wth).Ok := by
  have hk := h.1.kind
  have hn := h.1.n
  have hs := h.2.n
  unfold spoilAt
  split
  · exact .mk hw hn fun k hk => h.1.kid hk
  split
  · exact .mk hk hw fun k hk => h.1.kid hk
  split
  · exact .mk hk (show InI (v.n + 1) by unfold InI; omega) fun k hk => h.1.kid hk
  split
  · refine .mk hk hn fun k hk => ?_
    have hr := around_lt wth 5 (by omega)
    simp only [Val.kids, List.mem_append, List.mem_singleton] at hk
    rcases hk with hk | rfl
    · exact h.1.kid hk
    · exact (fine_mk (by omega) (by omega) fine_nil).1
  · exact .mk hk hn fun k hk => h.1.kid (List.mem_of_mem_drop hk)
theorem Val.Fine.kid {v k : Val} (h : v.Fine) (hk : k ∈ v.kids) : k.Fine := ⟨h.1.kid hk, h.2.kid hk⟩
mutual
theorem spoil_ok (how wth : Int) (hw : InI wth) : ∀ (v : Val) (a : Int), v.Fine → (spoil how wth v a).Ok
  | .mk k n l, a, h => by
    rw [spoil]
    split
    · split
      · rename_i l' hl
        exact .mk h.1.kind h.1.n (spoilL_ok how wth hw l a (fun x hx => h.kid hx) l' hl)
      · exact spoilAt_ok h hw
    · exact spoilAt_ok h hw
theorem spoilL_ok (how wth : Int) (hw : InI wth) : ∀ (l : List Val) (a : Int), (∀ x ∈ l, x.Fine) → ∀ l', spoilL how wth l a = some l' → ∀ x ∈ l', x.Ok
  | [], a, _, l', h => by rw [spoilL] at h; cases h
  | y :: ys, a, hf, l', h => by
    rw [spoilL] at h
    split at h
    · obtain rfl := Option.some.inj h
      intro x hx
      rcases List.mem_cons.1 hx with rfl | hx
      · exact spoil_ok how wth hw y (a - 1) (hf y (List.mem_cons_self ..))
      · exact (hf x (List.mem_cons_of_mem _ hx)).1
    · rw [Option.map_eq_some_iff] at h
      obtain ⟨l2, h2, rfl⟩ := h
      intro x hx
      rcases List.mem_cons.1 hx with rfl | hx
      · exact (hf x (List.mem_cons_self ..)).1
      · exact spoilL_ok how wth hw ys _ (fun z hz => hf z (List.mem_cons_of_mem _ hz)) l2 h2 x hx
end
theorem zeroL_size {g : Ty → Int → ZR} (hg : ∀ t l, (g t l).2.1 = 0 → ((g t l).1.size : Int) + (g t l).2.2 ≤ l) : ∀ (ts : List Ty) (l : Int), (zeroL g ts l).2.1 = 0 → (Val.sizes (zeroL g ts l).1 : Int) + (zeroL g ts l).2.2 ≤ l
  | [], l, _ => by simp [zeroL, Val.sizes]
  | t :: ts, l, h => by
    rw [zeroL] at h ⊢
    by_cases h1 : (g t l).2.1 ≠ 0
    · rw [if_pos h1] at h; exact absurd h h1
    rw [if_neg h1] at h ⊢
    by_cases h2 : (zeroL g ts (g t l).2.2).2.1 ≠ 0
    · rw [if_pos h2] at h; exact absurd h h2
    rw [if_neg h2]
    have k1 := hg t l (by omega)
    have k2 := zeroL_size hg ts (g t l).2.2 (by omega)
    simp only [Val.sizes]
    omega
theorem zNode_size {k : Int} {r : List Val × Int × Int} {l : Int} (h : r.2.1 = 0 → (Val.sizes r.1 : Int) + r.2.2 ≤ l - 1) (h0 : (zNode k r).2.1 = 0) : ((zNode k r).1.size : Int) + (zNode k r).2.2 ≤ l := by
  unfold zNode at h0 ⊢
  by_cases h1 : r.2.1 ≠ 0
  · rw [if_pos h1] at h0; exact absurd h0 h1
  · rw [if_neg h1]
    have := h (by omega)
    simp only [Val.size]
    omega
theorem zeroF_size (p : ProgT) : ∀ (n : Nat) (t : Ty) (l : Int), (zeroF p n t l).2.1 = 0 → ((zeroF p n t l).1.size : Int) + (zeroF p n t l).2.2 ≤ l := by
  intro n
  induction n with
  | zero => intro t l h; rw [zeroF] at h; split at h <;> (simp at h)
  | succ n ih =>
    intro t l h
    rw [zeroF] at h ⊢
    split
    · rename_i h1; rw [if_pos h1] at h; simp at h
    rename_i h1; rw [if_neg h1] at h
    split
    · rename_i h2; rw [if_pos h2] at h; simp at h
    rename_i h2; rw [if_neg h2] at h
    split
    · simp [Val.size, Val.sizes]; omega
    rename_i h3; rw [if_neg h3] at h
    split
    · simp [Val.size, Val.sizes]; omega
    rename_i h4; rw [if_neg h4] at h
    split
    · simp [Val.size, Val.sizes]; omega
    rename_i h5; rw [if_neg h5] at h
    split
    · rename_i h6; rw [if_pos h6] at h
      split
      · rename_i h7; rw [if_pos h7] at h; simp at h
      · rename_i h7; rw [if_neg h7] at h
        exact zNode_size (zeroL_size ih _ _) h
    · rename_i h6; rw [if_neg h6] at h
      exact zNode_size (zeroL_size ih _ _) h
theorem zeroV_size (p : ProgT) (t : Ty) (h : (zeroV p t).2.1 = 0) : (zeroV p t).1.size ≤ 256 := by
  have h1 := zeroF_size p 24 t 256 h
  have h2 := (zeroF_left p 24 t 256 h).1
  unfold zeroV
  omega
theorem valV_size {p : ProgT} {n : Nat} {t : Ty} {l : List Int} (h : wfT p n t) (hn : (4 : Int) ^ n ≤ 1099511627776) : (valV p n t l).size ≤ 1099511627776 := by
  have h1 := mkF_size (l := l) n t 0 1 h
  have h2 := mkF_pos (l := l) n t 0 1 h
  unfold valV
  split
  · unfold rzV
    split
    · simp [v0, Val.size, Val.sizes]
    · rename_i h4
      have h3 := zeroV_size p t (Decidable.not_not.1 h4)
      omega
  · omega
end Xe
