/- VALUES MADE OF NUMBERS. No program in sight. -/
import Derived.Test.YtfgkhhfkodlbpaaPure11
namespace Xe
open Go
abbrev MR := Val × Int
def mkS (g : Ty → Int → MR) : List Ty → Int → List Val × Int
  | [], pos => ([], pos)
  | t :: ts, pos => ((g t pos).1 :: (mkS g ts (g t pos).2).1, (mkS g ts (g t pos).2).2)
def mkF (p : ProgT) (l : List Int) : Nat → Ty → Int → Int → MR
  | 0, _, pos, _ => (v0, pos)
  | n + 1, t, pos, d =>
    if t.kind = 0 then
      (if (atL l pos 1048576).tmod 16 = 0 then (.mk 0 (1099511627776 - ((atL l pos 1048576).tdiv 16).tmod 3) [], pos + 1)
       else if (atL l pos 1048576).tmod 16 = 1 then (.mk 0 (-1099511627776 + ((atL l pos 1048576).tdiv 16).tmod 3) [], pos + 1)
       else (.mk 0 (((atL l pos 1048576).tdiv 16).tmod 9 - 4) [], pos + 1))
    else if t.kind = 1 then (.mk 1 ((atL l pos 1048576).tmod 2) [], pos + 1)
    else if t.kind = 2 then
      (.mk 4 0 (mkS (fun u q => mkF p l n u q (d + 1)) (List.replicate (if 3 < d then 0 else ((atL l pos 1048576).tmod 3).toNat) (t.kids.headD ty0)) (pos + 1)).1,
       (mkS (fun u q => mkF p l n u q (d + 1)) (List.replicate (if 3 < d then 0 else ((atL l pos 1048576).tmod 3).toNat) (t.kids.headD ty0)) (pos + 1)).2)
    else if (theDef p t.df).kind = 1 then
      (.mk 3 ((atL l pos 1048576).tmod (theDef p t.df).slots.length) [(mkF p l n (((theDef p t.df).slots.map SlotT.ty).getD ((atL l pos 1048576).tmod (theDef p t.df).slots.length).toNat ty0) (pos + 1) (d + 1)).1],
       (mkF p l n (((theDef p t.df).slots.map SlotT.ty).getD ((atL l pos 1048576).tmod (theDef p t.df).slots.length).toNat ty0) (pos + 1) (d + 1)).2)
    else (.mk 2 0 (mkS (fun u q => mkF p l n u q (d + 1)) ((theDef p t.df).slots.map SlotT.ty) (pos + 1)).1, (mkS (fun u q => mkF p l n u q (d + 1)) ((theDef p t.df).slots.map SlotT.ty) (pos + 1)).2)
/-- So much fuel is enough; rows are short. -/
def wfT (p : ProgT) : Nat → Ty → Prop
  | 0, _ => False
  | n + 1, t => t.kind = 0 ∨ t.kind = 1 ∨ (t.kind = 2 ∧ 0 < t.kids.length ∧ wfT p n (t.kids.headD ty0)) ∨
    (t.kind ≠ 0 ∧ t.kind ≠ 1 ∧ t.kind ≠ 2 ∧ (theDef p t.df).slots.length ≤ 3 ∧ ((theDef p t.df).kind = 1 → 0 < (theDef p t.df).slots.length) ∧ ∀ s ∈ (theDef p t.df).slots, wfT p n s.ty)
theorem wfT_list {p : ProgT} {n : Nat} {t : Ty} (h : wfT p (n + 1) t) (h2 : t.kind = 2) : 0 < t.kids.length ∧ wfT p n (t.kids.headD ty0) := by
  rw [wfT] at h
  rcases h with h | h | h | h
  · omega
  · omega
  · exact h.2
  · exact absurd h2 h.2.2.1
theorem wfT_def {p : ProgT} {n : Nat} {t : Ty} (h : wfT p (n + 1) t) (h0 : ¬ t.kind = 0) (h1 : ¬ t.kind = 1) (h2 : ¬ t.kind = 2) : (theDef p t.df).slots.length ≤ 3 ∧ ((theDef p t.df).kind = 1 → 0 < (theDef p t.df).slots.length) ∧ ∀ s ∈ (theDef p t.df).slots, wfT p n s.ty := by
  rw [wfT] at h
  rcases h with h | h | h | h
  · exact absurd h h0
  · exact absurd h h1
  · exact absurd h.1 h2
  · exact h.2.2.2
theorem mkS_pos {g : Ty → Int → MR} {b : Int} : ∀ (ts : List Ty) (pos : Int), (∀ t ∈ ts, ∀ q, q < (g t q).2 ∧ (g t q).2 ≤ q + b) → pos ≤ (mkS g ts pos).2 ∧ (mkS g ts pos).2 ≤ pos + ts.length * b
  | [], pos, _ => by simp [mkS]
  | t :: ts, pos, h => by
    have h1 := h t (List.mem_cons_self ..) pos
    have h2 := mkS_pos ts (g t pos).2 fun u hu => h u (List.mem_cons_of_mem _ hu)
    simp only [mkS, List.length_cons]
    have e : ((ts.length + 1 : Nat) : Int) * b = ts.length * b + b := by rw [Int.natCast_add, Int.add_mul]; simp
    omega
theorem mkF_pos {p : ProgT} {l : List Int} : ∀ (n : Nat) (t : Ty) (pos d : Int), wfT p n t → pos < (mkF p l n t pos d).2 ∧ (mkF p l n t pos d).2 ≤ pos + 4 ^ n := by
  intro n
  induction n with
  | zero => intro t pos d h; exact h.elim
  | succ n ih =>
    intro t pos d h
    have hp : (1 : Int) ≤ 4 ^ n := Int.pow_pos (n := 4) (m := n) (by decide)
    have hs : (4 : Int) ^ (n + 1) = 4 ^ n * 4 := Int.pow_succ 4 n
    have hmul : ∀ k : Nat, k ≤ 3 → (k : Int) * 4 ^ n ≤ 3 * 4 ^ n := fun k hk => Int.mul_le_mul_of_nonneg_right (by omega) (by omega)
    rw [mkF]
    by_cases h0 : t.kind = 0
    · rw [if_pos h0]
      split
      · simp only; omega
      · split <;> (simp only; omega)
    rw [if_neg h0]
    by_cases h1 : t.kind = 1
    · rw [if_pos h1]; simp only; omega
    rw [if_neg h1]
    by_cases h2 : t.kind = 2
    · rw [if_pos h2]
      have hk := (wfT_list h h2).2
      have hlen : (if 3 < d then 0 else ((atL l pos 1048576).tmod 3).toNat) ≤ 3 := by
        split
        · omega
        · have := atL_lt l pos 1048576 (by omega)
          rw [Int.tmod_eq_emod_of_nonneg this.1]; omega
      have := mkS_pos (g := fun u q => mkF p l n u q (d + 1)) (b := 4 ^ n) (List.replicate (if 3 < d then 0 else ((atL l pos 1048576).tmod 3).toNat) (t.kids.headD ty0)) (pos + 1) fun u hu q => by
        rw [List.eq_of_mem_replicate hu]; exact ih _ q (d + 1) hk
      have hq := hmul _ hlen
      rw [List.length_replicate] at this
      simp only
      omega
    rw [if_neg h2]
    obtain ⟨h3, h4, h5⟩ := wfT_def h h0 h1 h2
    by_cases hc : (theDef p t.df).kind = 1
    · rw [if_pos hc]
      have hpos := h4 hc
      have hlt : ((atL l pos 1048576).tmod (theDef p t.df).slots.length).toNat < (theDef p t.df).slots.length := by
        have := atL_lt l pos 1048576 (by omega)
        rw [Int.tmod_eq_emod_of_nonneg this.1]
        have h6 := Int.emod_lt_of_pos (atL l pos 1048576) (show (0 : Int) < (theDef p t.df).slots.length by omega)
        have h7 := Int.emod_nonneg (atL l pos 1048576) (show ((theDef p t.df).slots.length : Int) ≠ 0 by omega)
        omega
      have := ih (((theDef p t.df).slots.map SlotT.ty).getD ((atL l pos 1048576).tmod (theDef p t.df).slots.length).toNat ty0) (pos + 1) (d + 1) (by
        rw [List.getD_eq_getElem?_getD, List.getElem?_map, List.getElem?_eq_getElem hlt]
        exact h5 _ (List.getElem_mem hlt))
      simp only
      omega
    rw [if_neg hc]
    have := mkS_pos (g := fun u q => mkF p l n u q (d + 1)) (b := 4 ^ n) ((theDef p t.df).slots.map SlotT.ty) (pos + 1) fun u hu q => by
      obtain ⟨s, hs1, rfl⟩ := List.mem_map.1 hu
      exact ih _ q (d + 1) (h5 s hs1)
    have hq := hmul _ h3
    rw [List.length_map] at this
    simp only
    omega
def mJ (dn : List Val) (r : List Val × Int) : List Val × Int := (dn ++ r.1, r.2)
theorem mJ_nil (r : List Val × Int) : r = mJ [] r := rfl
theorem mJ_step {g : Ty → Int → MR} {ts : List Ty} {r : List Val × Int} {dn : List Val} {k : Nat} {pos : Int} (hk : k < ts.length) (h : r = mJ dn (mkS g (ts.drop k) pos)) : r = mJ (dn ++ [(g ts[k] pos).1]) (mkS g (ts.drop (k + 1)) (g ts[k] pos).2) := by
  rw [h, List.drop_eq_getElem_cons hk, mkS, mJ, mJ]
  simp
theorem mJ_end {g : Ty → Int → MR} {ts : List Ty} {r : List Val × Int} {dn : List Val} {k : Nat} {pos : Int} (hk : ts.length ≤ k) (h : r = mJ dn (mkS g (ts.drop k) pos)) : r = (dn, pos) := by
  rw [h, List.drop_of_length_le hk, mkS, mJ]; simp
/-! ### Their size -/
theorem mkS_size {g : Ty → Int → MR} : ∀ (ts : List Ty) (pos : Int), (∀ t ∈ ts, ∀ q, (g t q).2 = q + (g t q).1.size) → (mkS g ts pos).2 = pos + Val.sizes (mkS g ts pos).1
  | [], pos, _ => by simp [mkS, Val.sizes]
  | t :: ts, pos, h => by
    have h1 := h t (List.mem_cons_self ..) pos
    have h2 := mkS_size ts (g t pos).2 fun u hu => h u (List.mem_cons_of_mem _ hu)
    simp only [mkS, Val.sizes]
    omega
theorem mkF_size {p : ProgT} {l : List Int} : ∀ (n : Nat) (t : Ty) (pos d : Int), wfT p n t → (mkF p l n t pos d).2 = pos + (mkF p l n t pos d).1.size := by
  intro n
  induction n with
  | zero => intro t pos d h; exact h.elim
  | succ n ih =>
    intro t pos d h
    have one : ∀ k m : Int, pos + 1 = pos + ((Val.mk k m []).size : Int) := fun k m => by simp [Val.size, Val.sizes]
    rw [mkF]
    by_cases h0 : t.kind = 0
    · rw [if_pos h0]
      split
      · exact one _ _
      · split <;> exact one _ _
    rw [if_neg h0]
    by_cases h1 : t.kind = 1
    · rw [if_pos h1]; exact one _ _
    rw [if_neg h1]
    by_cases h2 : t.kind = 2
    · rw [if_pos h2]
      have hk := (wfT_list h h2).2
      have := mkS_size (g := fun u q => mkF p l n u q (d + 1)) (List.replicate (if 3 < d then 0 else ((atL l pos 1048576).tmod 3).toNat) (t.kids.headD ty0)) (pos + 1) fun u hu q => by
        rw [List.eq_of_mem_replicate hu]; exact ih _ q (d + 1) hk
      simp only [Val.size]
      omega
    rw [if_neg h2]
    obtain ⟨h3, h4, h5⟩ := wfT_def h h0 h1 h2
    by_cases hc : (theDef p t.df).kind = 1
    · rw [if_pos hc]
      have hpos := h4 hc
      have hlt : ((atL l pos 1048576).tmod (theDef p t.df).slots.length).toNat < (theDef p t.df).slots.length := by
        have := atL_lt l pos 1048576 (by omega)
        rw [Int.tmod_eq_emod_of_nonneg this.1]
        have h6 := Int.emod_lt_of_pos (atL l pos 1048576) (show (0 : Int) < (theDef p t.df).slots.length by omega)
        have h7 := Int.emod_nonneg (atL l pos 1048576) (show ((theDef p t.df).slots.length : Int) ≠ 0 by omega)
        omega
      have := ih (((theDef p t.df).slots.map SlotT.ty).getD ((atL l pos 1048576).tmod (theDef p t.df).slots.length).toNat ty0) (pos + 1) (d + 1) (by
        rw [List.getD_eq_getElem?_getD, List.getElem?_map, List.getElem?_eq_getElem hlt]
        exact h5 _ (List.getElem_mem hlt))
      simp only [Val.size, Val.sizes]
      omega
    rw [if_neg hc]
    have := mkS_size (g := fun u q => mkF p l n u q (d + 1)) ((theDef p t.df).slots.map SlotT.ty) (pos + 1) fun u hu q => by
      obtain ⟨s, hs1, rfl⟩ := List.mem_map.1 hu
      exact ih _ q (d + 1) (h5 s hs1)
    simp only [Val.size]
    omega
/-- The value of a type made of numbers. -/
def rzV (p : ProgT) (t : Ty) : Val := if (zeroV p t).2.1 ≠ 0 then v0 else (zeroV p t).1
def valV (p : ProgT) (n : Nat) (t : Ty) (l : List Int) : Val :=
  if 256 < (mkF p l n t 0 1).1.size ∨ 24 < (mkF p l n t 0 1).1.depth then rzV p t else (mkF p l n t 0 1).1
theorem Val.depths_le {l : List Val} (h : ∀ k ∈ l, k.depth ≤ k.size) : Val.depths l ≤ Val.sizes l := by
  induction l with
  | nil => simp [Val.depths]
  | cons x xs ih =>
    have h1 := h x (List.mem_cons_self ..)
    have h2 := ih fun k hk => h k (List.mem_cons_of_mem _ hk)
    simp only [Val.depths, Val.sizes]
    omega
theorem Val.depth_le (v : Val) : v.depth ≤ v.size := by
  refine Val.rec' (p := fun v => v.depth ≤ v.size) (fun v ih => ?_) v
  rw [Val.depth_eq, Val.size_eq]
  have := Val.depths_le ih
  omega
end Xe
