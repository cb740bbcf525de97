/- Pure12 Pure13 Pure14 Pure15 Pure16 Pure17 Pure18 Pure19 Pure20 Pure21 Pure22 Pure23, put together. No program in sight. -/
import Derived.Test.YtfgkhhfkodlbpaaPureA
import Derived.Test.YtfgkhhfkodlbpaaXe4
/- VALUES MADE OF NUMBERS. No program in sight. -/
namespace Xe
open Go
abbrev MR := Val × Int
def mkS (g : Ty → Int → MR) : List Ty → Int → List Val × Int
  | [], pos => ([], pos)
  | t :: ts, pos => ((g t pos).1 :: (mkS g ts (g t pos).2).1, (mkS g ts (g t pos).2).2)
def mkF (p : ProgT) (l : List Int) : Nat → Ty → Int → Int → MR
  | 0, _, pos, _ => (v0, pos)
  | n + 1, t, pos, d =>
    if t.kind = 0 then
      (if (atL l pos 1048576).tmod 16 = 0 then (.mk 0 (1099511627776 - ((atL l pos 1048576).tdiv 16).tmod 3) [], pos + 1)
       else if (atL l pos 1048576).tmod 16 = 1 then (.mk 0 (-1099511627776 + ((atL l pos 1048576).tdiv 16).tmod 3) [], pos + 1)
       else (.mk 0 (((atL l pos 1048576).tdiv 16).tmod 9 - 4) [], pos + 1))
    else if t.kind = 1 then (.mk 1 ((atL l pos 1048576).tmod 2) [], pos + 1)
    else if t.kind = 2 then
      (.mk 4 0 (mkS (fun u q => mkF p l n u q (d + 1)) (List.replicate (if 3 < d then 0 else ((atL l pos 1048576).tmod 3).toNat) (t.kids.headD ty0)) (pos + 1)).1,
       (mkS (fun u q => mkF p l n u q (d + 1)) (List.replicate (if 3 < d then 0 else ((atL l pos 1048576).tmod 3).toNat) (t.kids.headD ty0)) (pos + 1)).2)
    else if (theDef p t.df).kind = 1 then
      (.mk 3 ((atL l pos 1048576).tmod (theDef p t.df).slots.length) [(mkF p l n (((theDef p t.df).slots.map SlotT.ty).getD ((atL l pos 1048576).tmod (theDef p t.df).slots.length).toNat ty0) (pos + 1) (d + 1)).1],
       (mkF p l n (((theDef p t.df).slots.map SlotT.ty).getD ((atL l pos 1048576).tmod (theDef p t.df).slots.length).toNat ty0) (pos + 1) (d + 1)).2)
    else (.mk 2 0 (mkS (fun u q => mkF p l n u q (d + 1)) ((theDef p t.df).slots.map SlotT.ty) (pos + 1)).1, (mkS (fun u q => mkF p l n u q (d + 1)) ((theDef p t.df).slots.map SlotT.ty) (pos + 1)).2)
/-- So much fuel is enough; rows are short. -/
def wfT (p : ProgT) : Nat → Ty → Prop
  | 0, _ => False
  | n + 1, t => t.kind = 0 ∨ t.kind = 1 ∨ (t.kind = 2 ∧ 0 < t.kids.length ∧ wfT p n (t.kids.headD ty0)) ∨
    (t.kind ≠ 0 ∧ t.kind ≠ 1 ∧ t.kind ≠ 2 ∧ (theDef p t.df).slots.length ≤ 3 ∧ ((theDef p t.df).kind = 1 → 0 < (theDef p t.df).slots.length) ∧ ∀ s ∈ (theDef p t.df).slots, wfT p n s.ty)
theorem wfT_list {p : ProgT} {n : Nat} {t : Ty} (h : wfT p (n + 1) t) (h2 : t.kind = 2) : 0 < t.kids.length ∧ wfT p n (t.kids.headD ty0) := by
  rw [wfT] at h
  rcases h with h | h | h | h
  · omega
  · omega
  · exact h.2
  · exact absurd h2 h.2.2.1
theorem wfT_def {p : ProgT} {n : Nat} {t : Ty} (h : wfT p (n + 1) t) (h0 : ¬ t.kind = 0) (h1 : ¬ t.kind = 1) (h2 : ¬ t.kind = 2) : (theDef p t.df).slots.length ≤ 3 ∧ ((theDef p t.df).kind = 1 → 0 < (theDef p t.df).slots.length) ∧ ∀ s ∈ (theDef p t.df).slots, wfT p n s.ty := by
  rw [wfT] at h
  rcases h with h | h | h | h
  · exact absurd h h0
  · exact absurd h h1
  · exact absurd h.1 h2
  · exact h.2.2.2
theorem mkS_pos {g : Ty → Int → MR} {b : Int} : ∀ (ts : List Ty) (pos : Int), (∀ t ∈ ts, ∀ q, q < (g t q).2 ∧ (g t q).2 ≤ q + b) → pos ≤ (mkS g ts pos).2 ∧ (mkS g ts pos).2 ≤ pos + ts.length * b
  | [], pos, _ => by simp [mkS]
  | t :: ts, pos, h => by
    have h1 := h t (List.mem_cons_self ..) pos
    have h2 := mkS_pos ts (g t pos).2 fun u hu => h u (List.mem_cons_of_mem _ hu)
    simp only [mkS, List.length_cons]
    have e : ((ts.length + 1 : Nat) : Int) * b = ts.length * b + b := by rw [Int.natCast_add, Int.add_mul]; simp
    omega
theorem mkF_pos {p : ProgT} {l : List Int} : ∀ (n : Nat) (t : Ty) (pos d : Int), wfT p n t → pos < (mkF p l n t pos d).2 ∧ (mkF p l n t pos d).2 ≤ pos + 4 ^ n := by
  intro n
  induction n with
  | zero => intro t pos d h; exact h.elim
  | succ n ih =>
    intro t pos d h
    have hp : (1 : Int) ≤ 4 ^ n := Int.pow_pos (n := 4) (m := n) (by decide)
    have hs : (4 : Int) ^ (n + 1) = 4 ^ n * 4 := Int.pow_succ 4 n
    have hmul : ∀ k : Nat, k ≤ 3 → (k : Int) * 4 ^ n ≤ 3 * 4 ^ n := fun k hk => Int.mul_le_mul_of_nonneg_right (by omega) (by omega)
    rw [mkF]
    by_cases h0 : t.kind = 0
    · rw [if_pos h0]
      split
      · simp only; omega
      · split <;> (simp only; omega)
    rw [if_neg h0]
    by_cases h1 : t.kind = 1
    · rw [if_pos h1]; simp only; omega
    rw [if_neg h1]
    by_cases h2 : t.kind = 2
    · rw [if_pos h2]
      have hk := (wfT_list h h2).2
      have hlen : (if 3 < d then 0 else ((atL l pos 1048576).tmod 3).toNat) ≤ 3 := by
        split
        · omega
        · have := atL_lt l pos 1048576 (by omega)
          rw [Int.tmod_eq_emod_of_nonneg this.1]; omega
      have := mkS_pos (g := fun u q => mkF p l n u q (d + 1)) (b := 4 ^ n) (List.replicate (if 3 < d then 0 else ((atL l pos 1048576).tmod 3).toNat) (t.kids.headD ty0)) (pos + 1) fun u hu q => by
        rw [List.eq_of_mem_replicate hu]; exact ih _ q (d + 1) hk
      have hq := hmul _ hlen
      rw [List.length_replicate] at this
      simp only
      omega
    rw [if_neg h2]
    obtain ⟨h3, h4, h5⟩ := wfT_def h h0 h1 h2
    by_cases hc : (theDef p t.df).kind = 1
    · rw [if_pos hc]
      have hpos := h4 hc
      have hlt : ((atL l pos 1048576).tmod (theDef p t.df).slots.length).toNat < (theDef p t.df).slots.length := by
        have := atL_lt l pos 1048576 (by omega)
        rw [Int.tmod_eq_emod_of_nonneg this.1]
        have h6 := Int.emod_lt_of_pos (atL l pos 1048576) (show (0 : Int) < (theDef p t.df).slots.length by omega)
        have h7 := Int.emod_nonneg (atL l pos 1048576) (show ((theDef p t.df).slots.length : Int) ≠ 0 by omega)
        omega
      have := ih (((theDef p t.df).slots.map SlotT.ty).getD ((atL l pos 1048576).tmod (theDef p t.df).slots.length).toNat ty0) (pos + 1) (d + 1) (by
        rw [List.getD_eq_getElem?_getD, List.getElem?_map, List.getElem?_eq_getElem hlt]
        exact h5 _ (List.getElem_mem hlt))
      simp only
      omega
    rw [if_neg hc]
    have := mkS_pos (g := fun u q => mkF p l n u q (d + 1)) (b := 4 ^ n) ((theDef p t.df).slots.map SlotT.ty) (pos + 1) fun u hu q => by
      obtain ⟨s, hs1, rfl⟩ := List.mem_map.1 hu
      exact ih _ q (d + 1) (h5 s hs1)
    have hq := hmul _ h3
    rw [List.length_map] at this
    simp only
    omega
def mJ (dn : List Val) (r : List Val × Int) : List Val × Int := (dn ++ r.1, r.2)
theorem mJ_nil (r : List Val × Int) : r = mJ [] r := rfl
theorem mJ_step {g : Ty → Int → MR} {ts : List Ty} {r : List Val × Int} {dn : List Val} {k : Nat} {pos : Int} (hk : k < ts.length) (h : r = mJ dn (mkS g (ts.drop k) pos)) : r = mJ (dn ++ [(g ts[k] pos).1]) (mkS g (ts.drop (k + 1)) (g ts[k] pos).2) := by
  rw [h, List.drop_eq_getElem_cons hk, mkS, mJ, mJ]
  simp
theorem mJ_end {g : Ty → Int → MR} {ts : List Ty} {r : List Val × Int} {dn : List Val} {k : Nat} {pos : Int} (hk : ts.length ≤ k) (h : r = mJ dn (mkS g (ts.drop k) pos)) : r = (dn, pos) := by
  rw [h, List.drop_of_length_le hk, mkS, mJ]; simp
/-! ### Their size -/
theorem mkS_size {g : Ty → Int → MR} : ∀ (ts : List Ty) (pos : Int), (∀ t ∈ ts, ∀ q, (g t q).2 = q + (g t q).1.size) → (mkS g ts pos).2 = pos + Val.sizes (mkS g ts pos).1
  | [], pos, _ => by simp [mkS, Val.sizes]
  | t :: ts, pos, h => by
    have h1 := h t (List.mem_cons_self ..) pos
    have h2 := mkS_size ts (g t pos).2 fun u hu => h u (List.mem_cons_of_mem _ hu)
    simp only [mkS, Val.sizes]
    omega
theorem mkF_size {p : ProgT} {l : List Int} : ∀ (n : Nat) (t : Ty) (pos d : Int), wfT p n t → (mkF p l n t pos d).2 = pos + (mkF p l n t pos d).1.size := by
  intro n
  induction n with
  | zero => intro t pos d h; exact h.elim
  | succ n ih =>
    intro t pos d h
    have one : ∀ k m : Int, pos + 1 = pos + ((Val.mk k m []).size : Int) := fun k m => by simp [Val.size, Val.sizes]
    rw [mkF]
    by_cases h0 : t.kind = 0
    · rw [if_pos h0]
      split
      · exact one _ _
      · split <;> exact one _ _
    rw [if_neg h0]
    by_cases h1 : t.kind = 1
    · rw [if_pos h1]; exact one _ _
    rw [if_neg h1]
    by_cases h2 : t.kind = 2
    · rw [if_pos h2]
      have hk := (wfT_list h h2).2
      have := mkS_size (g := fun u q => mkF p l n u q (d + 1)) (List.replicate (if 3 < d then 0 else ((atL l pos 1048576).tmod 3).toNat) (t.kids.headD ty0)) (pos + 1) fun u hu q => by
        rw [List.eq_of_mem_replicate hu]; exact ih _ q (d + 1) hk
      simp only [Val.size]
      omega
    rw [if_neg h2]
    obtain ⟨h3, h4, h5⟩ := wfT_def h h0 h1 h2
    by_cases hc : (theDef p t.df).kind = 1
    · rw [if_pos hc]
      have hpos := h4 hc
      have hlt : ((atL l pos 1048576).tmod (theDef p t.df).slots.length).toNat < (theDef p t.df).slots.length := by
        have := atL_lt l pos 1048576 (by omega)
        rw [Int.tmod_eq_emod_of_nonneg this.1]
        have h6 := Int.emod_lt_of_pos (atL l pos 1048576) (show (0 : Int) < (theDef p t.df).slots.length by omega)
        have h7 := Int.emod_nonneg (atL l pos 1048576) (show ((theDef p t.df).slots.length : Int) ≠ 0 by omega)
        omega
      have := ih (((theDef p t.df).slots.map SlotT.ty).getD ((atL l pos 1048576).tmod (theDef p t.df).slots.length).toNat ty0) (pos + 1) (d + 1) (by
        rw [List.getD_eq_getElem?_getD, List.getElem?_map, List.getElem?_eq_getElem hlt]
        exact h5 _ (List.getElem_mem hlt))
      simp only [Val.size, Val.sizes]
      omega
    rw [if_neg hc]
    have := mkS_size (g := fun u q => mkF p l n u q (d + 1)) ((theDef p t.df).slots.map SlotT.ty) (pos + 1) fun u hu q => by
      obtain ⟨s, hs1, rfl⟩ := List.mem_map.1 hu
      exact ih _ q (d + 1) (h5 s hs1)
    simp only [Val.size]
    omega
/-- The value of a type made of numbers. -/
def rzV (p : ProgT) (t : Ty) : Val := if (zeroV p t).2.1 ≠ 0 then v0 else (zeroV p t).1
def valV (p : ProgT) (n : Nat) (t : Ty) (l : List Int) : Val :=
  if 256 < (mkF p l n t 0 1).1.size ∨ 24 < (mkF p l n t 0 1).1.depth then rzV p t else (mkF p l n t 0 1).1
theorem Val.depths_le {l : List Val} (h : ∀ k ∈ l, k.depth ≤ k.size) : Val.depths l ≤ Val.sizes l := by
  induction l with
  | nil => simp [Val.depths]
  | cons x xs ih =>
    have h1 := h x (List.mem_cons_self ..)
    have h2 := ih fun k hk => h k (List.mem_cons_of_mem _ hk)
    simp only [Val.depths, Val.sizes]
    omega
theorem Val.depth_le (v : Val) : v.depth ≤ v.size := by
  refine Val.rec' (p := fun v => v.depth ≤ v.size) (fun v ih => ?_) v
  rw [Val.depth_eq, Val.size_eq]
  have := Val.depths_le ih
  omega
end Xe

/- THE ORDER OF VALUES. No program in sight. -/
namespace Xe
open Go
theorem cmpI_neg (a b : Int) : cmpI a b = -cmpI b a := by unfold cmpI; split <;> split <;> omega
theorem cmpI_eq0 {a b : Int} (h : cmpI a b = 0) : a = b := by unfold cmpI at h; split at h <;> (try split at h) <;> omega
theorem cmpI_lt_iff {a b : Int} : cmpI a b < 0 ↔ a < b := by unfold cmpI; split <;> (try split) <;> omega
/-- One test, then the other. -/
def lx (a b : Int) : Int := if a ≠ 0 then a else b
theorem lx_eq0 {a b : Int} (h : lx a b = 0) : a = 0 ∧ b = 0 := by unfold lx at h; split at h <;> omega
theorem lx_neg (a b : Int) : lx (-a) (-b) = -lx a b := by unfold lx; split <;> split <;> omega
theorem lx_lt {a b : Int} (h : lx a b < 0) : a < 0 ∨ (a = 0 ∧ b < 0) := by unfold lx at h; split at h <;> omega
theorem lx_neg_of {a b : Int} (h : a < 0 ∨ (a = 0 ∧ b < 0)) : lx a b < 0 := by unfold lx; split <;> omega
theorem cmpV_lx (a b : Val) : cmpV a b = lx (cmpI a.kind b.kind) (lx (cmpI a.n b.n) (lx (cmpI a.kids.length b.kids.length) (cmpVs a.kids b.kids))) := by rw [cmpV_eq]; rfl
theorem cmpVs_cons (x y : Val) (xs ys : List Val) : cmpVs (x :: xs) (y :: ys) = lx (cmpV x y) (cmpVs xs ys) := by rw [cmpVs]; rfl
mutual
theorem cmpV_self : ∀ a : Val, cmpV a a = 0
  | .mk k n l => by rw [cmpV_lx]; simp only [Val.kind, Val.n, Val.kids, cmpI_self, cmpVs_self l, lx]; simp
theorem cmpVs_self : ∀ l : List Val, cmpVs l l = 0
  | [] => by rw [cmpVs]
  | x :: xs => by rw [cmpVs_cons, cmpV_self x, cmpVs_self xs]; rfl
end
mutual
theorem cmpV_eq0 : ∀ a b : Val, cmpV a b = 0 → a = b
  | .mk k n l, .mk k' n' l', h => by
    rw [cmpV_lx] at h
    obtain ⟨h1, h⟩ := lx_eq0 h
    obtain ⟨h2, h⟩ := lx_eq0 h
    obtain ⟨_, h⟩ := lx_eq0 h
    have e1 := cmpI_eq0 h1
    have e2 := cmpI_eq0 h2
    have e3 := cmpVs_eq0 l l' h
    simp only [Val.kind, Val.n] at e1 e2
    rw [e1, e2, e3]
theorem cmpVs_eq0 : ∀ a b : List Val, cmpVs a b = 0 → a = b
  | [], [], _ => rfl
  | [], _ :: _, h => by rw [cmpVs] at h; omega
  | _ :: _, [], h => by rw [cmpVs] at h; omega
  | x :: xs, y :: ys, h => by
    rw [cmpVs_cons] at h
    obtain ⟨h1, h2⟩ := lx_eq0 h
    rw [cmpV_eq0 x y h1, cmpVs_eq0 xs ys h2]
end
mutual
theorem cmpV_neg : ∀ a b : Val, cmpV a b = -cmpV b a
  | .mk k n l, .mk k' n' l' => by
    rw [cmpV_lx, cmpV_lx (.mk k' n' l')]
    simp only [Val.kind, Val.n, Val.kids]
    rw [cmpI_neg k, cmpI_neg n, cmpI_neg (l.length : Int), cmpVs_neg l l', lx_neg, lx_neg, lx_neg]
theorem cmpVs_neg : ∀ a b : List Val, cmpVs a b = -cmpVs b a
  | [], [] => by rw [cmpVs]; rfl
  | [], _ :: _ => by rw [cmpVs, cmpVs]
  | _ :: _, [] => by rw [cmpVs, cmpVs]; rfl
  | x :: xs, y :: ys => by rw [cmpVs_cons, cmpVs_cons, cmpV_neg x y, cmpVs_neg xs ys, lx_neg]
end
mutual
theorem cmpV_tr : ∀ a b c : Val, cmpV a b < 0 → cmpV b c < 0 → cmpV a c < 0
  | .mk k n l, .mk k' n' l', .mk k2 n2 l2, h, h' => by
    rw [cmpV_lx] at h h' ⊢
    simp only [Val.kind, Val.n, Val.kids] at h h' ⊢
    have tI : ∀ {x y z : Int}, cmpI x y < 0 → cmpI y z < 0 → cmpI x z < 0 := fun h1 h2 => cmpI_lt_iff.2 (Int.lt_trans (cmpI_lt_iff.1 h1) (cmpI_lt_iff.1 h2))
    refine lx_neg_of ?_
    rcases lx_lt h with h1 | ⟨h1, h⟩
    · rcases lx_lt h' with h2 | ⟨h2, _⟩
      · exact .inl (tI h1 h2)
      · rw [← cmpI_eq0 h2]; exact .inl h1
    rw [cmpI_eq0 h1]
    rcases lx_lt h' with h2 | ⟨h2, h'⟩
    · exact .inl h2
    refine .inr ⟨h2, lx_neg_of ?_⟩
    rcases lx_lt h with h1 | ⟨h1, h⟩
    · rcases lx_lt h' with h2 | ⟨h2, _⟩
      · exact .inl (tI h1 h2)
      · rw [← cmpI_eq0 h2]; exact .inl h1
    rw [cmpI_eq0 h1]
    rcases lx_lt h' with h2 | ⟨h2, h'⟩
    · exact .inl h2
    refine .inr ⟨h2, lx_neg_of ?_⟩
    rcases lx_lt h with h1 | ⟨h1, h⟩
    · rcases lx_lt h' with h2 | ⟨h2, _⟩
      · exact .inl (tI h1 h2)
      · rw [← cmpI_eq0 h2]; exact .inl h1
    rw [cmpI_eq0 h1]
    rcases lx_lt h' with h2 | ⟨h2, h'⟩
    · exact .inl h2
    exact .inr ⟨h2, cmpVs_tr l l' l2 h h'⟩
theorem cmpVs_tr : ∀ a b c : List Val, cmpVs a b < 0 → cmpVs b c < 0 → cmpVs a c < 0
  | [], [], _, h, _ => by rw [cmpVs] at h; omega
  | [], _ :: _, [], _, h' => by rw [cmpVs] at h'; omega
  | [], _ :: _, _ :: _, _, _ => by rw [cmpVs]; omega
  | _ :: _, [], _, h, _ => by rw [cmpVs] at h; omega
  | _ :: _, _ :: _, [], _, h' => by rw [cmpVs] at h'; omega
  | x :: xs, y :: ys, z :: zs, h, h' => by
    rw [cmpVs_cons] at h h' ⊢
    refine lx_neg_of ?_
    rcases lx_lt h with h1 | ⟨h1, h⟩
    · rcases lx_lt h' with h2 | ⟨h2, _⟩
      · exact .inl (cmpV_tr x y z h1 h2)
      · rw [← cmpV_eq0 y z h2]; exact .inl h1
    rw [cmpV_eq0 x y h1]
    rcases lx_lt h' with h2 | ⟨h2, h'⟩
    · exact .inl h2
    exact .inr ⟨h2, cmpVs_tr xs ys zs h h'⟩
end
theorem cmpV_trans {a b c : Val} (h : cmpV a b ≤ 0) (h' : cmpV b c ≤ 0) : cmpV a c ≤ 0 := by
  rcases Int.lt_or_eq_of_le h with h1 | h1
  · rcases Int.lt_or_eq_of_le h' with h2 | h2
    · exact Int.le_of_lt (cmpV_tr a b c h1 h2)
    · rw [← cmpV_eq0 b c h2]; exact h
  · rw [cmpV_eq0 a b h1]; exact h'
end Xe

/- VALUES WITH ONE PLACE TURNED. No program in sight. -/
namespace Xe
open Go
def spoilAt (v : Val) (how wth : Int) : Val :=
  if around how 5 = 0 then .mk wth v.n v.kids else if around how 5 = 1 then .mk v.kind wth v.kids else if around how 5 = 2 then .mk v.kind (v.n + 1) v.kids
  else if around how 5 = 3 then .mk v.kind v.n (v.kids ++ [.mk (around wth 5) 0 []]) else .mk v.kind v.n (v.kids.drop 1)
mutual
def spoil (how wth : Int) : Val → Int → Val
  | .mk k n l, a => if 0 < a then (match spoilL how wth l a with
    | some l' => .mk k n l'
    | none => spoilAt (.mk k n l) how wth) else spoilAt (.mk k n l) how wth
def spoilL (how wth : Int) : List Val → Int → Option (List Val)
  | [], _ => none
  | x :: xs, a => if a ≤ x.size then some (spoil how wth x (a - 1) :: xs) else (spoilL how wth xs (a - x.size)).map (x :: ·)
end
theorem spoil_eq (how wth : Int) (v : Val) (a : Int) : spoil how wth v a = if 0 < a then (match spoilL how wth v.kids a with
    | some l' => .mk v.kind v.n l'
    | none => spoilAt v how wth) else spoilAt v how wth := by cases v; rw [spoil]; rfl
theorem spoilL_nil (how wth : Int) (l : List Val) (a : Int) : spoilL how wth l a = (spoilL how wth (l.drop 0) a).map (l.take 0 ++ ·) := by simp
theorem spoilL_step {how wth : Int} {l : List Val} {a ak : Int} {k : Nat} (hk : k < l.length) (h : spoilL how wth l a = (spoilL how wth (l.drop k) ak).map (l.take k ++ ·)) (hn : ¬ ak ≤ l[k].size) :
    spoilL how wth l a = (spoilL how wth (l.drop (k + 1)) (ak - l[k].size)).map (l.take (k + 1) ++ ·) := by
  have e : ((fun x => l.take k ++ x) ∘ (fun x => l[k] :: x)) = (fun x => l.take (k + 1) ++ x) := funext fun x => by
    rw [List.take_succ_eq_append_getElem hk, List.append_assoc]; rfl
  rw [h, List.drop_eq_getElem_cons hk, spoilL, if_neg hn, Option.map_map, e]
theorem spoilL_hit {how wth : Int} {l : List Val} {a ak : Int} {k : Nat} (hk : k < l.length) (h : spoilL how wth l a = (spoilL how wth (l.drop k) ak).map (l.take k ++ ·)) (hn : ak ≤ l[k].size) :
    spoilL how wth l a = some (l.take k ++ ([spoil how wth l[k] (ak - 1)] ++ l.drop (k + 1))) := by
  rw [h, List.drop_eq_getElem_cons hk, spoilL, if_pos hn]; rfl
theorem spoilL_miss {how wth : Int} {l : List Val} {a ak : Int} {k : Nat} (hk : l.length ≤ k) (h : spoilL how wth l a = (spoilL how wth (l.drop k) ak).map (l.take k ++ ·)) : spoilL how wth l a = none := by
  rw [h, List.drop_of_length_le hk, spoilL]; rfl
/-- Numbers that may grow by one. -/
inductive Val.Sm : Val → Prop
  | mk {v : Val} : -4611686018427387904 ≤ v.n ∧ v.n ≤ 4611686018427387904 → (∀ k ∈ v.kids, Val.Sm k) → Val.Sm v
theorem Val.Sm.n {v : Val} (h : v.Sm) : -4611686018427387904 ≤ v.n ∧ v.n ≤ 4611686018427387904 := by cases h with | mk a b => exact a
theorem Val.Sm.kid {v k : Val} (h : v.Sm) (hk : k ∈ v.kids) : k.Sm := by cases h with | mk a b => exact b k hk
theorem Val.open {M : Mem} {v : Val} {us : List Value} (h : RdL M v.enc us) : ∃ u, us = [vint v.kind, vint v.n, u] ∧ Rd M (.sl v.kids.length 3 (v.kids.flatMap Val.enc)) u := by
  rw [Val.enc_eq] at h
  obtain ⟨v0, t0, rfl, r0, h⟩ := h.uncons
  obtain ⟨v1, t1, rfl, r1, h⟩ := h.uncons
  obtain ⟨v2, t2, rfl, r2, h⟩ := h.uncons
  obtain rfl := h.unnil
  obtain rfl := r0.int_eq
  obtain rfl := r1.int_eq
  exact ⟨v2, rfl, r2⟩
end Xe

/- THE MADE TYPES ARE WELL-FOUNDED; the made values are of words. No program in sight. -/
namespace Xe
open Go
theorem idK_small {n : Int} (h0 : 0 ≤ n) (h1 : n < 32) : idK n = ⟨0, 1, n⟩ := by
  have e1 : n.tdiv 32 = 0 := by rw [Int.tdiv_eq_ediv_of_nonneg h0]; omega
  have e2 : n.tmod 32 = n := by rw [Int.tmod_eq_emod_of_nonneg h0]; omega
  rw [idK, e1, e2]; rfl
theorem tDefs_get (l : List Int) {k i : Nat} (h : i < k) : (tDefs l k)[i]'(by rw [tDefs_len]; exact h) = tDef l i := by simp [tDefs]
theorem types_def (l : List Int) {i : Nat} (h : i < tMany l) : hasDef (typesP l) (idK (1 + (i : Int))) ∧ theDef (typesP l) (idK (1 + (i : Int))) = tDef l i := by
  have hm := tMany_rng l
  have hl : i < (typesP l).defs.length := by rw [show (typesP l).defs = tDefs l (tMany l) from rfl, tDefs_len]; exact h
  have hg : (typesP l).defs[i] = tDef l i := tDefs_get l h
  have h1 := theDef_hit (p := typesP l) (id := idK (1 + (i : Int))) hl (fun j hj hlt e => by
    have hj' : j < tMany l := by omega
    rw [show (typesP l).defs[j] = tDef l j from tDefs_get l hj'] at e
    have e2 : idK (1 + (j : Int)) = idK (1 + (i : Int)) := e
    rw [idK_small (by omega) (by omega), idK_small (by omega) (by omega)] at e2
    simp only [IdT.mk.injEq] at e2
    omega) (by rw [hg]; rfl)
  rw [hg] at h1
  exact h1
theorem wfT_mono {p : ProgT} : ∀ {n m : Nat} {t : Ty}, n ≤ m → wfT p n t → wfT p m t
  | 0, _, _, _, h => h.elim
  | n + 1, 0, _, hm, _ => by omega
  | n + 1, m + 1, t, hm, h => by
    rw [wfT] at h ⊢
    rcases h with h | h | h | h
    · exact .inl h
    · exact .inr (.inl h)
    · exact .inr (.inr (.inl ⟨h.1, h.2.1, wfT_mono (by omega) h.2.2⟩))
    · exact .inr (.inr (.inr ⟨h.1, h.2.1, h.2.2.1, h.2.2.2.1, h.2.2.2.2.1, fun s hs => wfT_mono (by omega) (h.2.2.2.2.2 s hs)⟩))
theorem wfT_num (p : ProgT) (n : Nat) : wfT p (n + 1) ty0 := .inl rfl
theorem wfT_bool (p : ProgT) (n : Nat) : wfT p (n + 1) (.mk 1 id0 []) := .inr (.inl rfl)
theorem wfT_listT {p : ProgT} {n : Nat} {t : Ty} (h : wfT p n t) : wfT p (n + 1) (listT t) := .inr (.inr (.inl ⟨rfl, by simp [listT, Ty.kids], h⟩))
theorem pick_wf {p : ProgT} {f q : Nat} (n : Int) (hof : ∀ j : Nat, j < q → wfT p f (ofT (idK (1 + (j : Int))))) : wfT p (f + 2) (pickTy n q) := by
  have hr := around_lt n (4 + 2 * (q : Int)) (by omega)
  unfold pickTy
  split
  · exact wfT_bool p _
  split
  · exact wfT_listT (wfT_num p f)
  split
  · rename_i h4
    have e : (around n (4 + 2 * (q : Int)) - 4).tdiv 2 = (around n (4 + 2 * (q : Int)) - 4) / 2 := Int.tdiv_eq_ediv_of_nonneg (by omega)
    obtain ⟨j, hj⟩ := Int.eq_ofNat_of_zero_le (show 0 ≤ (around n (4 + 2 * (q : Int)) - 4) / 2 by omega)
    rw [e, hj]
    have h := hof j (by omega)
    split
    · exact wfT_mono (by omega) (wfT_listT h)
    · exact wfT_mono (by omega) h
  · exact wfT_num p _
theorem types_wf (l : List Int) : ∀ i : Nat, i < tMany l → wfT (typesP l) (3 * i + 3) (ofT (idK (1 + (i : Int)))) := by
  intro i
  induction i using Nat.strongRecOn with
  | _ i ih =>
    intro hi
    have hd := (types_def l hi).2
    rw [wfT]
    refine .inr (.inr (.inr ⟨by simp [ofT, Ty.kind], by simp [ofT, Ty.kind], by simp [ofT, Ty.kind], ?_⟩))
    have ha := tArity_rng l i
    rw [show (ofT (idK (1 + (i : Int)))).df = idK (1 + (i : Int)) from rfl, hd]
    have hs : (tDef l i).slots = tSlots l i (tArity l i) := rfl
    rw [hs, tSlots_len]
    refine ⟨by omega, fun _ => by omega, fun s hs => ?_⟩
    obtain ⟨j, _, rfl⟩ := List.mem_map.1 hs
    refine pick_wf (f := 3 * i) _ fun k hk => ?_
    exact wfT_mono (by omega) (ih k hk (by omega))
/-! ### Values of words -/
theorem mkS_all {Q : Val → Prop} {g : Ty → Int → MR} : ∀ (ts : List Ty) (pos : Int), (∀ t ∈ ts, ∀ q, Q (g t q).1) → ∀ v ∈ (mkS g ts pos).1, Q v
  | [], _, _, v, hv => by simp [mkS] at hv
  | t :: ts, pos, h, v, hv => by
    simp only [mkS, List.mem_cons] at hv
    rcases hv with rfl | hv
    · exact h t (List.mem_cons_self ..) pos
    · exact mkS_all ts _ (fun u hu => h u (List.mem_cons_of_mem _ hu)) v hv
def Val.Fine (v : Val) : Prop := v.Ok ∧ v.Sm
theorem fine_mk {k n : Int} {l : List Val} (hk : 0 ≤ k ∧ k ≤ 4) (hn : -4611686018427387904 ≤ n ∧ n ≤ 4611686018427387904) (h : ∀ v ∈ l, v.Fine) : (Val.mk k n l).Fine :=
  ⟨.mk (by simp only [Val.kind, InI]; omega) (by simp only [Val.n, InI]; omega) fun v hv => (h v hv).1, .mk hn fun v hv => (h v hv).2⟩
theorem mkF_fine {p : ProgT} {l : List Int} : ∀ (n : Nat) (t : Ty) (pos d : Int), wfT p n t → (mkF p l n t pos d).1.Fine := by
  intro n
  induction n with
  | zero => intro t pos d h; exact h.elim
  | succ n ih =>
    intro t pos d h
    have hc := atL_lt l pos 1048576 (by omega)
    have hq : (atL l pos 1048576).tdiv 16 = atL l pos 1048576 / 16 := Int.tdiv_eq_ediv_of_nonneg hc.1
    have hq3 : ((atL l pos 1048576).tdiv 16).tmod 3 = atL l pos 1048576 / 16 % 3 := by rw [hq, Int.tmod_eq_emod_of_nonneg (by omega)]
    have hq9 : ((atL l pos 1048576).tdiv 16).tmod 9 = atL l pos 1048576 / 16 % 9 := by rw [hq, Int.tmod_eq_emod_of_nonneg (by omega)]
    have hr2 : (atL l pos 1048576).tmod 2 = atL l pos 1048576 % 2 := Int.tmod_eq_emod_of_nonneg hc.1
    have none : ∀ v ∈ ([] : List Val), v.Fine := fun v hv => by cases hv
    rw [mkF]
    by_cases h0 : t.kind = 0
    · rw [if_pos h0]
      split
      · exact fine_mk (by omega) (by omega) none
      · split
        · exact fine_mk (by omega) (by omega) none
        · exact fine_mk (by omega) (by omega) none
    rw [if_neg h0]
    by_cases h1 : t.kind = 1
    · rw [if_pos h1]; exact fine_mk (by omega) (by omega) none
    rw [if_neg h1]
    by_cases h2 : t.kind = 2
    · rw [if_pos h2]
      have hk := (wfT_list h h2).2
      exact fine_mk (by omega) (by omega) (mkS_all _ _ fun u hu q => by rw [List.eq_of_mem_replicate hu]; exact ih _ q (d + 1) hk)
    rw [if_neg h2]
    obtain ⟨h3, h4, h5⟩ := wfT_def h h0 h1 h2
    by_cases hcd : (theDef p t.df).kind = 1
    · rw [if_pos hcd]
      have hpos := h4 hcd
      have h6 := Int.emod_lt_of_pos (atL l pos 1048576) (show (0 : Int) < (theDef p t.df).slots.length by omega)
      have h7 := Int.emod_nonneg (atL l pos 1048576) (show ((theDef p t.df).slots.length : Int) ≠ 0 by omega)
      have hm : (atL l pos 1048576).tmod (theDef p t.df).slots.length = atL l pos 1048576 % (theDef p t.df).slots.length := Int.tmod_eq_emod_of_nonneg hc.1
      have hlt : ((atL l pos 1048576).tmod (theDef p t.df).slots.length).toNat < (theDef p t.df).slots.length := by omega
      refine fine_mk (by omega) (by omega) fun v hv => ?_
      rw [List.mem_singleton] at hv
      rw [hv]
      refine ih _ (pos + 1) (d + 1) ?_
      rw [List.getD_eq_getElem?_getD, List.getElem?_map, List.getElem?_eq_getElem hlt]
      exact h5 _ (List.getElem_mem hlt)
    rw [if_neg hcd]
    refine fine_mk (by omega) (by omega) (mkS_all _ _ fun u hu q => ?_)
    obtain ⟨s, hs1, rfl⟩ := List.mem_map.1 hu
    exact ih _ q (d + 1) (h5 s hs1)
end Xe

/- ZERO VALUES AND TURNED VALUES ARE OF WORDS. No program in sight. -/
namespace Xe
open Go
theorem fine_nil : ∀ v ∈ ([] : List Val), v.Fine := fun v hv => by cases hv
theorem v0_fine : v0.Fine := fine_mk (by decide) (by decide) fine_nil
theorem zeroL_fine {g : Ty → Int → ZR} (hg : ∀ t l, (g t l).1.Fine) : ∀ (ts : List Ty) (l : Int), ∀ v ∈ (zeroL g ts l).1, v.Fine
  | [], l, v, hv => by simp [zeroL] at hv
  | t :: ts, l, v, hv => by
    rw [zeroL] at hv
    split at hv
    · simp at hv
    · split at hv
      · simp at hv
      · simp only [List.mem_cons] at hv
        rcases hv with rfl | hv
        · exact hg t l
        · exact zeroL_fine hg ts _ v hv
theorem zNode_fine {k : Int} (hk : 0 ≤ k ∧ k ≤ 4) {r : List Val × Int × Int} (h : ∀ v ∈ r.1, v.Fine) : (zNode k r).1.Fine := by
  unfold zNode
  split
  · exact v0_fine
  · exact fine_mk hk (by decide) h
theorem zeroF_fine (p : ProgT) : ∀ (n : Nat) (t : Ty) (l : Int), (zeroF p n t l).1.Fine := by
  intro n
  induction n with
  | zero => intro t l; rw [zeroF]; split <;> exact v0_fine
  | succ n ih =>
    intro t l
    rw [zeroF]
    split
    · exact v0_fine
    split
    · exact v0_fine
    split
    · exact fine_mk (by decide) (by decide) fine_nil
    split
    · exact fine_mk (by decide) (by decide) fine_nil
    split
    · exact fine_mk (by decide) (by decide) fine_nil
    split
    · split
      · exact v0_fine
      · exact zNode_fine (by decide) (zeroL_fine ih _ _)
    · exact zNode_fine (by decide) (zeroL_fine ih _ _)
theorem rzV_fine (p : ProgT) (t : Ty) : (rzV p t).Fine := by
  unfold rzV
  split
  · exact v0_fine
  · exact zeroF_fine p 24 t 256
theorem valV_fine {p : ProgT} {n : Nat} {t : Ty} {l : List Int} (h : wfT p n t) : (valV p n t l).Fine := by
  unfold valV
  split
  · exact rzV_fine p t
  · exact mkF_fine n t 0 1 h
/-- A turned value's numbers are words. -/
theorem spoilAt_ok {v : Val} {how wth : Int} (h : v.Fine) (hw : InI wth) : (spoilAt v how wth).Ok := by
  have hk := h.1.kind
  have hn := h.1.n
  have hs := h.2.n
  unfold spoilAt
  split
  · exact .mk hw hn fun k hk => h.1.kid hk
  split
  · exact .mk hk hw fun k hk => h.1.kid hk
  split
  · exact .mk hk (show InI (v.n + 1) by unfold InI; omega) fun k hk => h.1.kid hk
  split
  · refine .mk hk hn fun k hk => ?_
    have hr := around_lt wth 5 (by omega)
    simp only [Val.kids, List.mem_append, List.mem_singleton] at hk
    rcases hk with hk | rfl
    · exact h.1.kid hk
    · exact (fine_mk (by omega) (by omega) fine_nil).1
  · exact .mk hk hn fun k hk => h.1.kid (List.mem_of_mem_drop hk)
theorem Val.Fine.kid {v k : Val} (h : v.Fine) (hk : k ∈ v.kids) : k.Fine := ⟨h.1.kid hk, h.2.kid hk⟩
mutual
theorem spoil_ok (how wth : Int) (hw : InI wth) : ∀ (v : Val) (a : Int), v.Fine → (spoil how wth v a).Ok
  | .mk k n l, a, h => by
    rw [spoil]
    split
    · split
      · rename_i l' hl
        exact .mk h.1.kind h.1.n (spoilL_ok how wth hw l a (fun x hx => h.kid hx) l' hl)
      · exact spoilAt_ok h hw
    · exact spoilAt_ok h hw
theorem spoilL_ok (how wth : Int) (hw : InI wth) : ∀ (l : List Val) (a : Int), (∀ x ∈ l, x.Fine) → ∀ l', spoilL how wth l a = some l' → ∀ x ∈ l', x.Ok
  | [], a, _, l', h => by rw [spoilL] at h; cases h
  | y :: ys, a, hf, l', h => by
    rw [spoilL] at h
    split at h
    · obtain rfl := Option.some.inj h
      intro x hx
      rcases List.mem_cons.1 hx with rfl | hx
      · exact spoil_ok how wth hw y (a - 1) (hf y (List.mem_cons_self ..))
      · exact (hf x (List.mem_cons_of_mem _ hx)).1
    · rw [Option.map_eq_some_iff] at h
      obtain ⟨l2, h2, rfl⟩ := h
      intro x hx
      rcases List.mem_cons.1 hx with rfl | hx
      · exact (hf x (List.mem_cons_self ..)).1
      · exact spoilL_ok how wth hw ys _ (fun z hz => hf z (List.mem_cons_of_mem _ hz)) l2 h2 x hx
end
theorem zeroL_size {g : Ty → Int → ZR} (hg : ∀ t l, (g t l).2.1 = 0 → ((g t l).1.size : Int) + (g t l).2.2 ≤ l) : ∀ (ts : List Ty) (l : Int), (zeroL g ts l).2.1 = 0 → (Val.sizes (zeroL g ts l).1 : Int) + (zeroL g ts l).2.2 ≤ l
  | [], l, _ => by simp [zeroL, Val.sizes]
  | t :: ts, l, h => by
    rw [zeroL] at h ⊢
    by_cases h1 : (g t l).2.1 ≠ 0
    · rw [if_pos h1] at h; exact absurd h h1
    rw [if_neg h1] at h ⊢
    by_cases h2 : (zeroL g ts (g t l).2.2).2.1 ≠ 0
    · rw [if_pos h2] at h; exact absurd h h2
    rw [if_neg h2]
    have k1 := hg t l (by omega)
    have k2 := zeroL_size hg ts (g t l).2.2 (by omega)
    simp only [Val.sizes]
    omega
theorem zNode_size {k : Int} {r : List Val × Int × Int} {l : Int} (h : r.2.1 = 0 → (Val.sizes r.1 : Int) + r.2.2 ≤ l - 1) (h0 : (zNode k r).2.1 = 0) : ((zNode k r).1.size : Int) + (zNode k r).2.2 ≤ l := by
  unfold zNode at h0 ⊢
  by_cases h1 : r.2.1 ≠ 0
  · rw [if_pos h1] at h0; exact absurd h0 h1
  · rw [if_neg h1]
    have := h (by omega)
    simp only [Val.size]
    omega
theorem zeroF_size (p : ProgT) : ∀ (n : Nat) (t : Ty) (l : Int), (zeroF p n t l).2.1 = 0 → ((zeroF p n t l).1.size : Int) + (zeroF p n t l).2.2 ≤ l := by
  intro n
  induction n with
  | zero => intro t l h; rw [zeroF] at h; split at h <;> (simp at h)
  | succ n ih =>
    intro t l h
    rw [zeroF] at h ⊢
    split
    · rename_i h1; rw [if_pos h1] at h; simp at h
    rename_i h1; rw [if_neg h1] at h
    split
    · rename_i h2; rw [if_pos h2] at h; simp at h
    rename_i h2; rw [if_neg h2] at h
    split
    · simp [Val.size, Val.sizes]; omega
    rename_i h3; rw [if_neg h3] at h
    split
    · simp [Val.size, Val.sizes]; omega
    rename_i h4; rw [if_neg h4] at h
    split
    · simp [Val.size, Val.sizes]; omega
    rename_i h5; rw [if_neg h5] at h
    split
    · rename_i h6; rw [if_pos h6] at h
      split
      · rename_i h7; rw [if_pos h7] at h; simp at h
      · rename_i h7; rw [if_neg h7] at h
        exact zNode_size (zeroL_size ih _ _) h
    · rename_i h6; rw [if_neg h6] at h
      exact zNode_size (zeroL_size ih _ _) h
theorem zeroV_size (p : ProgT) (t : Ty) (h : (zeroV p t).2.1 = 0) : (zeroV p t).1.size ≤ 256 := by
  have h1 := zeroF_size p 24 t 256 h
  have h2 := (zeroF_left p 24 t 256 h).1
  unfold zeroV
  omega
theorem valV_size {p : ProgT} {n : Nat} {t : Ty} {l : List Int} (h : wfT p n t) (hn : (4 : Int) ^ n ≤ 1099511627776) : (valV p n t l).size ≤ 1099511627776 := by
  have h1 := mkF_size (l := l) n t 0 1 h
  have h2 := mkF_pos (l := l) n t 0 1 h
  unfold valV
  split
  · unfold rzV
    split
    · simp [v0, Val.size, Val.sizes]
    · rename_i h4
      have h3 := zeroV_size p t (Decidable.not_not.1 h4)
      omega
  · omega
end Xe

/- THE MADE VALUES ARE VALID; zero values; weights. No program in sight. -/
namespace Xe
open Go
/-! ### Small values -/
mutual
theorem visitV_iff : ∀ (v : Val) (d s : Int), 0 ≤ s → ((visitV v d s).1 = true ↔ ((v.size : Int) ≤ s ∧ d + v.depth ≤ 25)) ∧ ((visitV v d s).1 = true → (visitV v d s).2 = s - v.size)
  | .mk k n l, d, s, h => by
    rw [visitV, Val.size, Val.depth]
    split
    · rename_i hc
      have := visitVs_iff l (d + 1) (s - 1) (by omega) (by omega)
      refine ⟨⟨fun h => ?_, fun h => ?_⟩, fun h => ?_⟩
      · have := this.1.1 h; omega
      · exact this.1.2 (by omega)
      · have := this.2 h; omega
    · rename_i hc
      refine ⟨⟨fun h => by simp at h, fun h => absurd ?_ hc⟩, fun h => by simp at h⟩
      omega
theorem visitVs_iff : ∀ (l : List Val) (d s : Int), 0 ≤ s → d ≤ 25 → ((visitVs l d s).1 = true ↔ ((Val.sizes l : Int) ≤ s ∧ d + Val.depths l ≤ 25)) ∧ ((visitVs l d s).1 = true → (visitVs l d s).2 = s - Val.sizes l)
  | [], d, s, h, hd => by
    simp only [visitVs, Val.sizes, Val.depths, true_iff, forall_const]
    omega
  | v :: vs, d, s, h, hd => by
    have h1 := visitV_iff v d s h
    rw [visitVs, Val.sizes, Val.depths]
    split
    · rename_i hc
      have h2 := h1.1.1 hc
      have h3 := h1.2 hc
      have h4 := visitVs_iff vs d (visitV v d s).2 (by omega) hd
      rw [h3] at h4 ⊢
      refine ⟨⟨fun h => ?_, fun h => h4.1.2 (by omega)⟩, fun h => ?_⟩
      · have := h4.1.1 h; omega
      · have := h4.2 h; omega
    · rename_i hc
      refine ⟨⟨fun h => by simp at h, fun h => absurd (h1.1.2 ?_) hc⟩, fun h => by simp at h⟩
      omega
end
theorem small_iff (v : Val) : smallV v ↔ v.size ≤ 256 ∧ v.depth ≤ 24 := by
  have := (visitV_iff v 1 256 (by decide)).1
  unfold smallV
  rw [this]; omega
theorem valid_iff (p : ProgT) (t : Ty) (v : Val) : validV p t v ↔ v.size ≤ 256 ∧ v.depth ≤ 24 ∧ fitsB p v t = true := by
  unfold validV; rw [small_iff, and_assoc]

/-! ### Zero values fit -/
theorem isTyDef_of {p : ProgT} {t : Ty} (h : validT p t) (h0 : ¬ t.kind = 0) (h1 : ¬ t.kind = 1) (h2 : ¬ t.kind = 2) : t.kind = 3 ∧ isTyDef p t.df := by
  have h3 : t.kind = 3 := by
    rcases Decidable.em (t.kind = 3) with h3 | h3
    · exact h3
    · have := ((validTF_one h2 h3).1 h).2.2; omega
  exact ⟨h3, ((validTF_def h3).1 h).1⟩
theorem zeroL_fits {p : ProgT} {g : Ty → Int → ZR} (hg : ∀ t l, (g t l).2.1 = 0 → fitsB p (g t l).1 t = true) : ∀ (ts : List Ty) (l : Int), (zeroL g ts l).2.1 = 0 → fitsZ p (zeroL g ts l).1 ts = true ∧ (zeroL g ts l).1.length = ts.length
  | [], l, _ => by simp [zeroL, fitsZ]
  | t :: ts, l, h => by
    rw [zeroL] at h ⊢
    by_cases h1 : (g t l).2.1 ≠ 0
    · rw [if_pos h1] at h; exact absurd h h1
    rw [if_neg h1] at h ⊢
    by_cases h2 : (zeroL g ts (g t l).2.2).2.1 ≠ 0
    · rw [if_pos h2] at h; exact absurd h h2
    rw [if_neg h2]
    have k1 := hg t l (by omega)
    have k2 := zeroL_fits hg ts (g t l).2.2 (by omega)
    simp only [fitsZ, k1, k2.1, Bool.and_self, List.length_cons, k2.2, and_self]
theorem zNode_ok {k : Int} {r : List Val × Int × Int} (h : (zNode k r).2.1 = 0) : r.2.1 = 0 ∧ (zNode k r).1 = .mk k 0 r.1 ∧ (zNode k r).2.2 = r.2.2 := by
  unfold zNode at h ⊢
  by_cases h1 : r.2.1 ≠ 0
  · rw [if_pos h1] at h; exact absurd h h1
  · rw [if_neg h1]; exact ⟨by omega, rfl, rfl⟩
/-- What is asked of a zero value. -/
structure Zok (p : ProgT) (n : Nat) (t : Ty) (v : Val) : Prop where
  fits : fitsB p v t = true
  wt : v.wt = 0
  depth : v.depth ≤ n
theorem zeroL_wt {p : ProgT} {n : Nat} {g : Ty → Int → ZR} (hg : ∀ t l, (g t l).2.1 = 0 → Zok p n t (g t l).1) : ∀ (ts : List Ty) (l : Int), (zeroL g ts l).2.1 = 0 → Val.wts (zeroL g ts l).1 = 0 ∧ Val.depths (zeroL g ts l).1 ≤ n
  | [], l, _ => by simp [zeroL, Val.wts, Val.depths]
  | t :: ts, l, h => by
    rw [zeroL] at h ⊢
    by_cases h1 : (g t l).2.1 ≠ 0
    · rw [if_pos h1] at h; exact absurd h h1
    rw [if_neg h1] at h ⊢
    by_cases h2 : (zeroL g ts (g t l).2.2).2.1 ≠ 0
    · rw [if_pos h2] at h; exact absurd h h2
    rw [if_neg h2]
    have k1 := hg t l (by omega)
    have k2 := zeroL_wt hg ts (g t l).2.2 (by omega)
    have k3 := k1.wt
    have k4 := k1.depth
    simp only [Val.wts, Val.depths]
    omega
theorem zeroF_ok (p : ProgT) : ∀ (n : Nat) (t : Ty) (l : Int), (zeroF p n t l).2.1 = 0 → Zok p n t (zeroF p n t l).1 := by
  intro n
  induction n with
  | zero => intro t l h; rw [zeroF] at h; split at h <;> simp at h
  | succ n ih =>
    intro t l h
    rw [zeroF] at h ⊢
    by_cases hv : ¬ validT p t
    · rw [if_pos hv] at h; simp at h
    rw [if_neg hv] at h ⊢
    have hv : validT p t := Decidable.not_not.1 hv
    by_cases hl : l - 1 < 0
    · rw [if_pos hl] at h; simp at h
    rw [if_neg hl] at h ⊢
    by_cases h0 : t.kind = 0
    · rw [if_pos h0]
      exact ⟨(fits0 hv h0).2 ⟨rfl, rfl, show (-1099511627776 : Int) ≤ 0 by decide, show (0 : Int) ≤ 1099511627776 by decide⟩, by simp [Val.wt], by simp [Val.depth, Val.depths]⟩
    rw [if_neg h0] at h ⊢
    by_cases h1 : t.kind = 1
    · rw [if_pos h1]
      exact ⟨(fits1 hv h1).2 ⟨rfl, rfl, .inl rfl⟩, by simp [Val.wt], by simp [Val.depth, Val.depths]⟩
    rw [if_neg h1] at h ⊢
    by_cases h2 : t.kind = 2
    · rw [if_pos h2]
      exact ⟨(fits2 hv h2).2 ⟨rfl, rfl, fun j hj => by simp [Val.kids] at hj⟩, by simp [Val.wt, Val.wts], by simp [Val.depth, Val.depths]⟩
    rw [if_neg h2] at h ⊢
    obtain ⟨h3, _, hkd⟩ := isTyDef_of hv h0 h1 h2
    by_cases hc : (theDef p t.df).kind = 1
    · rw [if_pos hc] at h ⊢
      by_cases hz : (theDef p t.df).slots.length = 0
      · rw [if_pos hz] at h; simp at h
      rw [if_neg hz] at h ⊢
      obtain ⟨k1, k2, k3⟩ := zNode_ok h
      have k4 := zeroL_fits (fun t l h => (ih t l h).fits) _ _ k1
      have k5 := zeroL_wt ih _ _ k1
      rw [k2]
      generalize hr : (zeroL (zeroF p n) (((theDef p t.df).slots.take 1).map SlotT.ty) (l - 1)).1 = r at k4 k5
      have hlen : r.length = 1 := by rw [k4.2]; simp; omega
      have hts : ((theDef p t.df).slots.take 1).map SlotT.ty = [((theDef p t.df).slots[0]'(by omega)).ty] := by
        rw [List.take_one, List.head?_eq_getElem?, List.getElem?_eq_getElem (by omega)]; rfl
      refine ⟨(fits3k (v := .mk 3 0 r) hv h0 h1 h2 hc rfl (Int.le_refl _) (show (0 : Int).toNat < _ by simp; omega) hlen).2 ?_, ?_, ?_⟩
      · rw [hts] at k4
        match r, hlen, k4 with
        | [x], _, k4 =>
          have := k4.1
          simp only [fitsZ, Bool.and_true] at this
          exact this
      · simp [Val.wt, k5.1]
      · simp only [Val.depth]; omega
    · rw [if_neg hc] at h ⊢
      obtain ⟨k1, k2, k3⟩ := zNode_ok h
      have k4 := zeroL_fits (fun t l h => (ih t l h).fits) _ _ k1
      have k5 := zeroL_wt ih _ _ k1
      rw [k2]
      refine ⟨?_, ?_, ?_⟩
      · rw [fitsB_eq, if_neg h0, if_neg h1, if_neg h2, if_neg hc]
        simp only [Val.kind, Val.n, Val.kids, k4.1, k4.2, hv, List.length_map, decide_true, Bool.and_self]
      · simp [Val.wt, k5.1]
      · simp only [Val.depth]; omega
/-- Zero of such a type takes so many nodes at most. -/
def zT (p : ProgT) : Nat → Ty → Nat → Prop
  | 0, _, _ => False
  | n + 1, t, c => validT p t ∧ ((t.kind = 0 ∨ t.kind = 1 ∨ t.kind = 2) ∧ 1 ≤ c ∨
    (t.kind = 3 ∧ (theDef p t.df).slots.length ≤ 3 ∧ ((theDef p t.df).kind = 1 → 0 < (theDef p t.df).slots.length) ∧ ∃ c', 1 + 3 * c' ≤ c ∧ ∀ s ∈ (theDef p t.df).slots, zT p n s.ty c'))
theorem zeroL_cost {g : Ty → Int → ZR} {c : Nat} : ∀ (ts : List Ty) (l : Int), (∀ t ∈ ts, ∀ l : Int, (c : Int) ≤ l → (g t l).2.1 = 0 ∧ l - c ≤ (g t l).2.2) → ((ts.length * c : Nat) : Int) ≤ l → (zeroL g ts l).2.1 = 0 ∧ l - (ts.length * c : Nat) ≤ (zeroL g ts l).2.2
  | [], l, _, _ => by simp [zeroL]
  | t :: ts, l, hg, hl => by
    rw [List.length_cons, Nat.succ_mul] at hl
    have k1 := hg t (List.mem_cons_self ..) l (by omega)
    have k2 := zeroL_cost ts (g t l).2.2 (fun u hu => hg u (List.mem_cons_of_mem _ hu)) (by omega)
    rw [zeroL, if_neg (by omega), if_neg (by omega), List.length_cons, Nat.succ_mul]
    refine ⟨rfl, ?_⟩
    show l - ((ts.length * c + c : Nat) : Int) ≤ (zeroL g ts (g t l).2.2).2.2
    omega
theorem zeroF_cost {p : ProgT} : ∀ (n m : Nat) (t : Ty) (c : Nat) (l : Int), zT p n t c → n ≤ m → (c : Int) ≤ l → (zeroF p m t l).2.1 = 0 ∧ l - c ≤ (zeroF p m t l).2.2 := by
  intro n
  induction n with
  | zero => intro m t c l h; exact h.elim
  | succ n ih =>
    intro m t c l h hm hl
    obtain ⟨m, rfl⟩ : ∃ q, m = q + 1 := ⟨m - 1, by omega⟩
    obtain ⟨hv, h⟩ := h
    rw [zeroF, if_neg (by simp [hv])]
    rcases h with ⟨hk, hc⟩ | ⟨hk, h3, h4, c', hc, h5⟩
    · rw [if_neg (by omega)]
      have e : l - (c : Int) ≤ l - 1 := by omega
      split
      · exact ⟨rfl, e⟩
      split
      · exact ⟨rfl, e⟩
      split
      · exact ⟨rfl, e⟩
      · omega
    · rw [if_neg (by omega), if_neg (by omega), if_neg (by omega), if_neg (by omega)]
      have key : ∀ (k : Int) (ts : List Ty), ts.length ≤ 3 → (∀ u ∈ ts, ∃ s ∈ (theDef p t.df).slots, s.ty = u) → (zNode k (zeroL (zeroF p m) ts (l - 1))).2.1 = 0 ∧ l - c ≤ (zNode k (zeroL (zeroF p m) ts (l - 1))).2.2 := fun k ts hlen hts => by
        have hmul : ts.length * c' ≤ 3 * c' := Nat.mul_le_mul_right _ hlen
        have := zeroL_cost (g := zeroF p m) (c := c') ts (l - 1) (fun u hu l' hl' => by
          obtain ⟨s, hs, rfl⟩ := hts u hu
          exact ih m s.ty c' l' (h5 s hs) (by omega) hl') (by omega)
        unfold zNode
        rw [if_neg (by omega)]
        refine ⟨rfl, ?_⟩
        show l - (c : Int) ≤ (zeroL (zeroF p m) ts (l - 1)).2.2
        omega
      split
      · rename_i hcd
        rw [if_neg (by have := h4 hcd; omega)]
        exact key 3 _ (by simp; omega) fun u hu => by
          obtain ⟨s, hs, rfl⟩ := List.mem_map.1 hu
          exact ⟨s, List.mem_of_mem_take hs, rfl⟩
      · exact key 2 _ (by simpa using h3) fun u hu => by
          obtain ⟨s, hs, rfl⟩ := List.mem_map.1 hu
          exact ⟨s, hs, rfl⟩

/-! ### Made values fit -/
def vdT (p : ProgT) : Nat → Ty → Prop
  | 0, _ => False
  | n + 1, t => validT p t ∧ (t.kind = 2 → vdT p n (t.kids.headD ty0)) ∧ (t.kind = 3 → ∀ s ∈ (theDef p t.df).slots, vdT p n s.ty)
theorem mkS_fitsZ {p : ProgT} {g : Ty → Int → MR} : ∀ (ts : List Ty) (pos : Int), (∀ t ∈ ts, ∀ q, fitsB p (g t q).1 t = true) → fitsZ p (mkS g ts pos).1 ts = true ∧ (mkS g ts pos).1.length = ts.length
  | [], _, _ => by simp [mkS, fitsZ]
  | t :: ts, pos, h => by
    have k1 := h t (List.mem_cons_self ..) pos
    have k2 := mkS_fitsZ ts (g t pos).2 fun u hu => h u (List.mem_cons_of_mem _ hu)
    simp only [mkS, fitsZ, k1, k2.1, Bool.and_self, List.length_cons, k2.2, and_self]
theorem mkS_fitsL {p : ProgT} {g : Ty → Int → MR} {t : Ty} (h : ∀ q, fitsB p (g t q).1 t = true) : ∀ (m : Nat) (pos : Int), fitsL p (mkS g (List.replicate m t) pos).1 t = true
  | 0, _ => by simp [mkS, fitsL]
  | m + 1, pos => by
    rw [List.replicate_succ, mkS, fitsL, h pos, mkS_fitsL h m (g t pos).2]; rfl
theorem mkF_fits {p : ProgT} {l : List Int} : ∀ (n : Nat) (t : Ty) (pos d : Int), wfT p n t → vdT p n t → fitsB p (mkF p l n t pos d).1 t = true := by
  intro n
  induction n with
  | zero => intro t pos d h; exact h.elim
  | succ n ih =>
    intro t pos d h hd
    obtain ⟨hv, hd2, hd3⟩ := hd
    have hc := atL_lt l pos 1048576 (by omega)
    have hq : (atL l pos 1048576).tdiv 16 = atL l pos 1048576 / 16 := Int.tdiv_eq_ediv_of_nonneg hc.1
    have hq3 : ((atL l pos 1048576).tdiv 16).tmod 3 = atL l pos 1048576 / 16 % 3 := by rw [hq, Int.tmod_eq_emod_of_nonneg (by omega)]
    have hq9 : ((atL l pos 1048576).tdiv 16).tmod 9 = atL l pos 1048576 / 16 % 9 := by rw [hq, Int.tmod_eq_emod_of_nonneg (by omega)]
    have hr2 : (atL l pos 1048576).tmod 2 = atL l pos 1048576 % 2 := Int.tmod_eq_emod_of_nonneg hc.1
    rw [mkF]
    by_cases h0 : t.kind = 0
    · rw [if_pos h0]
      split
      · exact (fits0 hv h0).2 ⟨rfl, rfl, by simp only [Val.n]; omega, by simp only [Val.n]; omega⟩
      · split
        · exact (fits0 hv h0).2 ⟨rfl, rfl, by simp only [Val.n]; omega, by simp only [Val.n]; omega⟩
        · exact (fits0 hv h0).2 ⟨rfl, rfl, by simp only [Val.n]; omega, by simp only [Val.n]; omega⟩
    rw [if_neg h0]
    by_cases h1 : t.kind = 1
    · rw [if_pos h1]; exact (fits1 hv h1).2 ⟨rfl, rfl, by simp only [Val.n]; omega⟩
    rw [if_neg h1]
    by_cases h2 : t.kind = 2
    · rw [if_pos h2]
      have hk := (wfT_list h h2).2
      rw [fitsB_eq, if_neg h0, if_neg h1, if_pos h2]
      have kL := mkS_fitsL (p := p) (g := fun u q => mkF p l n u q (d + 1)) (t := t.kids.headD ty0) (fun q => ih _ q (d + 1) hk (hd2 h2)) (if 3 < d then 0 else ((atL l pos 1048576).tmod 3).toNat) (pos + 1)
      simp only [Val.kind, Val.n, Val.kids, kL, hv, decide_true, Bool.and_self]
    rw [if_neg h2]
    obtain ⟨h3, h4, h5⟩ := wfT_def h h0 h1 h2
    obtain ⟨hk3, _, hkd⟩ := isTyDef_of hv h0 h1 h2
    by_cases hcd : (theDef p t.df).kind = 1
    · rw [if_pos hcd]
      have hpos := h4 hcd
      have h6 := Int.emod_lt_of_pos (atL l pos 1048576) (show (0 : Int) < (theDef p t.df).slots.length by omega)
      have h7 := Int.emod_nonneg (atL l pos 1048576) (show ((theDef p t.df).slots.length : Int) ≠ 0 by omega)
      have hm : (atL l pos 1048576).tmod (theDef p t.df).slots.length = atL l pos 1048576 % (theDef p t.df).slots.length := Int.tmod_eq_emod_of_nonneg hc.1
      have hlt : ((atL l pos 1048576).tmod (theDef p t.df).slots.length).toNat < (theDef p t.df).slots.length := by omega
      rw [getD_map hlt]
      refine (fits3k (v := .mk 3 ((atL l pos 1048576).tmod (theDef p t.df).slots.length) [_]) hv h0 h1 h2 hcd rfl (show 0 ≤ (atL l pos 1048576).tmod (theDef p t.df).slots.length by omega) hlt rfl).2 ?_
      exact ih _ (pos + 1) (d + 1) (h5 _ (List.getElem_mem hlt)) (hd3 hk3 _ (List.getElem_mem hlt))
    rw [if_neg hcd]
    have k := mkS_fitsZ (p := p) (g := fun u q => mkF p l n u q (d + 1)) ((theDef p t.df).slots.map SlotT.ty) (pos + 1) fun u hu q => by
      obtain ⟨s, hs1, rfl⟩ := List.mem_map.1 hu
      exact ih _ q (d + 1) (h5 s hs1) (hd3 hk3 s hs1)
    rw [fitsB_eq, if_neg h0, if_neg h1, if_neg h2, if_neg hcd]
    simp only [Val.kind, Val.n, Val.kids, k.1, k.2, hv, List.length_map, decide_true, Bool.and_self]
theorem mkS_depth {g : Ty → Int → MR} {n : Nat} : ∀ (ts : List Ty) (pos : Int), (∀ t ∈ ts, ∀ q, (g t q).1.depth ≤ n) → Val.depths (mkS g ts pos).1 ≤ n
  | [], _, _ => by simp [mkS, Val.depths]
  | t :: ts, pos, h => by
    have k1 := h t (List.mem_cons_self ..) pos
    have k2 := mkS_depth ts (g t pos).2 fun u hu => h u (List.mem_cons_of_mem _ hu)
    simp only [mkS, Val.depths]; omega
theorem mkF_depth {p : ProgT} {l : List Int} : ∀ (n : Nat) (t : Ty) (pos d : Int), wfT p n t → (mkF p l n t pos d).1.depth ≤ n := by
  intro n
  induction n with
  | zero => intro t pos d h; exact h.elim
  | succ n ih =>
    intro t pos d h
    rw [mkF]
    by_cases h0 : t.kind = 0
    · rw [if_pos h0]
      split
      · simp [Val.depth, Val.depths]
      · split <;> simp [Val.depth, Val.depths]
    rw [if_neg h0]
    by_cases h1 : t.kind = 1
    · rw [if_pos h1]; simp [Val.depth, Val.depths]
    rw [if_neg h1]
    by_cases h2 : t.kind = 2
    · rw [if_pos h2]
      have hk := (wfT_list h h2).2
      have := mkS_depth (n := n) (g := fun u q => mkF p l n u q (d + 1)) (List.replicate (if 3 < d then 0 else ((atL l pos 1048576).tmod 3).toNat) (t.kids.headD ty0)) (pos + 1) fun u hu q => by rw [List.eq_of_mem_replicate hu]; exact ih _ q (d + 1) hk
      simp only [Val.depth]; omega
    rw [if_neg h2]
    obtain ⟨h3, h4, h5⟩ := wfT_def h h0 h1 h2
    by_cases hcd : (theDef p t.df).kind = 1
    · rw [if_pos hcd]
      have hpos := h4 hcd
      have hc := atL_lt l pos 1048576 (by omega)
      have h6 := Int.emod_lt_of_pos (atL l pos 1048576) (show (0 : Int) < (theDef p t.df).slots.length by omega)
      have h7 := Int.emod_nonneg (atL l pos 1048576) (show ((theDef p t.df).slots.length : Int) ≠ 0 by omega)
      have hm : (atL l pos 1048576).tmod (theDef p t.df).slots.length = atL l pos 1048576 % (theDef p t.df).slots.length := Int.tmod_eq_emod_of_nonneg hc.1
      have hlt : ((atL l pos 1048576).tmod (theDef p t.df).slots.length).toNat < (theDef p t.df).slots.length := by omega
      rw [getD_map hlt]
      have := ih _ (pos + 1) (d + 1) (h5 _ (List.getElem_mem hlt))
      simp only [Val.depth, Val.depths]; omega
    rw [if_neg hcd]
    have := mkS_depth (n := n) (g := fun u q => mkF p l n u q (d + 1)) ((theDef p t.df).slots.map SlotT.ty) (pos + 1) fun u hu q => by
      obtain ⟨s, hs1, rfl⟩ := List.mem_map.1 hu
      exact ih _ q (d + 1) (h5 s hs1)
    simp only [Val.depth]; omega
end Xe

/- THE VALUES OF THE MADE TYPES: valid, not deep, of no negative weight. No program in sight. -/
namespace Xe
open Go
theorem pick_cases {q : Nat} (n : Int) : pickTy n q = .mk 1 id0 [] ∨ pickTy n q = listT ty0 ∨ pickTy n q = ty0 ∨ ∃ j : Nat, j < q ∧ (pickTy n q = listT (ofT (idK (1 + (j : Int)))) ∨ pickTy n q = ofT (idK (1 + (j : Int)))) := by
  have hr := around_lt n (4 + 2 * (q : Int)) (by omega)
  unfold pickTy
  split
  · exact .inl rfl
  split
  · exact .inr (.inl rfl)
  split
  · rename_i h4
    have e : (around n (4 + 2 * (q : Int)) - 4).tdiv 2 = (around n (4 + 2 * (q : Int)) - 4) / 2 := Int.tdiv_eq_ediv_of_nonneg (by omega)
    obtain ⟨j, hj⟩ := Int.eq_ofNat_of_zero_le (show 0 ≤ (around n (4 + 2 * (q : Int)) - 4) / 2 by omega)
    rw [e, hj]
    refine .inr (.inr (.inr ⟨j, by omega, ?_⟩))
    split
    · exact .inl rfl
    · exact .inr rfl
  · exact .inr (.inr (.inl rfl))
theorem validT_num (p : ProgT) : validT p ty0 := (validTF_one (by decide) (by decide)).2 ⟨rfl, rfl, .inl rfl⟩
theorem validT_bool (p : ProgT) : validT p (.mk 1 id0 []) := (validTF_one (t := .mk 1 id0 []) (by decide) (by decide)).2 ⟨rfl, rfl, .inr rfl⟩
theorem validT_listOf {p : ProgT} {t : Ty} (h : validTF p 23 t = true) : validT p (listT t) := (validTF_list (t := listT t) rfl).2 ⟨rfl, t, rfl, h⟩
theorem validTF_ofT {p : ProgT} {i : IdT} (n : Nat) (h : isTyDef p i) : validTF p (n + 1) (ofT i) = true := (validTF_def (t := ofT i) rfl).2 ⟨h, rfl⟩
theorem types_isDef (l : List Int) {i : Nat} (h : i < tMany l) : isTyDef (typesP l) (idK (1 + (i : Int))) := by
  obtain ⟨h1, h2⟩ := types_def l h
  refine ⟨h1, ?_⟩
  have := tBits_rng l i
  have := tKind_mod l i
  rw [h2]
  show (tBits l i).tmod 2 = 0 ∨ (tBits l i).tmod 2 = 1
  omega
theorem types_slots (l : List Int) {i : Nat} (h : i < tMany l) : (theDef (typesP l) (idK (1 + (i : Int)))).slots = tSlots l i (tArity l i) := by rw [(types_def l h).2]; rfl
theorem vdT_mono {p : ProgT} : ∀ {n m : Nat} {t : Ty}, n ≤ m → vdT p n t → vdT p m t
  | 0, _, _, _, h => h.elim
  | n + 1, 0, _, hm, _ => by omega
  | n + 1, m + 1, t, hm, h => ⟨h.1, fun hk => vdT_mono (by omega) (h.2.1 hk), fun hk s hs => vdT_mono (by omega) (h.2.2 hk s hs)⟩
theorem zT_mono {p : ProgT} : ∀ {n m c c' : Nat} {t : Ty}, n ≤ m → c ≤ c' → zT p n t c → zT p m t c'
  | 0, _, _, _, _, _, _, h => h.elim
  | n + 1, 0, _, _, _, hm, _, _ => by omega
  | n + 1, m + 1, c, c', t, hm, hc, h => by
    obtain ⟨hv, h⟩ := h
    refine ⟨hv, ?_⟩
    rcases h with ⟨h1, h2⟩ | ⟨h1, h2, h3, x, h4, h5⟩
    · exact .inl ⟨h1, by omega⟩
    · exact .inr ⟨h1, h2, h3, x, by omega, fun s hs => zT_mono (by omega) (Nat.le_refl _) (h5 s hs)⟩
theorem types_vdT (l : List Int) : ∀ i : Nat, i < tMany l → vdT (typesP l) (3 * i + 3) (ofT (idK (1 + (i : Int)))) := by
  intro i
  induction i using Nat.strongRecOn with
  | _ i ih =>
    intro hi
    refine ⟨validTF_ofT 23 (types_isDef l hi), fun hk => by simp [ofT, Ty.kind] at hk, fun _ s hs => ?_⟩
    rw [show (ofT (idK (1 + (i : Int)))).df = idK (1 + (i : Int)) from rfl, types_slots l hi] at hs
    obtain ⟨j, _, rfl⟩ := List.mem_map.1 hs
    show vdT (typesP l) (3 * i + 2) (pickTy (atL l (5 + 3 * (i : Int) + (j : Int)) 65536) i)
    rcases pick_cases (q := i) (atL l (5 + 3 * (i : Int) + (j : Int)) 65536) with e | e | e | ⟨k, hk, e | e⟩
    · rw [e]; exact ⟨validT_bool _, fun hk => by simp [Ty.kind] at hk, fun hk => by simp [Ty.kind] at hk⟩
    · rw [e]; exact ⟨validT_listOf ((validTF_one (by decide) (by decide)).2 ⟨rfl, rfl, .inl rfl⟩), fun _ => ⟨validT_num _, fun hk => absurd hk (by decide), fun hk => absurd hk (by decide)⟩, fun hk => by simp [listT, Ty.kind] at hk⟩
    · rw [e]; exact ⟨validT_num _, fun hk => absurd hk (by decide), fun hk => absurd hk (by decide)⟩
    · rw [e]
      have hki := types_isDef l (show k < tMany l by omega)
      exact ⟨validT_listOf (validTF_ofT 22 hki), fun _ => vdT_mono (by omega) (ih k hk (by omega)), fun hk => by simp [listT, Ty.kind] at hk⟩
    · rw [e]
      exact vdT_mono (by omega) (ih k hk (by omega))
def cZ : Nat → Nat
  | 0 => 4
  | i + 1 => 1 + 3 * cZ i
theorem cZ_mono : ∀ {i j : Nat}, i ≤ j → cZ i ≤ cZ j := by
  intro i j h
  induction j with
  | zero => obtain rfl : i = 0 := by omega
            exact Nat.le_refl _
  | succ j ih =>
    rcases Nat.lt_or_ge i (j + 1) with h1 | h1
    · have := ih (by omega)
      rw [cZ]; omega
    · obtain rfl : i = j + 1 := by omega
      exact Nat.le_refl _
theorem types_zT (l : List Int) : ∀ i : Nat, i < tMany l → zT (typesP l) (i + 2) (ofT (idK (1 + (i : Int)))) (cZ i) := by
  intro i
  induction i using Nat.strongRecOn with
  | _ i ih =>
    intro hi
    have ha := tArity_rng l i
    obtain ⟨c', hc, hc1, hcj⟩ : ∃ c', 1 + 3 * c' ≤ cZ i ∧ 1 ≤ c' ∧ ∀ j, j < i → cZ j ≤ c' := by
      cases i with
      | zero => exact ⟨1, by decide, by decide, fun j hj => by omega⟩
      | succ i =>
        have h4 : cZ 0 ≤ cZ i := cZ_mono (Nat.zero_le _)
        refine ⟨cZ i, by rw [cZ]; omega, ?_, fun j hj => cZ_mono (by omega)⟩
        rw [cZ] at h4; omega
    refine ⟨validTF_ofT 23 (types_isDef l hi), .inr ⟨rfl, ?_, fun _ => ?_, c', hc, fun s hs => ?_⟩⟩
    · rw [show (ofT (idK (1 + (i : Int)))).df = idK (1 + (i : Int)) from rfl, types_slots l hi, tSlots_len]; omega
    · rw [show (ofT (idK (1 + (i : Int)))).df = idK (1 + (i : Int)) from rfl, types_slots l hi, tSlots_len]; omega
    rw [show (ofT (idK (1 + (i : Int)))).df = idK (1 + (i : Int)) from rfl, types_slots l hi] at hs
    obtain ⟨j, _, rfl⟩ := List.mem_map.1 hs
    show zT (typesP l) (i + 1) (pickTy (atL l (5 + 3 * (i : Int) + (j : Int)) 65536) i) c'
    rcases pick_cases (q := i) (atL l (5 + 3 * (i : Int) + (j : Int)) 65536) with e | e | e | ⟨k, hk, e | e⟩
    · rw [e]; exact ⟨validT_bool _, .inl ⟨.inr (.inl rfl), hc1⟩⟩
    · rw [e]; exact ⟨validT_listOf ((validTF_one (by decide) (by decide)).2 ⟨rfl, rfl, .inl rfl⟩), .inl ⟨.inr (.inr rfl), hc1⟩⟩
    · rw [e]; exact ⟨validT_num _, .inl ⟨.inl rfl, hc1⟩⟩
    · rw [e]; exact ⟨validT_listOf (validTF_ofT 22 (types_isDef l (show k < tMany l by omega))), .inl ⟨.inr (.inr rfl), hc1⟩⟩
    · rw [e]; exact zT_mono (by omega) (hcj k hk) (ih k hk (by omega))
abbrev tyK (i : Nat) : Ty := ofT (idK (1 + (i : Int)))
theorem types_zero (l : List Int) {i : Nat} (h : i < tMany l) : (zeroV (typesP l) (tyK i)).2.1 = 0 ∧ (zeroV (typesP l) (tyK i)).1.wt = 0 ∧ validV (typesP l) (tyK i) (zeroV (typesP l) (tyK i)).1 := by
  have hm := tMany_rng l
  have hz := types_zT l i h
  have hc : cZ i ≤ cZ 3 := cZ_mono (by omega)
  have h3 : cZ 3 = 121 := rfl
  have k1 := zeroF_cost (i + 2) 24 (tyK i) (cZ i) 256 hz (by omega) (by omega)
  have k2 := zeroF_ok (typesP l) 24 (tyK i) 256 k1.1
  exact ⟨k1.1, k2.wt, (valid_iff _ _ _).2 ⟨zeroV_size _ _ k1.1, k2.depth, k2.fits⟩⟩
theorem zero_depth {p : ProgT} : ∀ (n m : Nat) (t : Ty) (c : Nat) (l : Int), zT p n t c → n ≤ m → (zeroF p m t l).1.depth ≤ n := by
  intro n
  induction n with
  | zero => intro m t c l h; exact h.elim
  | succ n ih =>
    intro m t c l h hm
    obtain ⟨m, rfl⟩ : ∃ q, m = q + 1 := ⟨m - 1, by omega⟩
    have d0 : v0.depth = 1 := by simp [v0, Val.depth, Val.depths]
    obtain ⟨hv, h⟩ := h
    rw [zeroF, if_neg (by simp [hv])]
    split
    · rw [d0]; omega
    split
    · simp [Val.depth, Val.depths]
    split
    · simp [Val.depth, Val.depths]
    split
    · simp [Val.depth, Val.depths]
    rcases h with ⟨hk, _⟩ | ⟨hk, h3, h4, c', hc, h5⟩
    · omega
    have key : ∀ (ts : List Ty) (l0 : Int), (∀ u ∈ ts, ∃ s ∈ (theDef p t.df).slots, s.ty = u) → Val.depths (zeroL (zeroF p m) ts l0).1 ≤ n := by
      intro ts
      induction ts with
      | nil => intro l0 _; simp [zeroL, Val.depths]
      | cons u us ihu =>
        intro l0 hts
        rw [zeroL]
        split
        · simp [Val.depths]
        split
        · simp [Val.depths]
        · obtain ⟨s, hs, rfl⟩ := hts u (List.mem_cons_self ..)
          have := ih m s.ty c' l0 (h5 s hs) (by omega)
          have := ihu (zeroF p m s.ty l0).2.2 fun v hv => hts v (List.mem_cons_of_mem _ hv)
          simp only [Val.depths]; omega
    have node : ∀ (k : Int) (ts : List Ty) (l0 : Int), (∀ u ∈ ts, ∃ s ∈ (theDef p t.df).slots, s.ty = u) → (zNode k (zeroL (zeroF p m) ts l0)).1.depth ≤ n + 1 := fun k ts l0 hts => by
      unfold zNode
      split
      · rw [d0]; omega
      · have := key ts l0 hts
        simp only [Val.depth]; omega
    split
    · split
      · rw [d0]; omega
      · exact node _ _ _ fun u hu => by
          obtain ⟨s, hs, rfl⟩ := List.mem_map.1 hu
          exact ⟨s, List.mem_of_mem_take hs, rfl⟩
    · exact node _ _ _ fun u hu => by
        obtain ⟨s, hs, rfl⟩ := List.mem_map.1 hu
        exact ⟨s, hs, rfl⟩
/-- What holds of a made value. -/
theorem types_val (l m : List Int) {i : Nat} (h : i < tMany l) : (valV (typesP l) 12 (tyK i) m).size ≤ 256 ∧ (valV (typesP l) 12 (tyK i) m).depth ≤ 12 ∧ fitsB (typesP l) (valV (typesP l) 12 (tyK i) m) (tyK i) = true := by
  have hm := tMany_rng l
  have hw : wfT (typesP l) 12 (tyK i) := wfT_mono (by omega) (types_wf l i h)
  have hd : vdT (typesP l) 12 (tyK i) := vdT_mono (by omega) (types_vdT l i h)
  have hz := types_zero l h
  unfold valV
  split
  · unfold rzV
    rw [if_neg (by simp [hz.1])]
    have h3 := (valid_iff _ _ _).1 hz.2.2
    refine ⟨h3.1, ?_, h3.2.2⟩
    have := zero_depth (i + 2) 24 (tyK i) (cZ i) 256 (types_zT l i h) (by omega)
    unfold zeroV; omega
  · rename_i hs
    exact ⟨by omega, mkF_depth 12 (tyK i) 0 1 hw, mkF_fits 12 (tyK i) 0 1 hw hd⟩
theorem types_valid (l m : List Int) {i : Nat} (h : i < tMany l) : validV (typesP l) (tyK i) (valV (typesP l) 12 (tyK i) m) := by
  have := types_val l m h
  exact (valid_iff _ _ _).2 ⟨this.1, by omega, this.2.2⟩
/-! ### Weights -/
theorem wts_bound {B : Int} (hB : 0 ≤ B) : ∀ l : List Val, (∀ k ∈ l, 0 ≤ k.wt ∧ k.wt ≤ B * k.size) → 0 ≤ Val.wts l ∧ Val.wts l ≤ B * Val.sizes l
  | [], _ => by simp [Val.wts, Val.sizes]
  | x :: xs, h => by
    have h1 := h x (List.mem_cons_self ..)
    have h2 := wts_bound hB xs fun k hk => h k (List.mem_cons_of_mem _ hk)
    simp only [Val.wts, Val.sizes]
    have e : B * ((x.size + Val.sizes xs : Nat) : Int) = B * x.size + B * Val.sizes xs := by rw [Int.natCast_add, Int.mul_add]
    omega
theorem fits_wt {p : ProgT} (hp : ∀ id, (theDef p id).slots.length ≤ 1000) (v : Val) : ∀ t : Ty, v.size ≤ 1000000 → fitsB p v t = true → 0 ≤ v.wt ∧ v.wt ≤ 1099511627777 * v.size := by
  refine Val.rec' (p := fun v => ∀ t : Ty, v.size ≤ 1000000 → fitsB p v t = true → 0 ≤ v.wt ∧ v.wt ≤ 1099511627777 * v.size) (fun v ih t hsz h => ?_) v
  have hl : (v.kids.length : Int) ≤ Val.sizes v.kids := by
    have := kids_le_size v
    rw [Val.size_eq] at this; omega
  have hse := Val.size_eq v
  have hv : validT p t := by
    rcases Decidable.em (validT p t) with hv | hv
    · exact hv
    · exact absurd h (fits_not hv)
  rw [Val.wt_eq]
  by_cases h0 : t.kind = 0
  · obtain ⟨k1, k2, k3, k4⟩ := (fits0 hv h0).1 h
    rw [if_pos k1]
    split <;> omega
  by_cases h1 : t.kind = 1
  · obtain ⟨k1, k2, k3⟩ := (fits1 hv h1).1 h
    rw [if_neg (by omega), if_pos k1]
    omega
  by_cases h2 : t.kind = 2
  · obtain ⟨k1, k2, k3⟩ := (fits2 hv h2).1 h
    have := wts_bound (B := 1099511627777) (by decide) v.kids fun k hk => by
      obtain ⟨j, hj, rfl⟩ := List.mem_iff_getElem.1 hk
      exact ih _ hk _ (by have := Val.size_kid hk; omega) (k3 j hj)
    rw [if_neg (by omega), if_neg (by omega), if_neg (by omega), if_neg (by omega), if_pos k1]
    omega
  by_cases hc : (theDef p t.df).kind = 1
  · obtain ⟨k1, k2, k3, k4⟩ := (fits3c hv h0 h1 h2 hc).1 h
    have hp1 := hp t.df
    have := wts_bound (B := 1099511627777) (by decide) v.kids fun k hk => by
      obtain ⟨j, hj, rfl⟩ := List.mem_iff_getElem.1 hk
      exact ih _ hk _ (by have := Val.size_kid hk; omega) (fitsL_all.1 k4 j hj)
    rw [if_neg (by omega), if_neg (by omega), if_neg (by omega), if_pos k1]
    omega
  · obtain ⟨k1, k2, k3, k4⟩ := (fits3r hv h0 h1 h2 hc).1 h
    have := wts_bound (B := 1099511627777) (by decide) v.kids fun k hk => by
      obtain ⟨j, hj, rfl⟩ := List.mem_iff_getElem.1 hk
      exact ih _ hk _ (by have := Val.size_kid hk; omega) (k4 j hj (by omega))
    rw [if_neg (by omega), if_neg (by omega), if_pos k1]
    omega
theorem types_slots_le (l : List Int) (id : IdT) : (theDef (typesP l) id).slots.length ≤ 1000 := by
  unfold theDef
  cases hf : (typesP l).defs.find? fun d => decide (d.id = id) with
  | none => simp [def0]
  | some d =>
    have hd := List.mem_of_find?_eq_some hf
    obtain ⟨i, _, rfl⟩ := List.mem_map.1 (show d ∈ (List.range (tMany l)).map (tDef l) from hd)
    have := tArity_rng l i
    show (tSlots l i (tArity l i)).length ≤ 1000
    rw [tSlots_len]; omega
theorem types_wt (l m : List Int) {i : Nat} (h : i < tMany l) : ¬ w64 (valV (typesP l) 12 (tyK i) m).wt < 0 := by
  have h1 := types_val l m h
  have h2 := fits_wt (types_slots_le l) _ _ (by omega) h1.2.2
  have h3 : (1099511627777 : Int) * ((valV (typesP l) 12 (tyK i) m).size : Int) ≤ 1099511627777 * 256 := Int.mul_le_mul_of_nonneg_left (by omega) (by decide)
  rw [w64_in (by omega)]
  omega
end Xe

/- PARTS of made values. No program in sight. -/
namespace Xe
open Go
theorem fits_valid {p : ProgT} {v : Val} {t : Ty} (h : fitsB p v t = true) : validT p t := by
  rcases Decidable.em (validT p t) with hv | hv
  · exact hv
  · exact absurd h (fits_not hv)
theorem kid_fits {p : ProgT} {t : Ty} {v : Val} {d : DefT} (hd : theDef p t.df = d) (hk : t.kind = 3) (h : fitsB p v t = true) :
    (d.kind = 1 → ∃ jx : Nat, v.n = (jx : Int) ∧ ∃ hj : jx < d.slots.length, ∀ i (hi : i < v.kids.length), fitsB p v.kids[i] (d.slots[jx]).ty = true) ∧
    (¬ d.kind = 1 → v.kids.length = d.slots.length ∧ ∀ i (hi : i < v.kids.length) (hi2 : i < d.slots.length), fitsB p v.kids[i] (d.slots[i]).ty = true) := by
  have hv := fits_valid h
  subst hd
  constructor
  · intro hc
    obtain ⟨k1, k2, k3, k4⟩ := (fits3c hv (by omega) (by omega) (by omega) hc).1 h
    obtain ⟨jx, hjx⟩ := Int.eq_ofNat_of_zero_le k2.1
    have hl : jx < (theDef p t.df).slots.length := by omega
    rw [hjx, show ((jx : Int)).toNat = jx from rfl, getD_map hl] at k4
    exact ⟨jx, hjx, hl, fun i hi => fitsL_all.1 k4 i hi⟩
  · intro hc
    obtain ⟨k1, k2, k3, k4⟩ := (fits3r hv (by omega) (by omega) (by omega) hc).1 h
    exact ⟨k3, k4⟩
theorem kid_valid {p : ProgT} {v k : Val} {t : Ty} (hs : v.size ≤ 256) (hd : v.depth ≤ 24) (hk : k ∈ v.kids) (h : fitsB p k t = true) : validV p t k := by
  have h1 := Val.size_kid hk
  have h2 := Val.depth_kid hk
  exact (valid_iff _ _ _).2 ⟨by omega, by omega, h⟩
theorem list_fits {p : ProgT} {t : Ty} (hT : validT p (listT t)) {l : List Val} (h : ∀ k ∈ l, fitsB p k t = true) : fitsB p (.mk 4 0 l) (listT t) = true :=
  (fits2 hT rfl).2 ⟨rfl, rfl, fun j hj => h _ (List.getElem_mem (show j < l.length from hj))⟩
theorem two_iff {p : ProgT} {t : Ty} {v : Val} (hT : validT p (listT t)) (hd : v.depth ≤ 12) (h : fitsB p v t = true) : validV p (listT t) (.mk 4 0 [v, v]) ↔ 2 * (v.size : Int) + 1 ≤ 256 := by
  rw [valid_iff]
  have hf : fitsB p (.mk 4 0 [v, v]) (listT t) = true := list_fits hT fun k hk => by
    simp only [List.mem_cons, List.not_mem_nil, or_false, or_self] at hk
    rw [hk]; exact h
  simp only [hf, Val.size, Val.sizes, Val.depth, Val.depths, and_true]
  omega
theorem one_of_two {p : ProgT} {t : Ty} {v : Val} (hT : validT p (listT t)) (hd : v.depth ≤ 12) (h : fitsB p v t = true) (h2 : validV p (listT t) (.mk 4 0 [v, v])) : validV p (listT t) (.mk 4 0 [v]) := by
  have hs := (two_iff hT hd h).1 h2
  rw [valid_iff]
  have hf : fitsB p (.mk 4 0 [v]) (listT t) = true := list_fits hT fun k hk => by
    rw [List.mem_singleton] at hk
    rw [hk]; exact h
  simp only [hf, Val.size, Val.sizes, Val.depth, Val.depths, and_true]
  omega
theorem num_iff (p : ProgT) (n : Int) : validV p ty0 (.mk 0 n []) ↔ -1099511627776 ≤ n ∧ n ≤ 1099511627776 := by
  rw [valid_iff, fits0 (validT_num p) rfl]
  simp [Val.size, Val.sizes, Val.depth, Val.depths, Val.kind, Val.n, Val.kids]
theorem types_listT (l : List Int) {i : Nat} (h : i < tMany l) : validT (typesP l) (listT (tyK i)) := validT_listOf (validTF_ofT 22 (types_isDef l h))
theorem beqD {a b : Prop} [Decidable a] [Decidable b] (h : a ↔ b) : (decide a == decide b) = true := by
  rw [beq_iff_eq, decide_eq_decide]; exact h
theorem types_get (l : List Int) {i : Nat} (h : i < (typesP l).defs.length) : i < tMany l ∧ theDef (typesP l) (idK (1 + (i : Int))) = (typesP l).defs[i] ∧ ((typesP l).defs[i]).id = idK (1 + (i : Int)) := by
  have hl : (typesP l).defs.length = tMany l := by rw [show (typesP l).defs = tDefs l (tMany l) from rfl, tDefs_len]
  have hi : i < tMany l := by omega
  have hg : (typesP l).defs[i] = tDef l i := tDefs_get l hi
  exact ⟨hi, by rw [(types_def l hi).2, hg], by rw [hg]; rfl⟩
end Xe

/- A SLOT'S TYPE TURNED in a program; zero values that fail. No program in sight. -/
namespace Xe
open Go
theorem zNode_err {k : Int} {r : List Val × Int × Int} (h : (zNode k r).2.1 ≠ 0) : (zNode k r).1 = v0 := by
  unfold zNode at h ⊢
  split
  · rfl
  · rename_i h1; rw [if_neg h1] at h; exact absurd rfl h
theorem zeroF_err (p : ProgT) (n : Nat) (t : Ty) (l : Int) (h : (zeroF p n t l).2.1 ≠ 0) : (zeroF p n t l).1 = v0 := by
  cases n with
  | zero => rw [zeroF]; split <;> rfl
  | succ n =>
    rw [zeroF] at h ⊢
    split
    · rfl
    rename_i h1; rw [if_neg h1] at h
    split
    · rfl
    rename_i h2; rw [if_neg h2] at h
    split
    · rename_i h3; rw [if_pos h3] at h; exact absurd rfl h
    rename_i h3; rw [if_neg h3] at h
    split
    · rename_i h4; rw [if_pos h4] at h; exact absurd rfl h
    rename_i h4; rw [if_neg h4] at h
    split
    · rename_i h5; rw [if_pos h5] at h; exact absurd rfl h
    rename_i h5; rw [if_neg h5] at h
    split
    · rename_i h6; rw [if_pos h6] at h
      split
      · rfl
      · rename_i h7; rw [if_neg h7] at h; exact zNode_err h
    · rename_i h6; rw [if_neg h6] at h; exact zNode_err h
theorem same_zero (p : ProgT) (t : Ty) : cmpV (zeroV p t).1 (if (zeroV p t).2.1 ≠ 0 then v0 else (zeroV p t).1) = 0 := by
  split
  · rename_i h; rw [show (zeroV p t).1 = v0 from zeroF_err p 24 t 256 h]; exact cmpV_self _
  · exact cmpV_self _
/-- Cells put in the place of others. -/
theorem RdL.put {M : Mem} {ds es : List D} {us xs : List Value} (h : RdL M ds us) (hx : RdL M es xs) (q : Nat) (hq : q + xs.length ≤ us.length) :
    RdL M (ds.take q ++ (es ++ ds.drop (q + es.length))) (us.take q ++ (xs ++ us.drop (q + xs.length))) := by
  have hl := h.1
  have h1 : RdL M (ds.take q) (us.take q) := by
    have := h.cut 0 q
    rwa [List.drop_zero, List.drop_zero] at this
  have h2 : RdL M (ds.drop (q + es.length)) (us.drop (q + xs.length)) := by
    have := h.cut (q + es.length) (ds.length)
    rw [List.take_of_length_le (by simp), List.take_of_length_le (by simp [hl])] at this
    rw [hx.1]; exact this
  exact h1.append (hx.append h2)
def SlotT.withTy (s : SlotT) (t : Ty) : SlotT := { s with ty := t }
def DefT.withSlots (d : DefT) (l : List SlotT) : DefT := { d with slots := l }
theorem mid_take {α : Type} (A B : List α) (x y z : List α) {q : Nat} (h : A.length = q) : (A ++ ((x ++ (y ++ z)) ++ B)).take (q + x.length) = A ++ x := by
  subst h
  rw [List.take_append, List.take_of_length_le (by omega), show A.length + x.length - A.length = x.length by omega, List.append_assoc, List.take_append_of_le_length (Nat.le_refl _), List.take_length]
theorem mid_drop {α : Type} (A B : List α) (x y z : List α) {q : Nat} (h : A.length = q) : (A ++ ((x ++ (y ++ z)) ++ B)).drop (q + x.length + y.length) = z ++ B := by
  subst h
  have e : A ++ ((x ++ (y ++ z)) ++ B) = (A ++ (x ++ y)) ++ (z ++ B) := by simp
  rw [e, show A.length + x.length + y.length = (A ++ (x ++ y)).length by simp; omega, List.drop_left]
theorem flat_mid {α : Type} {enc : α → List D} {sz : Nat} (he : ∀ x, (enc x).length = sz) {l : List α} {j : Nat} (hj : j < l.length) (a b : α) {x y y' z : List D} (h1 : enc l[j] = x ++ (y ++ z)) (h2 : enc b = x ++ (y' ++ z)) :
    (l.flatMap enc).take (j * sz + x.length) ++ (y' ++ (l.flatMap enc).drop (j * sz + x.length + y.length)) = (l.take j ++ (b :: l.drop (j + 1))).flatMap enc := by
  have hl : l.flatMap enc = (l.take j).flatMap enc ++ ((x ++ (y ++ z)) ++ (l.drop (j + 1)).flatMap enc) := by
    conv => lhs; rw [← List.take_append_drop j l, List.drop_eq_getElem_cons hj, List.flatMap_append, List.flatMap_cons, h1]
  have hA : ((l.take j).flatMap enc).length = j * sz := by rw [flatLen he, List.length_take, Nat.min_eq_left (by omega)]
  rw [hl, mid_take _ _ _ _ _ hA, mid_drop _ _ _ _ _ hA, List.flatMap_append, List.flatMap_cons, h2]
  simp
theorem slot_mid {l : List SlotT} {j : Nat} (hj : j < l.length) (t : Ty) : (l.flatMap SlotT.enc).take (j * 11 + 4) ++ (t.enc ++ (l.flatMap SlotT.enc).drop (j * 11 + 4 + 5)) = (l.take j ++ ((l[j].withTy t) :: l.drop (j + 1))).flatMap SlotT.enc := by
  have h := flat_mid (enc := SlotT.enc) SlotT.enc_len hj l[j] (l[j].withTy t) (x := [dint l[j].id.shop, dint l[j].id.seq, dint l[j].id.index, dstr l[j].name]) (y := l[j].ty.enc) (y' := t.enc) (z := [dint l[j].most, dint l[j].place])
    (by rw [Ty.enc_eq]; rfl) (by rw [Ty.enc_eq]; rfl)
  rw [Ty.enc_len] at h
  exact h
theorem def_mid {l : List DefT} {j : Nat} (hj : j < l.length) (s : List SlotT) : (l.flatMap DefT.enc).take (j * 31 + 8) ++ ([D.sl s.length 11 (s.flatMap SlotT.enc)] ++ (l.flatMap DefT.enc).drop (j * 31 + 8 + 1)) = (l.take j ++ ((l[j].withSlots s) :: l.drop (j + 1))).flatMap DefT.enc :=
  flat_mid (enc := DefT.enc) DefT.enc_len hj l[j] (l[j].withSlots s)
    (x := [dint l[j].id.shop, dint l[j].id.seq, dint l[j].id.index, dint l[j].kind, dint l[j].mod.shop, dint l[j].mod.seq, dint l[j].mod.index, dstr l[j].name]) (y := [D.sl l[j].slots.length 11 (l[j].slots.flatMap SlotT.enc)]) (y' := [D.sl s.length 11 (s.flatMap SlotT.enc)]) rfl rfl
theorem set_put {us : List Value} {q : Nat} {v : Value} (h : q < us.length) : us.set q v = us.take q ++ ([v] ++ us.drop (q + 1)) := by
  rw [List.set_eq_take_append_cons_drop, if_pos h]; rfl
/-- A cell that reads as a slice. -/
theorem cell_sl {M : Mem} {ds : List D} {us : List Value} {q n sz : Nat} {cs : List D} (h : RdL M ds us) (hq : ds[q]? = some (.sl n sz cs)) : ∃ a c, us[q]? = some (.slice a n c) ∧ Rd M (.sl n sz cs) (.slice a n c) := by
  obtain ⟨v, h1, h2⟩ := RdL.get h hq
  obtain ⟨a, c, rfl, _⟩ := h2.slice
  exact ⟨a, c, h1, h2⟩
theorem def_slots_at {l : List DefT} {j : Nat} (hj : j < l.length) : (l.flatMap DefT.enc)[j * 31 + 8]? = some (.sl l[j].slots.length 11 (l[j].slots.flatMap SlotT.enc)) := by
  have := flat_get DefT.enc_len l j l[j] (List.getElem?_eq_getElem hj) 8 (.sl l[j].slots.length 11 (l[j].slots.flatMap SlotT.enc)) rfl
  exact this
end Xe

/- WIDE AND DEEP VALUES; the size of a turned value. No program in sight. -/
namespace Xe
open Go
def numsL (k : Nat) : List Val := (List.range k).map fun i : Nat => Val.mk 0 (i : Int) []
theorem numsL_len (k : Nat) : (numsL k).length = k := by simp [numsL]
theorem numsL_succ (k : Nat) : (numsL (k + 1)).flatMap Val.enc = (numsL k).flatMap Val.enc ++ (Val.mk 0 (k : Int) []).enc := by simp [numsL, List.range_succ]
def dpV : Nat → Val
  | 0 => .mk 0 0 []
  | k + 1 => .mk 4 0 [dpV k]
theorem dpV_size : ∀ k, (dpV k).size = k + 1
  | 0 => by simp [dpV, Val.size, Val.sizes]
  | k + 1 => by have := dpV_size k; simp only [dpV, Val.size, Val.sizes]; omega
theorem leaves_size : ∀ l : List Val, (∀ v ∈ l, v.kids = []) → Val.sizes l = l.length ∧ Val.depths l ≤ 1
  | [], _ => by simp [Val.sizes, Val.depths]
  | v :: vs, h => by
    have h1 := h v (List.mem_cons_self ..)
    have h2 := leaves_size vs fun x hx => h x (List.mem_cons_of_mem _ hx)
    have h3 : v.size = 1 := by rw [Val.size_eq, h1]; simp [Val.sizes]
    have h4 : v.depth = 1 := by rw [Val.depth_eq, h1]; simp [Val.depths]
    simp only [Val.sizes, Val.depths, List.length_cons]
    omega
theorem many_iff (p : ProgT) {N : Nat} (hN : N ≤ 1000) : validV p (listT ty0) (.mk 4 0 (numsL N)) ↔ (N : Int) ≤ 255 := by
  have h1 := leaves_size (numsL N) fun v hv => by
    obtain ⟨i, _, rfl⟩ := List.mem_map.1 hv
    rfl
  rw [numsL_len] at h1
  have hT : validT p (listT ty0) := validT_listOf ((validTF_one (by decide) (by decide)).2 ⟨rfl, rfl, .inl rfl⟩)
  have hf : fitsB p (.mk 4 0 (numsL N)) (listT ty0) = true := list_fits hT fun k hk => by
    obtain ⟨i, hi, rfl⟩ := List.mem_map.1 hk
    have := List.mem_range.1 hi
    exact (fits0 (validT_num p) rfl).2 ⟨rfl, rfl, by simp only [Val.n]; omega, by simp only [Val.n]; omega⟩
  rw [valid_iff]
  simp only [hf, Val.size, Val.depth, and_true]
  omega
mutual
theorem spoil_size (how wth : Int) : ∀ (v : Val) (a : Int), (spoil how wth v a).size ≤ v.size + 1
  | .mk k n l, a => by
    have key : (spoilAt (.mk k n l) how wth).size ≤ (Val.mk k n l).size + 1 := by
      unfold spoilAt
      split
      · simp only [Val.size, Val.kids]; omega
      split
      · simp only [Val.size, Val.kids]; omega
      split
      · simp only [Val.size, Val.kids]; omega
      split
      · simp only [Val.size, Val.kids, Val.sizes_append, Val.sizes]; omega
      · have : Val.sizes (l.drop 1) ≤ Val.sizes l := by
          cases l with
          | nil => simp
          | cons x xs => simp [Val.sizes]
        simp only [Val.size, Val.kids]; omega
    rw [spoil]
    split
    · split
      · rename_i l' hl
        have := spoilL_size how wth l a l' hl
        simp only [Val.size]; omega
      · exact key
    · exact key
theorem spoilL_size (how wth : Int) : ∀ (l : List Val) (a : Int) (l' : List Val), spoilL how wth l a = some l' → Val.sizes l' ≤ Val.sizes l + 1
  | [], a, l', h => by rw [spoilL] at h; cases h
  | y :: ys, a, l', h => by
    rw [spoilL] at h
    split at h
    · obtain rfl := Option.some.inj h
      have := spoil_size how wth y (a - 1)
      simp only [Val.sizes]; omega
    · rw [Option.map_eq_some_iff] at h
      obtain ⟨l2, h2, rfl⟩ := h
      have := spoilL_size how wth ys _ l2 h2
      simp only [Val.sizes]; omega
end
mutual
theorem Val.size_bulk : ∀ v : Val, v.size ≤ bulkDs v.enc
  | .mk k n l => by
    have := Val.sizes_bulk l
    rw [Val.size, Val.enc]
    simp only [bulkDs, bulkD, dint]
    omega
theorem Val.sizes_bulk : ∀ l : List Val, Val.sizes l ≤ bulkDs (Val.encs l)
  | [] => by simp [Val.sizes]
  | v :: vs => by
    have h1 := Val.size_bulk v
    have h2 := Val.sizes_bulk vs
    rw [Val.sizes, Val.encs, bulkDs_append]
    omega
end
end Xe

/- DIGITS of numbers; encodings of numbers are canonical. No program in sight. -/
namespace Xe
open Go
theorem nd_iff : ∀ (j m : Nat), 0 < m / 256 ^ j ↔ j < nd m
  | 0, m => by
    rw [Nat.pow_zero, Nat.div_one]
    rcases Nat.eq_zero_or_pos m with rfl | h
    · rw [nd_zero]
    · rw [nd_pos (by omega)]; omega
  | j + 1, m => by
    rw [Nat.pow_succ, Nat.mul_comm, ← Nat.div_div_eq_div_mul, nd_iff j (m / 256)]
    rcases Nat.eq_zero_or_pos m with rfl | h
    · rw [Nat.zero_div, nd_zero]; omega
    · rw [nd_pos (m := m) (by omega)]; omega
def digs (m j : Nat) : List Nat := (List.range j).map fun i => m / 256 ^ i % 256
theorem digs_len (m j : Nat) : (digs m j).length = j := by simp [digs]
theorem digs_succ (m j : Nat) : digs m (j + 1) = digs m j ++ [m / 256 ^ j % 256] := by simp [digs, List.range_succ]
theorem digs_get {m j i : Nat} (h : i < j) : (digs m j)[i]? = some (m / 256 ^ i % 256) := by simp [digs, h]
theorem digitJ_eq (n : Int) (j r : Nat) : digitJ n j r = flip8 (sgn n) (mag n / 256 ^ (j - 1 - r) % 256) := by
  unfold digitJ
  rw [show (2 : Nat) ^ (8 * (j - 1 - r)) = 256 ^ (j - 1 - r) from by rw [Nat.pow_mul]]
theorem flip8_255 {a : Nat} (h : a < 256) : flip8 255 a = 255 - a := by unfold flip8; rw [if_neg (by decide)]
theorem flip8_z (a : Nat) : flip8 0 a = a := rfl
theorem flip8_flip {f a : Nat} (h : a < 256) : flip8 f (flip8 f a) = a := by unfold flip8; split <;> omega
/-! ### Words -/
theorem word_acc (f : Nat) : ∀ (l : List Nat) (acc : Nat), l.foldl (fun m c => m * 256 + flip8 f c) acc = acc * 256 ^ l.length + wordOf f l
  | [], acc => by simp [wordOf]
  | c :: l, acc => by
    have h1 := word_acc f l (acc * 256 + flip8 f c)
    have h2 := word_acc f l (0 * 256 + flip8 f c)
    unfold wordOf
    rw [List.foldl_cons, List.foldl_cons, h1, h2, List.length_cons, Nat.pow_succ]
    rw [Nat.add_mul, Nat.zero_mul, Nat.zero_add, Nat.mul_assoc, Nat.mul_comm 256]
    omega
theorem wordOf_append (f : Nat) (a b : List Nat) : wordOf f (a ++ b) = wordOf f a * 256 ^ b.length + wordOf f b := by
  unfold wordOf
  rw [List.foldl_append, word_acc f b]
  rfl
/-- The digits of a word. -/
theorem word_digit {f : Nat} {L : List Nat} (h : ∀ c ∈ L, c < 256) {r : Nat} (hr : r < L.length) : wordOf f L / 256 ^ (L.length - 1 - r) = wordOf f (L.take r) * 256 + flip8 f L[r] := by
  have e : L = L.take (r + 1) ++ L.drop (r + 1) := (List.take_append_drop _ _).symm
  have hd : (L.drop (r + 1)).length = L.length - 1 - r := by rw [List.length_drop]; omega
  have hlt := wordOf_lt f (L.drop (r + 1)) fun c hc => h c (List.mem_of_mem_drop hc)
  have h1 : wordOf f L = wordOf f (L.take (r + 1)) * 256 ^ (L.length - 1 - r) + wordOf f (L.drop (r + 1)) := by
    conv => lhs; rw [e, wordOf_append, hd]
  rw [hd] at hlt
  rw [h1, Nat.mul_comm, Nat.mul_add_div (Nat.pow_pos (by decide)), Nat.div_eq_of_lt hlt, Nat.add_zero, List.take_succ_eq_append_getElem hr, wordOf_snoc]
theorem word_nd {f : Nat} {L : List Nat} (h : ∀ c ∈ L, c < 256) (h0 : ∀ c ∈ L.head?, flip8 f c ≠ 0) : nd (wordOf f L) = L.length := by
  have hlt := wordOf_lt f L h
  refine nd_eq hlt ?_
  cases L with
  | nil => exact .inl rfl
  | cons c l =>
    refine .inr ?_
    have h1 := word_digit (f := f) h (r := 0) (by simp)
    rw [show (2 : Nat) ^ (8 * ((c :: l).length - 1)) = 256 ^ ((c :: l).length - 1 - 0) from by rw [Nat.pow_mul]; rfl, h1]
    have h2 := h0 c rfl
    simp only [List.take_zero, List.getElem_cons_zero]
    omega
theorem word_head {f : Nat} {L : List Nat} (h : ∀ c ∈ L, c < 256) (hk : nd (wordOf f L) = L.length) : ∀ c ∈ L.head?, flip8 f c ≠ 0 := fun c hc => by
  cases L with
  | nil => simp at hc
  | cons x l =>
    simp only [List.head?_cons, Option.mem_def, Option.some.injEq] at hc
    subst hc
    have h1 := word_digit (f := f) h (r := 0) (by simp)
    have h2 := (nd_iff ((x :: l).length - 1 - 0) (wordOf f (x :: l))).2 (by rw [hk]; simp)
    rw [h1] at h2
    simp only [List.take_zero, List.getElem_cons_zero, wordOf, List.foldl_nil] at h2
    omega
def intOf (h W : Nat) : Int := if h < 128 then -1 - (W : Int) else (W : Int)
theorem mag_intOf (h W : Nat) : mag (intOf h W) = W := by unfold mag intOf; split <;> split <;> omega
theorem sgn_intOf (h W : Nat) : sgn (intOf h W) = flipOf h := by unfold sgn intOf flipOf; split <;> split <;> first | rfl | omega
theorem head_kOf {h : Nat} (hh : h < 256) : flip8 (flipOf h) (128 + kOf h) = h := by
  have := kOf_ge hh
  rw [show 128 + kOf h = flip8 (flipOf h) h from by unfold kOf; omega, flip8_flip hh]
/-- An encoding is canonical. -/
theorem canon {h : Nat} {L : List Nat} (hh : h < 256) (hL : ∀ c ∈ L, c < 256) (hk : L.length = kOf h) : encI (intOf h (wordOf (flipOf h) L)) = h :: L ↔ ∀ c ∈ L.head?, flip8 (flipOf h) c ≠ 0 := by
  constructor
  · intro he
    refine word_head hL ?_
    have h1 := congrArg List.length he
    rw [encI, encP_len, mag_intOf, List.length_cons] at h1
    omega
  · intro h0
    have hn := word_nd hL h0
    rw [encI, mag_intOf, hn, encP, sgn_intOf, hk, head_kOf hh]
    refine congrArg (List.cons h) ?_
    apply List.ext_getElem
    · simp [hk]
    · intro r h1 h2
      have h3 := word_digit (f := flipOf h) hL h2
      rw [List.getElem_map, List.getElem_range, digitJ_eq, mag_intOf, sgn_intOf, ← hk, h3]
      have h4 := flip8_lt (f := flipOf h) (hL _ (List.getElem_mem h2))
      rw [show (wordOf (flipOf h) (L.take r) * 256 + flip8 (flipOf h) L[r]) % 256 = flip8 (flipOf h) L[r] from by omega, flip8_flip (hL _ (List.getElem_mem h2))]
theorem word_prefix {f : Nat} {L : List Nat} {j : Nat} (hj : j < L.length) : wordOf f (L.take j) * 256 ≤ wordOf f L := by
  have e : wordOf f L = wordOf f (L.take j) * 256 ^ (L.drop j).length + wordOf f (L.drop j) := by
    conv => lhs; rw [← List.take_append_drop j L, wordOf_append]
  have h1 : 256 ≤ 256 ^ (L.drop j).length := by
    have : 1 ≤ (L.drop j).length := by rw [List.length_drop]; omega
    calc 256 = 256 ^ 1 := rfl
      _ ≤ _ := Nat.pow_le_pow_right (by decide) this
  have h2 := Nat.mul_le_mul_left (wordOf f (L.take j)) h1
  omega
/-! ### A number read back -/
theorem word_digs {f m : Nat} : ∀ (k r : Nat), r ≤ k → m < 256 ^ k → wordOf f ((List.range r).map fun r => flip8 f (flip8 f (m / 256 ^ (k - 1 - r) % 256))) = wordOf f ((List.range r).map fun r => flip8 f (flip8 f (m / 256 ^ (k - 1 - r) % 256))) := fun _ _ _ _ => rfl
theorem wordOf_digits {n : Int} {k : Nat} (hm : mag n < 256 ^ k) : ∀ r : Nat, r ≤ k → wordOf (sgn n) ((List.range r).map (digitJ n k)) = mag n / 256 ^ (k - r)
  | 0, _ => by
    simp only [List.range_zero, List.map_nil, wordOf, List.foldl_nil, Nat.sub_zero]
    exact (Nat.div_eq_of_lt hm).symm
  | r + 1, hr => by
    have ih := wordOf_digits hm r (by omega)
    rw [List.range_succ, List.map_append, List.map_cons, List.map_nil, wordOf_snoc, ih, digitJ_eq, flip8_flip (Nat.mod_lt _ (by decide))]
    have e : k - r = (k - 1 - r) + 1 := by omega
    rw [e, Nat.pow_succ, ← Nat.div_div_eq_div_mul, show k - (r + 1) = k - 1 - r from by omega]
    omega
theorem lt_nd (m : Nat) : m < 256 ^ nd m := by
  rcases Nat.lt_or_ge m (256 ^ nd m) with h | h
  · exact h
  · have := (nd_iff (nd m) m).1 (Nat.div_pos h (Nat.pow_pos (by decide)))
    omega
theorem getI_encI {n : Int} (hn : InI n) (rest : List Nat) : getI (encI n ++ rest) = (n, ((encI n).length : Int), 0) := by
  obtain ⟨k, hk⟩ : ∃ k, k = nd (mag n) := ⟨_, rfl⟩
  have hk8 : k ≤ 8 := by rw [hk]; exact nd_le (by have := mag_lt hn; omega)
  have hml := mag_lt hn
  have hlt : mag n < 256 ^ k := by rw [hk]; exact lt_nd _
  obtain ⟨h, hh⟩ : ∃ h, h = flip8 (sgn n) (128 + k) := ⟨_, rfl⟩
  have hb : h < 256 := by rw [hh]; exact flip8_lt (by omega)
  have hf : flipOf h = sgn n := by
    rw [hh]; unfold flipOf flip8
    rcases sgn_or n with e | e <;> rw [e] <;> simp <;> omega
  have hkk : kOf h = k := by
    unfold kOf
    rw [hf, hh, flip8_flip (by omega)]; omega
  obtain ⟨L, hL⟩ : ∃ L, L = (List.range k).map (digitJ n k) := ⟨_, rfl⟩
  have hLl : L.length = k := by rw [hL]; simp
  have he : encI n = h :: L := by rw [encI, encP, ← hk, ← hh, ← hL]
  have hw : wordOf (flipOf h) L = mag n := by
    have := wordOf_digits hlt k (Nat.le_refl _)
    rw [hf, hL, this, Nat.sub_self, Nat.pow_zero, Nat.div_one]
  have hLb : ∀ c ∈ L, c < 256 := fun c hc => by
    rw [hL] at hc
    obtain ⟨r, _, rfl⟩ := List.mem_map.1 hc
    exact flip8_digit _ _ _
  have h0 := word_head (f := flipOf h) hLb (by rw [hw, hLl, hk])
  have hnum : (if h < 128 then -1 - (mag n : Int) else (mag n : Int)) = n := by
    have h1 : h < 128 ↔ n < 0 := by
      rw [hh]; unfold flip8 sgn
      by_cases h3 : n < 0
      · simp [h3]; omega
      · simp [h3]
    unfold mag
    by_cases h3 : n < 0
    · rw [if_pos (h1.2 h3), if_pos h3]; omega
    · rw [if_neg (fun q => h3 (h1.1 q)), if_neg h3]; omega
  rw [he, List.cons_append, getI, hkk, if_neg (by omega), if_neg (by rw [List.length_append]; omega)]
  have ht : (L ++ rest).take k = L := by rw [← hLl, List.take_left]
  rw [ht, hw, if_neg (fun q => ?_), if_neg (by omega), hnum, List.length_cons, hLl]
  · rfl
  · obtain ⟨q1, q2⟩ := q
    cases L with
    | nil => simp at hLl; omega
    | cons c l => exact h0 c rfl q2
end Xe

/- ENCODINGS: their lengths, their bytes; deep values over a leaf. No program in sight. -/
namespace Xe
open Go
theorem encV_pos (v : Val) : 0 < (encV v).length := by
  have h : 0 < (encI v.kind).length := by rw [encI, encP_len]; omega
  rw [encV_eq]
  simp only [List.length_append]
  omega
mutual
theorem encV_byte : ∀ v : Val, v.Ok → v.size ≤ 1099511627776 → ∀ x ∈ encV v, x < 256
  | .mk k n l, h, hs, x, hx => by
    have hk := kids_le_size (.mk k n l)
    simp only [Val.kids] at hk
    rw [encV] at hx
    simp only [List.mem_append] at hx
    rcases hx with ((hx | hx) | hx) | hx
    · exact encI_byte h.kind x hx
    · exact encI_byte h.n x hx
    · exact encI_byte (n := (l.length : Int)) (by unfold InI; omega) x hx
    · exact encVs_byte l (fun y hy => h.kid hy) (by rw [Val.size] at hs; omega) x hx
theorem encVs_byte : ∀ l : List Val, (∀ y ∈ l, y.Ok) → Val.sizes l ≤ 1099511627776 → ∀ x ∈ encVs l, x < 256
  | [], _, _, x, hx => by simp [encVs] at hx
  | v :: vs, h, hs, x, hx => by
    rw [Val.sizes] at hs
    rw [encVs, List.mem_append] at hx
    rcases hx with hx | hx
    · exact encV_byte v (h v (List.mem_cons_self ..)) (by omega) x hx
    · exact encVs_byte vs (fun y hy => h y (List.mem_cons_of_mem _ hy)) (by omega) x hx
end
def dqV (n : Int) : Nat → Val
  | 0 => .mk 0 n []
  | k + 1 => .mk 4 0 [dqV n k]
theorem dqV_size (n : Int) : ∀ k, (dqV n k).size = k + 1
  | 0 => by simp [dqV, Val.size, Val.sizes]
  | k + 1 => by have := dqV_size n k; simp only [dqV, Val.size, Val.sizes]; omega
theorem dqV_ok {n : Int} (hn : InI n) : ∀ k, (dqV n k).Ok
  | 0 => .mk (show InI 0 by unfold InI; decide) hn (fun k hk => by simp [dqV, Val.kids] at hk)
  | k + 1 => .mk (show InI 4 by unfold InI; decide) (show InI 0 by unfold InI; decide) (fun v hv => by
      simp only [dqV, Val.kids, List.mem_singleton] at hv
      rw [hv]; exact dqV_ok hn k)
theorem numsL_size (N : Nat) : Val.sizes (numsL N) = N := by
  have h1 := leaves_size (numsL N) fun v hv => by
    obtain ⟨i, _, rfl⟩ := List.mem_map.1 hv
    rfl
  rw [numsL_len] at h1
  exact h1.1
theorem many_ok {N : Nat} (hN : N ≤ 1000) : (Val.mk 4 0 (numsL N)).Ok := .mk (show InI 4 by unfold InI; decide) (show InI 0 by unfold InI; decide) (fun v hv => by
  obtain ⟨i, hi, rfl⟩ := List.mem_map.1 (show v ∈ numsL N from hv)
  have := List.mem_range.1 hi
  exact .mk (show InI 0 by unfold InI; decide) (show InI (i : Int) by unfold InI; omega) (fun k hk => by simp [Val.kids] at hk))
theorem byteV_set (l : List Nat) (k c : Nat) : (byteV l).set k (vbyte c) = byteV (l.set k c) := by rw [byteV, byteV, List.map_set]
end Xe
