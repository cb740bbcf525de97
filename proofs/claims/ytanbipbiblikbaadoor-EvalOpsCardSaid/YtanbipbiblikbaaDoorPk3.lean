/- PureB, Ev0, Ev1, Ea, Vr, Vu, Vx, Eb, Ec, Ev2, Ed, put together. -/
import Derived.Test.YtanbipbiblikbaaDoorPk2
/- Pure12 Pure13 Pure14 Pure15 Pure16 Pure17 Pure18 Pure19 Pure20 Pure21 Pure22 Pure23, put together. No program in sight. -/
/- VALUES MADE OF NUMBERS. No program in sight. -/
namespace Xe
open Go
abbrev MR := Val × Int
def mkS (g : Ty → Int → MR) : List Ty → Int → List Val × Int
  | [], pos => ([], pos)
  | t :: ts, pos => ((g t pos).1 :: (mkS g ts (g t pos).2).1, (mkS g ts (g t pos).2).2)
def mkF (p : ProgT) (l : List Int) : Nat → Ty → Int → Int → MR
  | 0, _, pos, _ => (v0, pos)
  | n + 1, t, pos, d =>
    if t.kind = 0 then
      (if (atL l pos 1048576).tmod 16 = 0 then (.mk 0 (1099511627776 - ((atL l pos 1048576).tdiv 16).tmod 3) [], pos + 1)
       else if (atL l pos 1048576).tmod 16 = 1 then (.mk 0 (-1099511627776 + ((atL l pos 1048576).tdiv 16).tmod 3) [], pos + 1)
       else (.mk 0 (((atL l pos 1048576).tdiv 16).tmod 9 - 4) [], pos + 1))
    else if t.kind = 1 then (.mk 1 ((atL l pos 1048576).tmod 2) [], pos + 1)
    else if t.kind = 2 then
      (.mk 4 0 (mkS (fun u q => mkF p l n u q (d + 1)) (List.replicate (if 3 < d then 0 else ((atL l pos 1048576).tmod 3).toNat) (t.kids.headD ty0)) (pos + 1)).1,
       (mkS (fun u q => mkF p l n u q (d + 1)) (List.replicate (if 3 < d then 0 else ((atL l pos 1048576).tmod 3).toNat) (t.kids.headD ty0)) (pos + 1)).2)
    else if (theDef p t.df).kind = 1 then
      (.mk 3 ((atL l pos 1048576).tmod (theDef p t.df).slots.length) [(mkF p l n (((theDef p t.df).slots.map SlotT.ty).getD ((atL l pos 1048576).tmod (theDef p t.df).slots.length).toNat ty0) (pos + 1) (d + 1)).1],
       (mkF p l n (((theDef p t.df).slots.map SlotT.ty).getD ((atL l pos 1048576).tmod (theDef p t.df).slots.length).toNat ty0) (pos + 1) (d + 1)).2)
    else (.mk 2 0 (mkS (fun u q => mkF p l n u q (d + 1)) ((theDef p t.df).slots.map SlotT.ty) (pos + 1)).1, (mkS (fun u q => mkF p l n u q (d + 1)) ((theDef p t.df).slots.map SlotT.ty) (pos + 1)).2)
/-- So much fuel is enough; rows are short. -/
def wfT (p : ProgT) : Nat → Ty → Prop
  | 0, _ => False
  | n + 1, t => t.kind = 0 ∨ t.kind = 1 ∨ (t.kind = 2 ∧ 0 < t.kids.length ∧ wfT p n (t.kids.headD ty0)) ∨
    (t.kind ≠ 0 ∧ t.kind ≠ 1 ∧ t.kind ≠ 2 ∧ (theDef p t.df).slots.length ≤ 3 ∧ ((theDef p t.df).kind = 1 → 0 < (theDef p t.df).slots.length) ∧ ∀ s ∈ (theDef p t.df).slots, wfT p n s.ty)
theorem wfT_list {p : ProgT} {n : Nat} {t : Ty} (h : wfT p (n + 1) t) (h2 : t.kind = 2) : 0 < t.kids.length ∧ wfT p n (t.kids.headD ty0) := by
  rw [wfT] at h
  rcases h with h | h | h | h
  · omega
  · omega
  · exact h.2
  · exact absurd h2 h.2.2.1
theorem wfT_def {p : ProgT} {n : Nat} {t : Ty} (h : wfT p (n + 1) t) (h0 : ¬ t.kind = 0) (h1 : ¬ t.kind = 1) (h2 : ¬ t.kind = 2) : (theDef p t.df).slots.length ≤ 3 ∧ ((theDef p t.df).kind = 1 → 0 < (theDef p t.df).slots.length) ∧ ∀ s ∈ (theDef p t.df).slots, wfT p n s.ty := by
  rw [wfT] at h
  rcases h with h | h | h | h
  · exact absurd h h0
  · exact absurd h h1
  · exact absurd h.1 h2
  · exact h.2.2.2
theorem mkS_pos {g : Ty → Int → MR} {b : Int} : ∀ (ts : List Ty) (pos : Int), (∀ t ∈ ts, ∀ q, q < (g t q).2 ∧ (g t q).2 ≤ q + b) → pos ≤ (mkS g ts pos).2 ∧ (mkS g ts pos).2 ≤ pos + ts.length * b
  | [], pos, _ => by simp [mkS]
  | t :: ts, pos, h => by
    have h1 := h t (List.mem_cons_self ..) pos
    have h2 := mkS_pos ts (g t pos).2 fun u hu => h u (List.mem_cons_of_mem _ hu)
    simp only [mkS, List.length_cons]
    have e : ((ts.length + 1 : Nat) : Int) * b = ts.length * b + b := by rw [Int.natCast_add, Int.add_mul]; simp
    omega
theorem mkF_pos {p : ProgT} {l : List Int} : ∀ (n : Nat) (t : Ty) (pos d : Int), wfT p n t → pos < (mkF p l n t pos d).2 ∧ (mkF p l n t pos d).2 ≤ pos + 4 ^ n := by
  intro n
  induction n with
  | zero => intro t pos d h; exact h.elim
  | succ n ih =>
    intro t pos d h
    have hp : (1 : Int) ≤ 4 ^ n := Int.pow_pos (n := 4) (m := n) (by decide)
    have hs : (4 : Int) ^ (n + 1) = 4 ^ n * 4 := Int.pow_succ 4 n
    have hmul : ∀ k : Nat, k ≤ 3 → (k : Int) * 4 ^ n ≤ 3 * 4 ^ n := fun k hk => Int.mul_le_mul_of_nonneg_right (by omega) (by omega)
    rw [mkF]
    by_cases h0 : t.kind = 0
    · rw [if_pos h0]
      split
      · simp only; omega
      · split <;> (simp only; omega)
    rw [if_neg h0]
    by_cases h1 : t.kind = 1
    · rw [if_pos h1]; simp only; omega
    rw [if_neg h1]
    by_cases h2 : t.kind = 2
    · rw [if_pos h2]
      have hk := (wfT_list h h2).2
      have hlen : (if 3 < d then 0 else ((atL l pos 1048576).tmod 3).toNat) ≤ 3 := by
        split
        · omega
        · have := atL_lt l pos 1048576 (by omega)
          rw [Int.tmod_eq_emod_of_nonneg this.1]; omega
      have := mkS_pos (g := fun u q => mkF p l n u q (d + 1)) (b := 4 ^ n) (List.replicate (if 3 < d then 0 else ((atL l pos 1048576).tmod 3).toNat) (t.kids.headD ty0)) (pos + 1) fun u hu q => by
        rw [List.eq_of_mem_replicate hu]; exact ih _ q (d + 1) hk
      have hq := hmul _ hlen
      rw [List.length_replicate] at this
      simp only
      omega
    rw [if_neg h2]
    obtain ⟨h3, h4, h5⟩ := wfT_def h h0 h1 h2
    by_cases hc : (theDef p t.df).kind = 1
    · rw [if_pos hc]
      have hpos := h4 hc
      have hlt : ((atL l pos 1048576).tmod (theDef p t.df).slots.length).toNat < (theDef p t.df).slots.length := by
        have := atL_lt l pos 1048576 (by omega)
        rw [Int.tmod_eq_emod_of_nonneg this.1]
        have h6 := Int.emod_lt_of_pos (atL l pos 1048576) (show (0 : Int) < (theDef p t.df).slots.length by omega)
        have h7 := Int.emod_nonneg (atL l pos 1048576) (show ((theDef p t.df).slots.length : Int) ≠ 0 by omega)
        omega
      have := ih (((theDef p t.df).slots.map SlotT.ty).getD ((atL l pos 1048576).tmod (theDef p t.df).slots.length).toNat ty0) (pos + 1) (d + 1) (by
        rw [List.getD_eq_getElem?_getD, List.getElem?_map, List.getElem?_eq_getElem hlt]
        exact h5 _ (List.getElem_mem hlt))
      simp only
      omega
    rw [if_neg hc]
    have := mkS_pos (g := fun u q => mkF p l n u q (d + 1)) (b := 4 ^ n) ((theDef p t.df).slots.map SlotT.ty) (pos + 1) fun u hu q => by
      obtain ⟨s, hs1, rfl⟩ := List.mem_map.1 hu
      exact ih _ q (d + 1) (h5 s hs1)
    have hq := hmul _ h3
    rw [List.length_map] at this
    simp only
    omega
def mJ (dn : List Val) (r : List Val × Int) : List Val × Int := (dn ++ r.1, r.2)
theorem mJ_nil (r : List Val × Int) : r = mJ [] r := rfl
theorem mJ_step {g : Ty → Int → MR} {ts : List Ty} {r : List Val × Int} {dn : List Val} {k : Nat} {pos : Int} (hk : k < ts.length) (h : r = mJ dn (mkS g (ts.drop k) pos)) : r = mJ (dn ++ [(g ts[k] pos).1]) (mkS g (ts.drop (k + 1)) (g ts[k] pos).2) := by
  rw [h, List.drop_eq_getElem_cons hk, mkS, mJ, mJ]
  simp
theorem mJ_end {g : Ty → Int → MR} {ts : List Ty} {r : List Val × Int} {dn : List Val} {k : Nat} {pos : Int} (hk : ts.length ≤ k) (h : r = mJ dn (mkS g (ts.drop k) pos)) : r = (dn, pos) := by
  rw [h, List.drop_of_length_le hk, mkS, mJ]; simp
/-! ### Their size -/
theorem mkS_size {g : Ty → Int → MR} : ∀ (ts : List Ty) (pos : Int), (∀ t ∈ ts, ∀ q, (g t q).2 = q + (g t q).1.size) → (mkS g ts pos).2 = pos + Val.sizes (mkS g ts pos).1
  | [], pos, _ => by simp [mkS, Val.sizes]
  | t :: ts, pos, h => by
    have h1 := h t (List.mem_cons_self ..) pos
    have h2 := mkS_size ts (g t pos).2 fun u hu => h u (List.mem_cons_of_mem _ hu)
    simp only [mkS, Val.sizes]
    omega
theorem mkF_size {p : ProgT} {l : List Int} : ∀ (n : Nat) (t : Ty) (pos d : Int), wfT p n t → (mkF p l n t pos d).2 = pos + (mkF p l n t pos d).1.size := by
  intro n
  induction n with
  | zero => intro t pos d h; exact h.elim
  | succ n ih =>
    intro t pos d h
    have one : ∀ k m : Int, pos + 1 = pos + ((Val.mk k m []).size : Int) := fun k m => by simp [Val.size, Val.sizes]
    rw [mkF]
    by_cases h0 : t.kind = 0
    · rw [if_pos h0]
      split
      · exact one _ _
      · split <;> exact one _ _
    rw [if_neg h0]
    by_cases h1 : t.kind = 1
    · rw [if_pos h1]; exact one _ _
    rw [if_neg h1]
    by_cases h2 : t.kind = 2
    · rw [if_pos h2]
      have hk := (wfT_list h h2).2
      have := mkS_size (g := fun u q => mkF p l n u q (d + 1)) (List.replicate (if 3 < d then 0 else ((atL l pos 1048576).tmod 3).toNat) (t.kids.headD ty0)) (pos + 1) fun u hu q => by
        rw [List.eq_of_mem_replicate hu]; exact ih _ q (d + 1) hk
      simp only [Val.size]
      omega
    rw [if_neg h2]
    obtain ⟨h3, h4, h5⟩ := wfT_def h h0 h1 h2
    by_cases hc : (theDef p t.df).kind = 1
    · rw [if_pos hc]
      have hpos := h4 hc
      have hlt : ((atL l pos 1048576).tmod (theDef p t.df).slots.length).toNat < (theDef p t.df).slots.length := by
        have := atL_lt l pos 1048576 (by omega)
        rw [Int.tmod_eq_emod_of_nonneg this.1]
        have h6 := Int.emod_lt_of_pos (atL l pos 1048576) (show (0 : Int) < (theDef p t.df).slots.length by omega)
        have h7 := Int.emod_nonneg (atL l pos 1048576) (show ((theDef p t.df).slots.length : Int) ≠ 0 by omega)
        omega
      have := ih (((theDef p t.df).slots.map SlotT.ty).getD ((atL l pos 1048576).tmod (theDef p t.df).slots.length).toNat ty0) (pos + 1) (d + 1) (by
        rw [List.getD_eq_getElem?_getD, List.getElem?_map, List.getElem?_eq_getElem hlt]
        exact h5 _ (List.getElem_mem hlt))
      simp only [Val.size, Val.sizes]
      omega
    rw [if_neg hc]
    have := mkS_size (g := fun u q => mkF p l n u q (d + 1)) ((theDef p t.df).slots.map SlotT.ty) (pos + 1) fun u hu q => by
      obtain ⟨s, hs1, rfl⟩ := List.mem_map.1 hu
      exact ih _ q (d + 1) (h5 s hs1)
    simp only [Val.size]
    omega
/-- The value of a type made of numbers. -/
def rzV (p : ProgT) (t : Ty) : Val := if (zeroV p t).2.1 ≠ 0 then v0 else (zeroV p t).1
def valV (p : ProgT) (n : Nat) (t : Ty) (l : List Int) : Val :=
  if 256 < (mkF p l n t 0 1).1.size ∨ 24 < (mkF p l n t 0 1).1.depth then rzV p t else (mkF p l n t 0 1).1
theorem Val.depths_le {l : List Val} (h : ∀ k ∈ l, k.depth ≤ k.size) : Val.depths l ≤ Val.sizes l := by
  induction l with
  | nil => simp [Val.depths]
  | cons x xs ih =>
    have h1 := h x (List.mem_cons_self ..)
    have h2 := ih fun k hk => h k (List.mem_cons_of_mem _ hk)
    simp only [Val.depths, Val.sizes]
    omega
theorem Val.depth_le (v : Val) : v.depth ≤ v.size := by
  refine Val.rec' (p := fun v => v.depth ≤ v.size) (fun v ih => ?_) v
  rw [Val.depth_eq, Val.size_eq]
  have := Val.depths_le ih
  omega
end Xe

/- THE ORDER OF VALUES. No program in sight. -/
namespace Xe
open Go
/-- One test, then the other. -/
def lx (a b : Int) : Int := if a ≠ 0 then a else b
theorem cmpV_lx (a b : Val) : cmpV a b = lx (cmpI a.kind b.kind) (lx (cmpI a.n b.n) (lx (cmpI a.kids.length b.kids.length) (cmpVs a.kids b.kids))) := by rw [cmpV_eq]; rfl
theorem cmpVs_cons (x y : Val) (xs ys : List Val) : cmpVs (x :: xs) (y :: ys) = lx (cmpV x y) (cmpVs xs ys) := by rw [cmpVs]; rfl
mutual
theorem cmpV_self : ∀ a : Val, cmpV a a = 0
  | .mk k n l => by rw [cmpV_lx]; simp only [Val.kind, Val.n, Val.kids, cmpI_self, cmpVs_self l, lx]; simp
theorem cmpVs_self : ∀ l : List Val, cmpVs l l = 0
  | [] => by rw [cmpVs]
  | x :: xs => by rw [cmpVs_cons, cmpV_self x, cmpVs_self xs]; rfl
end
end Xe

/- VALUES WITH ONE PLACE TURNED. No program in sight. -/
namespace Xe
open Go
def spoilAt (v : Val) (how wth : Int) : Val :=
  if around how 5 = 0 then .mk wth v.n v.kids else if around how 5 = 1 then .mk v.kind wth v.kids else if around how 5 = 2 then .mk v.kind (v.n + 1) v.kids
  else if around how 5 = 3 then .mk v.kind v.n (v.kids ++ [.mk (around wth 5) 0 []]) else .mk v.kind v.n (v.kids.drop 1)
mutual
def spoil (how wth : Int) : Val → Int → Val
  | .mk k n l, a => if 0 < a then (match spoilL how wth l a with
    | some l' => .mk k n l'
    | none => spoilAt (.mk k n l) how wth) else spoilAt (.mk k n l) how wth
def spoilL (how wth : Int) : List Val → Int → Option (List Val)
  | [], _ => none
  | x :: xs, a => if a ≤ x.size then some (spoil how wth x (a - 1) :: xs) else (spoilL how wth xs (a - x.size)).map (x :: ·)
end
/-- Numbers that may grow by one. -/
inductive Val.Sm : Val → Prop
  | mk {v : Val} : -4611686018427387904 ≤ v.n ∧ v.n ≤ 4611686018427387904 → (∀ k ∈ v.kids, Val.Sm k) → Val.Sm v
theorem Val.Sm.n {v : Val} (h : v.Sm) : -4611686018427387904 ≤ v.n ∧ v.n ≤ 4611686018427387904 := by cases h with | mk a b => exact a
theorem Val.Sm.kid {v k : Val} (h : v.Sm) (hk : k ∈ v.kids) : k.Sm := by cases h with | mk a b => exact b k hk
theorem Val.open {M : Mem} {v : Val} {us : List Value} (h : RdL M v.enc us) : ∃ u, us = [vint v.kind, vint v.n, u] ∧ Rd M (.sl v.kids.length 3 (v.kids.flatMap Val.enc)) u := by
  rw [Val.enc_eq] at h
  obtain ⟨v0, t0, rfl, r0, h⟩ := h.uncons
  obtain ⟨v1, t1, rfl, r1, h⟩ := h.uncons
  obtain ⟨v2, t2, rfl, r2, h⟩ := h.uncons
  obtain rfl := h.unnil
  obtain rfl := r0.int_eq
  obtain rfl := r1.int_eq
  exact ⟨v2, rfl, r2⟩
end Xe

/- THE MADE TYPES ARE WELL-FOUNDED; the made values are of words. No program in sight. -/
namespace Xe
open Go
theorem idK_small {n : Int} (h0 : 0 ≤ n) (h1 : n < 32) : idK n = ⟨0, 1, n⟩ := by
  have e1 : n.tdiv 32 = 0 := by rw [Int.tdiv_eq_ediv_of_nonneg h0]; omega
  have e2 : n.tmod 32 = n := by rw [Int.tmod_eq_emod_of_nonneg h0]; omega
  rw [idK, e1, e2]; rfl
theorem tDefs_get (l : List Int) {k i : Nat} (h : i < k) : (tDefs l k)[i]'(by rw [tDefs_len]; exact h) = tDef l i := by simp [tDefs]
theorem types_def (l : List Int) {i : Nat} (h : i < tMany l) : hasDef (typesP l) (idK (1 + (i : Int))) ∧ theDef (typesP l) (idK (1 + (i : Int))) = tDef l i := by
  have hm := tMany_rng l
  have hl : i < (typesP l).defs.length := by rw [show (typesP l).defs = tDefs l (tMany l) from rfl, tDefs_len]; exact h
  have hg : (typesP l).defs[i] = tDef l i := tDefs_get l h
  have h1 := theDef_hit (p := typesP l) (id := idK (1 + (i : Int))) hl (fun j hj hlt e => by
    have hj' : j < tMany l := by omega
    rw [show (typesP l).defs[j] = tDef l j from tDefs_get l hj'] at e
    have e2 : idK (1 + (j : Int)) = idK (1 + (i : Int)) := e
    rw [idK_small (by omega) (by omega), idK_small (by omega) (by omega)] at e2
    simp only [IdT.mk.injEq] at e2
    omega) (by rw [hg]; rfl)
  rw [hg] at h1
  exact h1
theorem wfT_mono {p : ProgT} : ∀ {n m : Nat} {t : Ty}, n ≤ m → wfT p n t → wfT p m t
  | 0, _, _, _, h => h.elim
  | n + 1, 0, _, hm, _ => by omega
  | n + 1, m + 1, t, hm, h => by
    rw [wfT] at h ⊢
    rcases h with h | h | h | h
    · exact .inl h
    · exact .inr (.inl h)
    · exact .inr (.inr (.inl ⟨h.1, h.2.1, wfT_mono (by omega) h.2.2⟩))
    · exact .inr (.inr (.inr ⟨h.1, h.2.1, h.2.2.1, h.2.2.2.1, h.2.2.2.2.1, fun s hs => wfT_mono (by omega) (h.2.2.2.2.2 s hs)⟩))
theorem wfT_num (p : ProgT) (n : Nat) : wfT p (n + 1) ty0 := .inl rfl
theorem wfT_bool (p : ProgT) (n : Nat) : wfT p (n + 1) (.mk 1 id0 []) := .inr (.inl rfl)
theorem wfT_listT {p : ProgT} {n : Nat} {t : Ty} (h : wfT p n t) : wfT p (n + 1) (listT t) := .inr (.inr (.inl ⟨rfl, by simp [listT, Ty.kids], h⟩))
theorem pick_wf {p : ProgT} {f q : Nat} (n : Int) (hof : ∀ j : Nat, j < q → wfT p f (ofT (idK (1 + (j : Int))))) : wfT p (f + 2) (pickTy n q) := by
  have hr := around_lt n (4 + 2 * (q : Int)) (by omega)
  unfold pickTy
  split
  · exact wfT_bool p _
  split
  · exact wfT_listT (wfT_num p f)
  split
  · rename_i h4
    have e : (around n (4 + 2 * (q : Int)) - 4).tdiv 2 = (around n (4 + 2 * (q : Int)) - 4) / 2 := Int.tdiv_eq_ediv_of_nonneg (by omega)
    obtain ⟨j, hj⟩ := Int.eq_ofNat_of_zero_le (show 0 ≤ (around n (4 + 2 * (q : Int)) - 4) / 2 by omega)
    rw [e, hj]
    have h := hof j (by omega)
    split
    · exact wfT_mono (by omega) (wfT_listT h)
    · exact wfT_mono (by omega) h
  · exact wfT_num p _
theorem types_wf (l : List Int) : ∀ i : Nat, i < tMany l → wfT (typesP l) (3 * i + 3) (ofT (idK (1 + (i : Int)))) := by
  intro i
  induction i using Nat.strongRecOn with
  | _ i ih =>
    intro hi
    have hd := (types_def l hi).2
    rw [wfT]
    refine .inr (.inr (.inr ⟨by simp [ofT, Ty.kind], by simp [ofT, Ty.kind], by simp [ofT, Ty.kind], ?_⟩))
    have ha := tArity_rng l i
    rw [show (ofT (idK (1 + (i : Int)))).df = idK (1 + (i : Int)) from rfl, hd]
    have hs : (tDef l i).slots = tSlots l i (tArity l i) := rfl
    rw [hs, tSlots_len]
    refine ⟨by omega, fun _ => by omega, fun s hs => ?_⟩
    obtain ⟨j, _, rfl⟩ := List.mem_map.1 hs
    refine pick_wf (f := 3 * i) _ fun k hk => ?_
    exact wfT_mono (by omega) (ih k hk (by omega))
/-! ### Values of words -/
def Val.Fine (v : Val) : Prop := v.Ok ∧ v.Sm
end Xe

/- ZERO VALUES AND TURNED VALUES ARE OF WORDS. No program in sight. -/
namespace Xe
open Go
theorem Val.Fine.kid {v k : Val} (h : v.Fine) (hk : k ∈ v.kids) : k.Fine := ⟨h.1.kid hk, h.2.kid hk⟩
theorem zeroL_size {g : Ty → Int → ZR} (hg : ∀ t l, (g t l).2.1 = 0 → ((g t l).1.size : Int) + (g t l).2.2 ≤ l) : ∀ (ts : List Ty) (l : Int), (zeroL g ts l).2.1 = 0 → (Val.sizes (zeroL g ts l).1 : Int) + (zeroL g ts l).2.2 ≤ l
  | [], l, _ => by simp [zeroL, Val.sizes]
  | t :: ts, l, h => by
    rw [zeroL] at h ⊢
    by_cases h1 : (g t l).2.1 ≠ 0
    · rw [if_pos h1] at h; exact absurd h h1
    rw [if_neg h1] at h ⊢
    by_cases h2 : (zeroL g ts (g t l).2.2).2.1 ≠ 0
    · rw [if_pos h2] at h; exact absurd h h2
    rw [if_neg h2]
    have k1 := hg t l (by omega)
    have k2 := zeroL_size hg ts (g t l).2.2 (by omega)
    simp only [Val.sizes]
    omega
theorem zNode_size {k : Int} {r : List Val × Int × Int} {l : Int} (h : r.2.1 = 0 → (Val.sizes r.1 : Int) + r.2.2 ≤ l - 1) (h0 : (zNode k r).2.1 = 0) : ((zNode k r).1.size : Int) + (zNode k r).2.2 ≤ l := by
  unfold zNode at h0 ⊢
  by_cases h1 : r.2.1 ≠ 0
  · rw [if_pos h1] at h0; exact absurd h0 h1
  · rw [if_neg h1]
    have := h (by omega)
    simp only [Val.size]
    omega
theorem zeroF_size (p : ProgT) : ∀ (n : Nat) (t : Ty) (l : Int), (zeroF p n t l).2.1 = 0 → ((zeroF p n t l).1.size : Int) + (zeroF p n t l).2.2 ≤ l := by
  intro n
  induction n with
  | zero => intro t l h; rw [zeroF] at h; split at h <;> (simp at h)
  | succ n ih =>
    intro t l h
    rw [zeroF] at h ⊢
    split
    · rename_i h1; rw [if_pos h1] at h; simp at h
    rename_i h1; rw [if_neg h1] at h
    split
    · rename_i h2; rw [if_pos h2] at h; simp at h
    rename_i h2; rw [if_neg h2] at h
    split
    · simp [Val.size, Val.sizes]; omega
    rename_i h3; rw [if_neg h3] at h
    split
    · simp [Val.size, Val.sizes]; omega
    rename_i h4; rw [if_neg h4] at h
    split
    · simp [Val.size, Val.sizes]; omega
    rename_i h5; rw [if_neg h5] at h
    split
    · rename_i h6; rw [if_pos h6] at h
      split
      · rename_i h7; rw [if_pos h7] at h; simp at h
      · rename_i h7; rw [if_neg h7] at h
        exact zNode_size (zeroL_size ih _ _) h
    · rename_i h6; rw [if_neg h6] at h
      exact zNode_size (zeroL_size ih _ _) h
theorem zeroV_size (p : ProgT) (t : Ty) (h : (zeroV p t).2.1 = 0) : (zeroV p t).1.size ≤ 256 := by
  have h1 := zeroF_size p 24 t 256 h
  have h2 := (zeroF_left p 24 t 256 h).1
  unfold zeroV
  omega
end Xe

/- THE MADE VALUES ARE VALID; zero values; weights. No program in sight. -/
namespace Xe
open Go
/-! ### Small values -/
/-- What is asked of a zero value. -/
structure Zok (p : ProgT) (n : Nat) (t : Ty) (v : Val) : Prop where
  fits : fitsB p v t = true
  wt : v.wt = 0
  depth : v.depth ≤ n
/-- Zero of such a type takes so many nodes at most. -/
def zT (p : ProgT) : Nat → Ty → Nat → Prop
  | 0, _, _ => False
  | n + 1, t, c => validT p t ∧ ((t.kind = 0 ∨ t.kind = 1 ∨ t.kind = 2) ∧ 1 ≤ c ∨
    (t.kind = 3 ∧ (theDef p t.df).slots.length ≤ 3 ∧ ((theDef p t.df).kind = 1 → 0 < (theDef p t.df).slots.length) ∧ ∃ c', 1 + 3 * c' ≤ c ∧ ∀ s ∈ (theDef p t.df).slots, zT p n s.ty c'))
def vdT (p : ProgT) : Nat → Ty → Prop
  | 0, _ => False
  | n + 1, t => validT p t ∧ (t.kind = 2 → vdT p n (t.kids.headD ty0)) ∧ (t.kind = 3 → ∀ s ∈ (theDef p t.df).slots, vdT p n s.ty)
end Xe

/- THE VALUES OF THE MADE TYPES: valid, not deep, of no negative weight. No program in sight. -/
namespace Xe
open Go
def cZ : Nat → Nat
  | 0 => 4
  | i + 1 => 1 + 3 * cZ i
abbrev tyK (i : Nat) : Ty := ofT (idK (1 + (i : Int)))
end Xe

/- PARTS of made values. No program in sight. -/
namespace Xe
open Go
end Xe

/- A SLOT'S TYPE TURNED in a program; zero values that fail. No program in sight. -/
namespace Xe
open Go
/-- Cells put in the place of others. -/
theorem RdL.put {M : Mem} {ds es : List D} {us xs : List Value} (h : RdL M ds us) (hx : RdL M es xs) (q : Nat) (hq : q + xs.length ≤ us.length) :
    RdL M (ds.take q ++ (es ++ ds.drop (q + es.length))) (us.take q ++ (xs ++ us.drop (q + xs.length))) := by
  have hl := h.1
  have h1 : RdL M (ds.take q) (us.take q) := by
    have := h.cut 0 q
    rwa [List.drop_zero, List.drop_zero] at this
  have h2 : RdL M (ds.drop (q + es.length)) (us.drop (q + xs.length)) := by
    have := h.cut (q + es.length) (ds.length)
    rw [List.take_of_length_le (by simp), List.take_of_length_le (by simp [hl])] at this
    rw [hx.1]; exact this
  exact h1.append (hx.append h2)
def SlotT.withTy (s : SlotT) (t : Ty) : SlotT := { s with ty := t }
def DefT.withSlots (d : DefT) (l : List SlotT) : DefT := { d with slots := l }
end Xe

/- WIDE AND DEEP VALUES; the size of a turned value. No program in sight. -/
namespace Xe
open Go
def numsL (k : Nat) : List Val := (List.range k).map fun i : Nat => Val.mk 0 (i : Int) []
def dpV : Nat → Val
  | 0 => .mk 0 0 []
  | k + 1 => .mk 4 0 [dpV k]
end Xe

/- DIGITS of numbers; encodings of numbers are canonical. No program in sight. -/
namespace Xe
open Go
def digs (m j : Nat) : List Nat := (List.range j).map fun i => m / 256 ^ i % 256
def intOf (h W : Nat) : Int := if h < 128 then -1 - (W : Int) else (W : Int)
end Xe

/- ENCODINGS: their lengths, their bytes; deep values over a leaf. No program in sight. -/
namespace Xe
open Go
def dqV (n : Int) : Nat → Val
  | 0 => .mk 0 n []
  | k + 1 => .mk 4 0 [dqV n k]
end Xe

/- EVALUATION as a plain function. No program in sight. -/
namespace Xe
open Go
/-- Numbers of the language. -/
def InR (z : Int) : Prop := -1099511627776 ≤ z ∧ z ≤ 1099511627776
instance (z : Int) : Decidable (InR z) := by unfold InR; exact inferInstance
def clipI (z : Int) : Int := min (max z (-1099511627776)) 1099511627776
def absI (z : Int) : Int := max z (-z)
def timesI (a b : Int) : Int := if a = 0 ∨ b = 0 then 0 else if Int.tdiv 1099511627776 (absI b) < absI a then (if (a < 0 ↔ b < 0) then 1099511627776 else -1099511627776) else a * b
def divI (a b : Int) : Int := if b = 0 then 0 else if a.tmod b ≠ 0 ∧ ¬ (a < 0 ↔ b < 0) then a.tdiv b - 1 else a.tdiv b
def restI (a b : Int) : Int := if b = 0 then 0 else a - b * divI a b
def numI (n a b : Int) : Int := if n = 0 then clipI (a + b) else if n = 1 then clipI (a - b) else if n = 2 then timesI a b else if n = 3 then divI a b else restI a b
def truthV (p : Prop) [Decidable p] : Val := if p then .mk 1 1 [] else .mk 1 0 []
/-- An operation of two values; none: its numbers are not of the language. -/
def op2V (n : Int) (x y : Val) : Option Val :=
  if 0 ≤ n ∧ n < 5 then (if InR x.n ∧ InR y.n then some (.mk 0 (numI n x.n y.n) []) else none)
  else if n = 5 then some (truthV (x.n < y.n))
  else if n = 6 then some (truthV (cmpV x y = 0))
  else if n = 7 then some (truthV (x.n ≠ 0 ∧ y.n ≠ 0))
  else if n = 8 then some (truthV (x.n ≠ 0 ∨ y.n ≠ 0))
  else if n = 10 then some (.mk 4 0 (x.kids ++ y.kids))
  else some v0
def op1V (n : Int) (x : Val) : Val := if n = 9 then truthV (x.n = 0) else if n = 11 then .mk 0 x.kids.length [] else v0
/-- An operation; none: not covered. -/
def opV (n : Int) : List Val → Option Val
  | [x, y] => op2V n x y
  | [x] => if n = 9 ∨ n = 11 then some (op1V n x) else none
  | _ => none
/-! ### Evaluation -/
abbrev Env := List (IdT × Int × Val)
def envFind (env : Env) (id : IdT) (n : Int) : Val := match env.find? (fun x => decide (x.1 = id ∧ x.2.1 = n)) with
  | some x => x.2.2
  | none => v0
/-- A value and the steps; an error; not covered (the code would index what is not there, or numbers are not of the language). -/
inductive EO where
  | ok (v : Val) (s : Int)
  | err (e : Int)
  | bad
inductive AE where
  | ok (l : List Val) (s : Int)
  | err (e : Int)
  | bad
def EO.bind : EO → (Val → Int → EO) → EO
  | .ok v s, k => k v s
  | .err e, _ => .err e
  | .bad, _ => .bad
def AE.bind : AE → (List Val → Int → EO) → EO
  | .ok v s, k => k v s
  | .err e, _ => .err e
  | .bad, _ => .bad
def allF (g : Ex → Int → EO) : List Ex → Int → AE
  | [], s => .ok [] s
  | e :: es, s => match g e s with
    | .ok v s1 => (match allF g es s1 with
      | .ok l s2 => .ok (v :: l) s2
      | .err x => .err x
      | .bad => .bad)
    | .err x => .err x
    | .bad => .bad
/-- No more nodes than are ever written. -/
def allK (g : Ex → Int → EO) (l : List Ex) (s : Int) : AE := if 1000000 < l.length then .bad else allF g l s
def foldF (g : Val → Val → Int → EO) : List Val → Val → Int → EO
  | [], acc, s => .ok acc s
  | x :: xs, acc, s => (g x acc s).bind fun a s1 => foldF g xs a s1
def argEnv : List SlotT → List Val → Env → Option Env
  | [], _, env => some env
  | _ :: _, [], _ => none
  | s :: ss, a :: al, env => argEnv ss al ((s.id, 0, a) :: env)
def okOpt (o : Option Val) (s : Int) : EO := match o with
  | some v => .ok v s
  | none => .bad
/-- g: how a kid is evaluated. -/
def kidF (g : Ex → Env → Int → EO) (l : List Ex) (k : Int) (env : Env) (s : Int) : EO := if 0 ≤ k then (match l[k.toNat]? with
    | some e => g e env s
    | none => .bad) else .bad
def branchF (g : Ex → Env → Int → EO) (e : Ex) (env : Env) (v : Val) (s : Int) : EO :=
  if e.kind = 5 then (if v.n ≠ 0 then kidF g e.kids 1 env s else kidF g e.kids 2 env s)
  else if e.kind = 6 then kidF g e.kids 1 ((e.id, 0, v) :: env) s
  else if e.kind = 8 then (if 0 ≤ e.n then okOpt v.kids[e.n.toNat]? s else .bad)
  else if e.kind = 10 then (match v.kids[0]? with
    | some x => if -4611686018427387904 ≤ v.n ∧ v.n ≤ 4611686018427387904 then kidF g e.kids (1 + v.n) ((e.id, v.n, x) :: env) s else .bad
    | none => .bad)
  else (kidF g e.kids 1 env s).bind fun acc s1 => foldF (fun x a s2 => kidF g e.kids 2 ((e.id, 1, a) :: (e.id, 0, x) :: env) s2) v.kids acc s1
def valueF (p : ProgT) (g : Ex → Env → Int → EO) (e : Ex) (env : Env) (s : Int) : EO :=
  if e.kind = 0 then .ok (.mk 0 e.n []) s
  else if e.kind = 1 then .ok (truthV (e.n ≠ 0)) s
  else if e.kind = 2 then .ok (envFind env e.ref e.n) s
  else if e.kind = 3 then (allK (fun x s => g x env s) e.kids s).bind fun l s1 => (match argEnv (theDef p e.ref).slots l [] with
    | some env2 => g (theDef p e.ref).body env2 s1
    | none => .bad)
  else if e.kind = 4 then (allK (fun x s => g x env s) e.kids s).bind fun l s1 => okOpt (opV e.n l) s1
  else if e.kind = 7 then (allK (fun x s => g x env s) e.kids s).bind fun l s1 => .ok (.mk 2 0 l) s1
  else if e.kind = 9 then (allK (fun x s => g x env s) e.kids s).bind fun l s1 => .ok (.mk 3 e.n l) s1
  else if e.kind = 11 then (allK (fun x s => g x env s) e.kids s).bind fun l s1 => .ok (.mk 4 0 l) s1
  else (kidF g e.kids 0 env s).bind fun v s1 => branchF g e env v s1
def chkV (v : Val) (s : Int) : EO := if 1152921504606846976 < v.size then .bad else if 256 < v.size ∨ 24 < v.depth then .err 4 else .ok v s
def evalF (p : ProgT) (F : Int) : Nat → Ex → Env → Int → EO
  | 0, _, _, s => if F ≤ s then .err 18 else .bad
  | g + 1, e, env, s => if F ≤ s then .err 18 else (valueF p (evalF p F g) e env (s + 1)).bind chkV
/-- A call of a definition. -/
def callF (p : ProgT) (F : Int) (g : Nat) (d : DefT) (args : List Val) (s : Int) : EO := match argEnv d.slots args [] with
  | some env => evalF p F g d.body env s
  | none => .bad
/-- What comes out has few nodes and is not deep. -/
theorem evalF_small {p : ProgT} {F : Int} {g : Nat} {e : Ex} {env : Env} {s s' : Int} {v : Val} (h : evalF p F g e env s = .ok v s') : v.size ≤ 256 ∧ v.depth ≤ 24 := by
  cases g with
  | zero => rw [evalF] at h; split at h <;> cases h
  | succ g =>
    rw [evalF] at h
    split at h
    · cases h
    · generalize valueF p (evalF p F g) e env (s + 1) = r at h
      cases r with
      | ok u s1 =>
        rw [EO.bind, chkV] at h
        split at h
        · cases h
        · split at h
          · cases h
          · injection h with h1 _
            subst h1
            omega
      | err x => cases h
      | bad => cases h
end Xe

/- NUMBERS of the language, plain. No program in sight. -/
namespace Xe
open Go
def edgesN : List Int := [-1099511627776, 1099511627776, -1099511627775, 1048576, -1048577, 0, -1]
def numberF (n : Int) : Int := if n.tmod 3 = 0 then edgesN.getD (around n 7).toNat 0 else clipI n
theorem clip_in (n : Int) : InR (clipI n) := by unfold InR clipI; omega
theorem edges_in : ∀ k, k < 7 → InR (edgesN.getD k 0) := by decide
theorem number_in (n : Int) : InR (numberF n) := by
  unfold numberF
  split
  · have h := around_lt n 7 (by omega)
    exact edges_in _ (by omega)
  · exact clip_in n
theorem mul_bnd {x y A B : Int} (hx : 0 ≤ x) (hy : 0 ≤ y) (hA : x ≤ A) (hB : y ≤ B) : 0 ≤ x * y ∧ x * y ≤ A * B :=
  ⟨Int.mul_nonneg hx hy, Int.le_trans (Int.mul_le_mul_of_nonneg_right hA hy) (Int.mul_le_mul_of_nonneg_left hB (Int.le_trans hx hA))⟩
theorem abs_mul' (a b : Int) : absI (a * b) = absI a * absI b := by
  unfold absI
  rcases Int.le_total 0 a with h1 | h1 <;> rcases Int.le_total 0 b with h2 | h2
  · have := Int.mul_nonneg h1 h2
    rw [show max (a * b) (-(a * b)) = a * b by omega, show max a (-a) = a by omega, show max b (-b) = b by omega]
  · have := Int.mul_nonneg h1 (show 0 ≤ -b by omega)
    rw [Int.mul_neg] at this
    rw [show max (a * b) (-(a * b)) = -(a * b) by omega, show max a (-a) = a by omega, show max b (-b) = -b by omega, Int.mul_neg]
  · have := Int.mul_nonneg (show 0 ≤ -a by omega) h2
    rw [Int.neg_mul] at this
    rw [show max (a * b) (-(a * b)) = -(a * b) by omega, show max a (-a) = -a by omega, show max b (-b) = b by omega, Int.neg_mul]
  · have := Int.mul_nonneg (show 0 ≤ -a by omega) (show 0 ≤ -b by omega)
    rw [Int.neg_mul_neg] at this
    rw [show max (a * b) (-(a * b)) = a * b by omega, show max a (-a) = -a by omega, show max b (-b) = -b by omega, Int.neg_mul_neg]
theorem sgn_mul {a b : Int} (ha : a ≠ 0) (hb : b ≠ 0) : (0 < a * b ↔ (a < 0 ↔ b < 0)) := by
  rcases Int.lt_or_gt_of_ne ha with h1 | h1 <;> rcases Int.lt_or_gt_of_ne hb with h2 | h2
  · have := Int.mul_pos (show 0 < -a by omega) (show 0 < -b by omega)
    rw [Int.neg_mul_neg] at this
    constructor
    · intro _; omega
    · intro _; exact this
  · have := Int.mul_pos (show 0 < -a by omega) h2
    rw [Int.neg_mul] at this
    constructor <;> intro h <;> omega
  · have := Int.mul_pos h1 (show 0 < -b by omega)
    rw [Int.mul_neg] at this
    constructor <;> intro h <;> omega
  · have := Int.mul_pos h1 h2
    constructor
    · intro _; omega
    · intro _; exact this
theorem times_clip (a b : Int) : timesI a b = clipI (a * b) := by
  unfold timesI
  by_cases h0 : a = 0 ∨ b = 0
  · rw [if_pos h0]
    rcases h0 with rfl | rfl <;> simp [clipI] <;> decide
  · rw [if_neg h0]
    have hb : 0 < absI b := by unfold absI; omega
    have hm := abs_mul' a b
    have hs := sgn_mul (a := a) (b := b) (by omega) (by omega)
    have hd : Int.tdiv 1099511627776 (absI b) < absI a ↔ 1099511627776 < absI a * absI b := by
      rw [Int.tdiv_eq_ediv_of_nonneg (by omega)]
      exact Int.ediv_lt_iff_lt_mul hb
    simp only [hd]
    unfold clipI
    unfold absI at hm
    by_cases h1 : 1099511627776 < absI a * absI b
    · rw [if_pos h1]
      unfold absI at h1
      rw [← hm] at h1
      by_cases h2 : (a < 0 ↔ b < 0)
      · rw [if_pos h2]
        have := hs.2 h2
        omega
      · rw [if_neg h2]
        have : ¬ 0 < a * b := fun h => h2 (hs.1 h)
        omega
    · rw [if_neg h1]
      unfold absI at h1
      rw [← hm] at h1
      omega
theorem times_in (a b : Int) : InR (timesI a b) := times_clip a b ▸ clip_in _
theorem quo_le (a b : Int) : absI (a.tdiv b) ≤ absI a := by
  have h := Int.natAbs_tdiv_le_natAbs a b
  unfold absI
  omega
theorem quo_le' {a b : Int} (h : InR a) : InR (a.tdiv b) := by
  have := quo_le a b
  unfold InR at *
  unfold absI at this
  omega
theorem prod_lo {a b s x y : Int} (hx : 0 ≤ x ∧ x ≤ 1099511627776) (hy : 0 ≤ y ∧ y ≤ 1099511627776) (hs : s = 1 ∨ s = -1) (he : a * b = s * (x * y)) :
    s * clipI (x.tdiv 1048576 * y * 1048576 + x.tmod 1048576 * y) = clipI (a * b) := by
  have h : x.tdiv 1048576 * y * 1048576 + x.tmod 1048576 * y = x * y := by
    rw [Int.mul_right_comm, ← Int.add_mul, Int.mul_comm (x.tdiv 1048576), Int.mul_tdiv_add_tmod]
  rw [h, he]
  unfold clipI
  rcases hs with rfl | rfl <;> omega
theorem prod_hi {a b s x y : Int} (hx : 0 ≤ x ∧ x ≤ 1099511627776) (hy : 0 ≤ y ∧ y ≤ 1099511627776) (hs : s = 1 ∨ s = -1) (he : a * b = s * (x * y)) (hh : 1099511627776 < x.tdiv 1048576 * y) :
    s * 1099511627776 = clipI (a * b) := by
  have h : x.tdiv 1048576 * y * 1048576 + x.tmod 1048576 * y = x * y := by
    rw [Int.mul_right_comm, ← Int.add_mul, Int.mul_comm (x.tdiv 1048576), Int.mul_tdiv_add_tmod]
  have h2 := Int.mul_nonneg (Int.tmod_nonneg 1048576 hx.1) hy.1
  rw [he]
  unfold clipI
  rcases hs with rfl | rfl <;> omega
theorem floor_iff {a b : Int} (hb : b ≠ 0) : (a.tdiv b * b ≠ a ↔ a.tmod b ≠ 0) := by
  have hd := Int.mul_tdiv_add_tmod a b
  rw [Int.mul_comm] at hd
  omega
theorem tmod_bnd {a b : Int} (hb : b ≠ 0) : -absI b < a.tmod b ∧ a.tmod b < absI b := by
  have h := Int.natAbs_tmod a b
  have h2 := Nat.mod_lt a.natAbs (show b.natAbs > 0 by omega)
  unfold absI
  omega
theorem bquo_bnd {a b : Int} (hb : b ≠ 0) (ha : InR a) (hbi : InR b) : -2199023255552 ≤ a.tdiv b * b ∧ a.tdiv b * b ≤ 2199023255552 := by
  have hd := Int.mul_tdiv_add_tmod a b
  have hm := tmod_bnd (a := a) hb
  rw [Int.mul_comm] at hd
  unfold InR at *
  unfold absI at hm
  omega
theorem bdiv_bnd {a b : Int} (hb : b ≠ 0) (ha : InR a) (hbi : InR b) : -3298534883328 ≤ b * divI a b ∧ b * divI a b ≤ 3298534883328 := by
  have hd := Int.mul_tdiv_add_tmod a b
  have hm := tmod_bnd (a := a) hb
  unfold InR at *
  unfold absI at hm
  unfold divI
  rw [if_neg hb]
  split
  · rw [Int.mul_sub]
    omega
  · omega
end Xe

/- THE WALKS of evaluation, 1: numbers. Printed by m11a.py. -/
namespace Go.Proofs.YtanbipbiblikbaaDoor
open Xe

theorem etruthP (w0 : World) (M : Mem) (Γ : List As) (p : Prop) [Decidable p] :
    CallOk Tryd.prog w0 M Γ 31 #[.bool (decide p)] (Is M Γ (.agg [vint 1, vint (if p then 1 else 0), .slice none 0 0].toArray)) := by
  refine enterCell (f := 31) Tryd.func31 rfl Tryd.ntmps31 rfl rfl fun w1 hw1 => ?_
  refine CW.seq fun K1 hK1 => ?_
  refine CW.region ?_
  refine RL.alloc _ zero26 rfl rfl fun b2 => ?_
  refine RL.nil ?_
  refine hK1 _ _ _ ?_
  refine CW.kp [0, 2] rfl ?_
  refine CW.seq fun K2 hK2 => ?_
  refine CW.seq fun K3 hK3 => ?_
  refine CW.region ?_
  refine RL.q (Y.move rfl) rfl ?_
  refine RL.nil ?_
  refine hK3 _ _ _ ?_
  refine CW.kp [2, 3] rfl ?_
  refine CW.ite rfl (fun h1 => ?_) (fun h1 => ?_)
  ·refine CW.seq fun K4 hK4 => ?_
   refine CW.region ?_
   refine RL.q (Y.build [_, _, _] rfl zero26 places26 (by rfl)) rfl ?_
   first | refine RL.storeRds 3 rfl rfl RP MM EL (by first | exact Kn.lenRds MM EL | exact Kn.lenLit rfl) size26 ?_ | refine RL.storeAgg _ rfl rfl RP (by rfl) (by first | (simp; done) | simp [IdT.vals]) (by first | (simp [Value.oneCell']; done) | simp [Value.oneCell', IdT.vals]) size26 ?_
   refine RL.nil ?_
   refine hK4 _ _ _ ?_
   refine CW.kp [2] rfl ?_
   refine CW.ret ?_
   rw [if_pos h1]
   exact CellAt.mk rfl MM (by first | rfl | assumption) agg26 (Turn.drop ⟨rfl, rfl, rfl⟩ SB)
  refine CW.skip ?_
  refine hK2 _ _ _ ?_
  refine CW.seq fun K5 hK5 => ?_
  refine CW.region ?_
  refine RL.q (Y.build [_, _, _] rfl zero26 places26 (by rfl)) rfl ?_
  first | refine RL.storeRds 3 rfl rfl RP MM EL (by first | exact Kn.lenRds MM EL | exact Kn.lenLit rfl) size26 ?_ | refine RL.storeAgg _ rfl rfl RP (by rfl) (by first | (simp; done) | simp [IdT.vals]) (by first | (simp [Value.oneCell']; done) | simp [Value.oneCell', IdT.vals]) size26 ?_
  refine RL.nil ?_
  refine hK5 _ _ _ ?_
  refine CW.kp [2] rfl ?_
  refine CW.ret ?_
  rw [if_neg h1]
  exact CellAt.mk rfl MM (by first | rfl | assumption) agg26 (Turn.drop ⟨rfl, rfl, rfl⟩ SB)

theorem etruth_ok (w0 : World) (M : Mem) (Γ : List As) (b : Bool) :
    CallOk Tryd.prog w0 M Γ 31 #[.bool b] (Is M Γ (.agg [vint 1, vint (if b = true then 1 else 0), .slice none 0 0].toArray)) := by simpa using etruthP w0 M Γ (b = true)

theorem rtruthP (w0 : World) (M : Mem) (Γ : List As) (p : Prop) [Decidable p] :
    CallOk Tryd.prog w0 M Γ 35 #[.bool (decide p)] (Is M Γ (.agg [vint 1, vint (if p then 1 else 0), .slice none 0 0].toArray)) := by
  refine enterCell (f := 35) Tryd.func35 rfl Tryd.ntmps35 rfl rfl fun w1 hw1 => ?_
  refine CW.seq fun K1 hK1 => ?_
  refine CW.region ?_
  refine RL.alloc _ zero26 rfl rfl fun b2 => ?_
  refine RL.nil ?_
  refine hK1 _ _ _ ?_
  refine CW.kp [0, 2] rfl ?_
  refine CW.seq fun K2 hK2 => ?_
  refine CW.seq fun K3 hK3 => ?_
  refine CW.region ?_
  refine RL.q (Y.move rfl) rfl ?_
  refine RL.nil ?_
  refine hK3 _ _ _ ?_
  refine CW.kp [2, 3] rfl ?_
  refine CW.ite rfl (fun h1 => ?_) (fun h1 => ?_)
  ·refine CW.seq fun K4 hK4 => ?_
   refine CW.region ?_
   refine RL.q (Y.build [_, _, _] rfl zero26 places26 (by rfl)) rfl ?_
   first | refine RL.storeRds 3 rfl rfl RP MM EL (by first | exact Kn.lenRds MM EL | exact Kn.lenLit rfl) size26 ?_ | refine RL.storeAgg _ rfl rfl RP (by rfl) (by first | (simp; done) | simp [IdT.vals]) (by first | (simp [Value.oneCell']; done) | simp [Value.oneCell', IdT.vals]) size26 ?_
   refine RL.nil ?_
   refine hK4 _ _ _ ?_
   refine CW.kp [2] rfl ?_
   refine CW.ret ?_
   rw [if_pos h1]
   exact CellAt.mk rfl MM (by first | rfl | assumption) agg26 (Turn.drop ⟨rfl, rfl, rfl⟩ SB)
  refine CW.skip ?_
  refine hK2 _ _ _ ?_
  refine CW.seq fun K5 hK5 => ?_
  refine CW.region ?_
  refine RL.q (Y.build [_, _, _] rfl zero26 places26 (by rfl)) rfl ?_
  first | refine RL.storeRds 3 rfl rfl RP MM EL (by first | exact Kn.lenRds MM EL | exact Kn.lenLit rfl) size26 ?_ | refine RL.storeAgg _ rfl rfl RP (by rfl) (by first | (simp; done) | simp [IdT.vals]) (by first | (simp [Value.oneCell']; done) | simp [Value.oneCell', IdT.vals]) size26 ?_
  refine RL.nil ?_
  refine hK5 _ _ _ ?_
  refine CW.kp [2] rfl ?_
  refine CW.ret ?_
  rw [if_neg h1]
  exact CellAt.mk rfl MM (by first | rfl | assumption) agg26 (Turn.drop ⟨rfl, rfl, rfl⟩ SB)

theorem rtruth_ok (w0 : World) (M : Mem) (Γ : List As) (b : Bool) :
    CallOk Tryd.prog w0 M Γ 35 #[.bool b] (Is M Γ (.agg [vint 1, vint (if b = true then 1 else 0), .slice none 0 0].toArray)) := by simpa using rtruthP w0 M Γ (b = true)

theorem clip_ok (w0 : World) (M : Mem) (Γ : List As) (n : Int)    :
    CallOk Tryd.prog w0 M Γ 56 #[vint n] (Is M Γ (vint (clipI n))) := by
  refine enter (f := 56) Tryd.func56 rfl Tryd.ntmps56 rfl rfl fun w1 hw1 => ?_
  refine CW.seq fun K1 hK1 => ?_
  refine CW.region ?_
  refine RL.q (Y.assign rfl) rfl ?_
  refine RL.nil ?_
  refine hK1 _ _ _ ?_
  refine CW.kp [0] rfl ?_
  refine CW.seq fun K2 hK2 => ?_
  refine CW.region ?_
  refine RL.q (Y.move rfl) rfl ?_
  refine RL.q (Y.max2 rfl rfl) rfl ?_
  refine RL.q (Y.min2 rfl rfl) rfl ?_
  refine RL.q (Y.assign rfl) rfl ?_
  refine RL.nil ?_
  refine hK2 _ _ _ ?_
  refine CW.kp [2] rfl ?_
  refine CW.ret ?_
  exact ⟨_, rfl, Turn.drop ⟨rfl, rfl, rfl⟩ SB⟩

theorem rclip_ok (w0 : World) (M : Mem) (Γ : List As) (n : Int)    :
    CallOk Tryd.prog w0 M Γ 36 #[vint n] (Is M Γ (vint (clipI n))) := by
  refine enter (f := 36) Tryd.func36 rfl Tryd.ntmps36 rfl rfl fun w1 hw1 => ?_
  refine CW.seq fun K1 hK1 => ?_
  refine CW.region ?_
  refine RL.q (Y.assign rfl) rfl ?_
  refine RL.nil ?_
  refine hK1 _ _ _ ?_
  refine CW.kp [0] rfl ?_
  refine CW.seq fun K2 hK2 => ?_
  refine CW.region ?_
  refine RL.q (Y.move rfl) rfl ?_
  refine RL.q (Y.max2 rfl rfl) rfl ?_
  refine RL.q (Y.min2 rfl rfl) rfl ?_
  refine RL.q (Y.assign rfl) rfl ?_
  refine RL.nil ?_
  refine hK2 _ _ _ ?_
  refine CW.kp [2] rfl ?_
  refine CW.ret ?_
  exact ⟨_, rfl, Turn.drop ⟨rfl, rfl, rfl⟩ SB⟩

theorem same_ok (w0 : World) (M : Mem) (Γ : List As) (a : Val) (usa : List Value) (b : Val) (usb : List Value)  (ha : Kn w0 M Γ (RdL M a.enc usa)) (hb : Kn w0 M Γ (RdL M b.enc usb))  :
    CallOk Tryd.prog w0 M Γ 11 #[.agg usa.toArray, .agg usb.toArray] (Is M Γ (.bool (decide (cmpV a b = 0)))) := by
  refine CallOk.kn ha fun ha => ?_
  rw [Val.enc_eq] at ha
  refine CallOk.kn hb fun hb => ?_
  rw [Val.enc_eq] at hb
  refine enter (f := 11) Tryd.func11 rfl Tryd.ntmps11 rfl rfl fun w1 hw1 => ?_
  refine CW.addRds ha ?_
  refine CW.addRds hb ?_
  refine CW.seq fun K1 hK1 => ?_
  refine CW.region ?_
  refine RL.box _ rfl rfl rfl fun b2 => ?_
  refine RL.box _ rfl rfl rfl fun b3 => ?_
  refine RL.q (Y.assign rfl) rfl ?_
  refine RL.nil ?_
  refine hK1 _ _ _ ?_
  refine CW.kp [2, 3] rfl ?_
  refine CW.seq fun K2 hK2 => ?_
  refine CW.region ?_
  first | refine RL.q (Y.loadAllR rfl MM MM EL agg26) rfl ?_ | refine RL.q (Y.loadAll rfl MM (by rfl) agg26) rfl ?_ | refine RL.loadPart rfl rfl MM MM (by rfl) (by rfl) agg26 rfl fun us5 hul5 hur5 => ?_
  first | refine RL.q (Y.loadAllR rfl MM MM EL agg26) rfl ?_ | refine RL.q (Y.loadAll rfl MM (by rfl) agg26) rfl ?_ | refine RL.loadPart rfl rfl MM MM (by rfl) (by rfl) agg26 rfl fun us6 hul6 hur6 => ?_
  refine RL.callv rfl func30 rfl rfl (by exact rcmpV_ok _ _ _ _ _ _ _ _ rfl KK KK) ?_
  refine RL.q (Y.eql rfl rfl) rfl ?_
  refine RL.q (Y.assign rfl) rfl ?_
  refine RL.nil ?_
  refine hK2 _ _ _ ?_
  refine CW.kp [4] rfl ?_
  refine CW.ret ?_
  exact ⟨_, rfl, Turn.drop ⟨rfl, rfl, rfl⟩ SB⟩

theorem add_ok (w0 : World) (M : Mem) (Γ : List As) (a : Int) (b : Int)   (hai : InR a) (hbi : InR b) :
    CallOk Tryd.prog w0 M Γ 132 #[vint a, vint b] (Is M Γ (vint (clipI (a + b)))) := by
  have hai2 := hai
  have hbi2 := hbi
  unfold InR at hai2 hbi2
  refine enter (f := 132) Tryd.func132 rfl Tryd.ntmps132 rfl rfl fun w1 hw1 => ?_
  refine CW.seq fun K1 hK1 => ?_
  refine CW.region ?_
  refine RL.q (Y.assign rfl) rfl ?_
  refine RL.nil ?_
  refine hK1 _ _ _ ?_
  refine CW.kp [0, 1] rfl ?_
  refine CW.seq fun K2 hK2 => ?_
  refine CW.region ?_
  refine RL.q (Y.move rfl) rfl ?_
  refine RL.q (Y.move rfl) rfl ?_
  refine RL.q (Y.add rfl rfl OM) rfl ?_
  refine RL.callv rfl func56 rfl rfl (by exact clip_ok _ _ _ _) ?_
  refine RL.q (Y.assign rfl) rfl ?_
  refine RL.nil ?_
  refine hK2 _ _ _ ?_
  refine CW.kp [4] rfl ?_
  refine CW.ret ?_
  exact ⟨_, rfl, Turn.drop ⟨rfl, rfl, rfl⟩ SB⟩

theorem sub_ok (w0 : World) (M : Mem) (Γ : List As) (a : Int) (b : Int)   (hai : InR a) (hbi : InR b) :
    CallOk Tryd.prog w0 M Γ 133 #[vint a, vint b] (Is M Γ (vint (clipI (a - b)))) := by
  have hai2 := hai
  have hbi2 := hbi
  unfold InR at hai2 hbi2
  refine enter (f := 133) Tryd.func133 rfl Tryd.ntmps133 rfl rfl fun w1 hw1 => ?_
  refine CW.seq fun K1 hK1 => ?_
  refine CW.region ?_
  refine RL.q (Y.assign rfl) rfl ?_
  refine RL.nil ?_
  refine hK1 _ _ _ ?_
  refine CW.kp [0, 1] rfl ?_
  refine CW.seq fun K2 hK2 => ?_
  refine CW.region ?_
  refine RL.q (Y.move rfl) rfl ?_
  refine RL.q (Y.move rfl) rfl ?_
  refine RL.q (Y.sub rfl rfl OM) rfl ?_
  refine RL.callv rfl func56 rfl rfl (by exact clip_ok _ _ _ _) ?_
  refine RL.q (Y.assign rfl) rfl ?_
  refine RL.nil ?_
  refine hK2 _ _ _ ?_
  refine CW.kp [4] rfl ?_
  refine CW.ret ?_
  exact ⟨_, rfl, Turn.drop ⟨rfl, rfl, rfl⟩ SB⟩

theorem times_ok (w0 : World) (M : Mem) (Γ : List As) (a : Int) (b : Int)   (hai : InR a) (hbi : InR b) :
    CallOk Tryd.prog w0 M Γ 134 #[vint a, vint b] (Is M Γ (vint (timesI a b))) := by
  have hai2 := hai
  have hbi2 := hbi
  unfold InR at hai2 hbi2
  refine enter (f := 134) Tryd.func134 rfl Tryd.ntmps134 rfl rfl fun w1 hw1 => ?_
  refine CW.seq fun K1 hK1 => ?_
  refine CW.region ?_
  refine RL.q (Y.assign rfl) rfl ?_
  refine RL.nil ?_
  refine hK1 _ _ _ ?_
  refine CW.kp [0, 1] rfl ?_
  refine CW.seq fun K2 hK2 => ?_
  refine CW.seq fun K3 hK3 => ?_
  refine CW.region ?_
  refine RL.q (Y.move rfl) rfl ?_
  refine RL.qs (Y.eql rfl rfl) rfl (fun g6 => ?_) (fun g6 => ?_)
  ·refine RL.q (Y.move rfl) rfl ?_
   refine RL.no WG rfl ?_
   refine RL.no WG rfl ?_
   refine RL.q (Y.pickT rfl rfl) rfl ?_
   refine RL.nil ?_
   refine hK3 _ _ _ ?_
   refine CW.kp [0, 1, 10] rfl ?_
   refine CW.yes rfl ?_
   refine CW.seq fun K4 hK4 => ?_
   refine CW.region ?_
   refine RL.q (Y.assign rfl) rfl ?_
   refine RL.nil ?_
   refine hK4 _ _ _ ?_
   refine CW.kp [4] rfl ?_
   refine CW.ret ?_
   first | exact ⟨_, rfl, Turn.drop ⟨(by first | (rw [timesI, if_pos OM]; done) | fail), rfl, rfl⟩ SB⟩
  refine RL.q (Y.move rfl) rfl ?_
  refine RL.qg WG (Y.move rfl) rfl ?_
  refine RL.qg WG (Y.eql rfl rfl) rfl ?_
  refine RL.q (Y.pickF rfl rfl) rfl ?_
  refine RL.nil ?_
  refine hK3 _ _ _ ?_
  refine CW.kp [0, 1, 10] rfl ?_
  refine CW.ite rfl (fun h1 => ?_) (fun h1 => ?_)
  ·refine CW.seq fun K5 hK5 => ?_
   refine CW.region ?_
   refine RL.q (Y.assign rfl) rfl ?_
   refine RL.nil ?_
   refine hK5 _ _ _ ?_
   refine CW.kp [4] rfl ?_
   refine CW.ret ?_
   first | exact ⟨_, rfl, Turn.drop ⟨(by first | (rw [timesI, if_pos OM]; done) | fail), rfl, rfl⟩ SB⟩
  refine CW.skip ?_
  refine hK2 _ _ _ ?_
  refine CW.seq fun K6 hK6 => ?_
  refine CW.seq fun K7 hK7 => ?_
  have hbq : 0 < max b (-b) := by omega
  have hdq : Int.tdiv 1099511627776 (max b (-b)) = 1099511627776 / (max b (-b)) := Int.tdiv_eq_ediv_of_nonneg OM
  have hdr : 0 ≤ 1099511627776 / (max b (-b)) ∧ 1099511627776 / (max b (-b)) ≤ 1099511627776 := ⟨Int.ediv_nonneg OM OM, Int.ediv_le_self _ OM⟩
  refine CW.region ?_
  refine RL.q (Y.move rfl) rfl ?_
  refine RL.q (Y.move rfl) rfl ?_
  refine RL.q (Y.neg rfl OM) rfl ?_
  refine RL.q (Y.max2 rfl rfl) rfl ?_
  refine RL.q (Y.move rfl) rfl ?_
  refine RL.q (Y.move rfl) rfl ?_
  refine RL.q (Y.neg rfl OM) rfl ?_
  refine RL.q (Y.max2 rfl rfl) rfl ?_
  refine RL.q (Y.quo rfl rfl OM OM) rfl ?_
  refine RL.q (Y.gtr rfl rfl) rfl ?_
  refine RL.nil ?_
  refine hK7 _ _ _ ?_
  refine CW.kp [0, 1, 20] rfl ?_
  refine CW.ite rfl (fun h2 => ?_) (fun h2 => ?_)
  ·refine CW.seq fun K8 hK8 => ?_
   refine CW.seq fun K9 hK9 => ?_
   refine CW.region ?_
   refine RL.q (Y.move rfl) rfl ?_
   refine RL.q (Y.lss rfl rfl) rfl ?_
   refine RL.q (Y.move rfl) rfl ?_
   refine RL.q (Y.lss rfl rfl) rfl ?_
   refine RL.q (Y.eqlBB Tryd.underlying4 rfl rfl) rfl ?_
   refine RL.nil ?_
   refine hK9 _ _ _ ?_
   refine CW.kp [25] rfl ?_
   refine CW.ite rfl (fun h3 => ?_) (fun h3 => ?_)
   ·refine CW.seq fun K10 hK10 => ?_
    refine CW.region ?_
    refine RL.q (Y.assign rfl) rfl ?_
    refine RL.nil ?_
    refine hK10 _ _ _ ?_
    refine CW.kp [4] rfl ?_
    refine CW.ret ?_
    have c0 : ¬ (a = 0 ∨ b = 0) := by omega
    have c1 : Int.tdiv 1099511627776 (absI b) < absI a := by unfold absI; omega
    rw [timesI, if_neg c0, if_pos c1, if_pos (decide_eq_decide.1 h3)]
    exact ⟨_, rfl, Turn.drop ⟨rfl, rfl, rfl⟩ SB⟩
   refine CW.skip ?_
   refine hK8 _ _ _ ?_
   refine CW.seq fun K11 hK11 => ?_
   refine CW.region ?_
   refine RL.q (Y.assign rfl) rfl ?_
   refine RL.nil ?_
   refine hK11 _ _ _ ?_
   refine CW.kp [4] rfl ?_
   refine CW.ret ?_
   have c0 : ¬ (a = 0 ∨ b = 0) := by omega
   have c1 : Int.tdiv 1099511627776 (absI b) < absI a := by unfold absI; omega
   rw [timesI, if_neg c0, if_pos c1, if_neg (fun h => h3 (decide_eq_decide.2 h))]
   exact ⟨_, rfl, Turn.drop ⟨rfl, rfl, rfl⟩ SB⟩
  refine CW.skip ?_
  refine hK6 _ _ _ ?_
  refine CW.seq fun K12 hK12 => ?_
  have hm7 := times_in a b
  rw [timesI, if_neg OM, if_neg (by unfold absI; omega)] at hm7
  unfold InR at hm7
  refine CW.region ?_
  refine RL.q (Y.move rfl) rfl ?_
  refine RL.q (Y.move rfl) rfl ?_
  refine RL.q (Y.mul rfl rfl OM) rfl ?_
  refine RL.q (Y.assign rfl) rfl ?_
  refine RL.nil ?_
  refine hK12 _ _ _ ?_
  refine CW.kp [4] rfl ?_
  refine CW.ret ?_
  have c0 : ¬ (a = 0 ∨ b = 0) := by omega
  have c1 : ¬ Int.tdiv 1099511627776 (absI b) < absI a := by unfold absI; omega
  rw [timesI, if_neg c0, if_neg c1]
  exact ⟨_, rfl, Turn.drop ⟨rfl, rfl, rfl⟩ SB⟩

theorem divide_ok (w0 : World) (M : Mem) (Γ : List As) (a : Int) (b : Int)   (hai : InR a) (hbi : InR b) :
    CallOk Tryd.prog w0 M Γ 135 #[vint a, vint b] (Is M Γ (vint (divI a b))) := by
  have hai2 := hai
  have hbi2 := hbi
  unfold InR at hai2 hbi2
  have hqi := quo_le' (b := b) hai
  unfold InR at hqi
  refine enter (f := 135) Tryd.func135 rfl Tryd.ntmps135 rfl rfl fun w1 hw1 => ?_
  refine CW.seq fun K1 hK1 => ?_
  refine CW.region ?_
  refine RL.q (Y.assign rfl) rfl ?_
  refine RL.nil ?_
  refine hK1 _ _ _ ?_
  refine CW.kp [0, 1] rfl ?_
  refine CW.seq fun K2 hK2 => ?_
  refine CW.seq fun K3 hK3 => ?_
  refine CW.region ?_
  refine RL.q (Y.move rfl) rfl ?_
  refine RL.q (Y.eql rfl rfl) rfl ?_
  refine RL.nil ?_
  refine hK3 _ _ _ ?_
  refine CW.kp [0, 1, 7] rfl ?_
  refine CW.ite rfl (fun h1 => ?_) (fun h1 => ?_)
  ·refine CW.seq fun K4 hK4 => ?_
   refine CW.region ?_
   refine RL.q (Y.assign rfl) rfl ?_
   refine RL.nil ?_
   refine hK4 _ _ _ ?_
   refine CW.kp [4] rfl ?_
   refine CW.ret ?_
   exact ⟨_, rfl, Turn.drop ⟨by rw [divI, if_pos OM], rfl, rfl⟩ SB⟩
  refine CW.skip ?_
  refine hK2 _ _ _ ?_
  refine CW.seq fun K5 hK5 => ?_
  refine CW.region ?_
  refine RL.q (Y.move rfl) rfl ?_
  refine RL.q (Y.move rfl) rfl ?_
  refine RL.q (Y.quo rfl rfl OM OM) rfl ?_
  refine RL.q (Y.assign rfl) rfl ?_
  refine RL.nil ?_
  refine hK5 _ _ _ ?_
  refine CW.kp [0, 1, 5] rfl ?_
  refine CW.seq fun K6 hK6 => ?_
  refine CW.seq fun K7 hK7 => ?_
  refine CW.region ?_
  refine RL.q (Y.move rfl) rfl ?_
  refine RL.q (Y.move rfl) rfl ?_
  refine RL.q (Y.rem rfl rfl OM) rfl ?_
  refine RL.qs (Y.neq rfl rfl) rfl (fun g14 => ?_) (fun g14 => ?_)
  ·refine RL.q (Y.move rfl) rfl ?_
   refine RL.qg WG (Y.move rfl) rfl ?_
   refine RL.qg WG (Y.lss rfl rfl) rfl ?_
   refine RL.qg WG (Y.move rfl) rfl ?_
   refine RL.qg WG (Y.lss rfl rfl) rfl ?_
   refine RL.qg WG (Y.neqD Tryd.underlying4 rfl rfl) rfl ?_
   refine RL.q (Y.pickT rfl rfl) rfl ?_
   refine RL.nil ?_
   refine hK7 _ _ _ ?_
   refine CW.kp [5, 21] rfl ?_
   refine CW.ite rfl (fun h2 => ?_) (fun h2 => ?_)
   ·refine CW.region ?_
    refine RL.q (Y.move rfl) rfl ?_
    refine RL.q (Y.sub rfl rfl OM) rfl ?_
    refine RL.q (Y.assign rfl) rfl ?_
    refine RL.nil ?_
    refine hK6 _ _ _ ?_
    refine CW.kp [5] rfl ?_
    refine CW.seq fun K8 hK8 => ?_
    refine CW.region ?_
    refine RL.q (Y.move rfl) rfl ?_
    refine RL.q (Y.assign rfl) rfl ?_
    refine RL.nil ?_
    refine hK8 _ _ _ ?_
    refine CW.kp [4] rfl ?_
    refine CW.ret ?_
    exact ⟨_, rfl, Turn.drop ⟨congrArg vint (by unfold divI; split <;> first | omega | (split <;> omega)), rfl, rfl⟩ SB⟩
   refine CW.skip ?_
   refine hK6 _ _ _ ?_
   refine CW.seq fun K9 hK9 => ?_
   refine CW.region ?_
   refine RL.q (Y.move rfl) rfl ?_
   refine RL.q (Y.assign rfl) rfl ?_
   refine RL.nil ?_
   refine hK9 _ _ _ ?_
   refine CW.kp [4] rfl ?_
   refine CW.ret ?_
   exact ⟨_, rfl, Turn.drop ⟨congrArg vint (by unfold divI; split <;> first | omega | (split <;> omega)), rfl, rfl⟩ SB⟩
  refine RL.q (Y.move rfl) rfl ?_
  refine RL.no WG rfl ?_
  refine RL.no WG rfl ?_
  refine RL.no WG rfl ?_
  refine RL.no WG rfl ?_
  refine RL.no WG rfl ?_
  refine RL.q (Y.pickF rfl rfl) rfl ?_
  refine RL.nil ?_
  refine hK7 _ _ _ ?_
  refine CW.kp [5, 21] rfl ?_
  refine CW.no rfl ?_
  refine CW.skip ?_
  refine hK6 _ _ _ ?_
  refine CW.seq fun K10 hK10 => ?_
  refine CW.region ?_
  refine RL.q (Y.move rfl) rfl ?_
  refine RL.q (Y.assign rfl) rfl ?_
  refine RL.nil ?_
  refine hK10 _ _ _ ?_
  refine CW.kp [4] rfl ?_
  refine CW.ret ?_
  exact ⟨_, rfl, Turn.drop ⟨congrArg vint (by unfold divI; split <;> first | omega | (split <;> omega)), rfl, rfl⟩ SB⟩

theorem rest_ok (w0 : World) (M : Mem) (Γ : List As) (a : Int) (b : Int)   (hai : InR a) (hbi : InR b) :
    CallOk Tryd.prog w0 M Γ 136 #[vint a, vint b] (Is M Γ (vint (restI a b))) := by
  have hai2 := hai
  have hbi2 := hbi
  unfold InR at hai2 hbi2
  refine enter (f := 136) Tryd.func136 rfl Tryd.ntmps136 rfl rfl fun w1 hw1 => ?_
  refine CW.seq fun K1 hK1 => ?_
  refine CW.region ?_
  refine RL.q (Y.assign rfl) rfl ?_
  refine RL.nil ?_
  refine hK1 _ _ _ ?_
  refine CW.kp [0, 1] rfl ?_
  refine CW.seq fun K2 hK2 => ?_
  refine CW.seq fun K3 hK3 => ?_
  refine CW.region ?_
  refine RL.q (Y.move rfl) rfl ?_
  refine RL.q (Y.eql rfl rfl) rfl ?_
  refine RL.nil ?_
  refine hK3 _ _ _ ?_
  refine CW.kp [0, 1, 6] rfl ?_
  refine CW.ite rfl (fun h1 => ?_) (fun h1 => ?_)
  ·refine CW.seq fun K4 hK4 => ?_
   refine CW.region ?_
   refine RL.q (Y.assign rfl) rfl ?_
   refine RL.nil ?_
   refine hK4 _ _ _ ?_
   refine CW.kp [4] rfl ?_
   refine CW.ret ?_
   exact ⟨_, rfl, Turn.drop ⟨by rw [restI, if_pos OM], rfl, rfl⟩ SB⟩
  have hbd := bdiv_bnd h1 hai hbi
  refine CW.skip ?_
  refine hK2 _ _ _ ?_
  refine CW.seq fun K5 hK5 => ?_
  refine CW.region ?_
  refine RL.q (Y.move rfl) rfl ?_
  refine RL.q (Y.move rfl) rfl ?_
  refine RL.q (Y.move rfl) rfl ?_
  refine RL.q (Y.move rfl) rfl ?_
  refine RL.callv rfl func135 rfl rfl (by exact divide_ok _ _ _ _ _ AO AO) ?_
  refine RL.q (Y.mul rfl rfl OM) rfl ?_
  refine RL.q (Y.sub rfl rfl OM) rfl ?_
  refine RL.q (Y.assign rfl) rfl ?_
  refine RL.nil ?_
  refine hK5 _ _ _ ?_
  refine CW.kp [4] rfl ?_
  refine CW.ret ?_
  rw [restI, if_neg OM]
  exact ⟨_, rfl, Turn.drop ⟨rfl, rfl, rfl⟩ SB⟩

theorem product_ok (w0 : World) (M : Mem) (Γ : List As) (a : Int) (b : Int)   (hai : InR a) (hbi : InR b) :
    CallOk Tryd.prog w0 M Γ 37 #[vint a, vint b] (Is M Γ (vint (clipI (a * b)))) := by
  have hai2 := hai
  have hbi2 := hbi
  unfold InR at hai2 hbi2
  refine enter (f := 37) Tryd.func37 rfl Tryd.ntmps37 rfl rfl fun w1 hw1 => ?_
  refine CW.seq fun K1 hK1 => ?_
  refine CW.region ?_
  refine RL.q (Y.assign rfl) rfl ?_
  refine RL.nil ?_
  refine hK1 _ _ _ ?_
  refine CW.kp [0, 1] rfl ?_
  refine CW.seq fun K2 hK2 => ?_
  refine CW.region ?_
  refine RL.q (Y.assign rfl) rfl ?_
  refine RL.nil ?_
  refine hK2 _ _ _ ?_
  refine CW.kp [0, 1, 5] rfl ?_
  refine CW.cut (fun L' M' Γ' => ∃ x s : Int, Keep L' [(0, vint x), (1, vint b), (5, vint s)] ∧ M' = M ∧ 0 ≤ x ∧ x ≤ 1099511627776 ∧ (s = 1 ∨ s = -1) ∧ a = s * x ∧ ∀ w, St w0 M Γ' w → St w0 M Γ w) ?_ ?_
  ·refine CW.seq fun K3 hK3 => ?_
   refine CW.region ?_
   refine RL.q (Y.move rfl) rfl ?_
   refine RL.q (Y.lss rfl rfl) rfl ?_
   refine RL.nil ?_
   refine hK3 _ _ _ ?_
   refine CW.kp [0, 1, 5, 8] rfl ?_
   refine CW.ite rfl (fun h1 => ?_) (fun h1 => ?_)
   ·refine CW.seq fun K4 hK4 => ?_
    refine CW.region ?_
    refine RL.q (Y.move rfl) rfl ?_
    refine RL.q (Y.neg rfl OM) rfl ?_
    refine RL.q (Y.assign rfl) rfl ?_
    refine RL.nil ?_
    refine hK4 _ _ _ ?_
    refine CW.kp [0, 1, 5] rfl ?_
    refine CW.region ?_
    refine RL.q (Y.move rfl) rfl ?_
    refine RL.q (Y.neg rfl OM) rfl ?_
    refine RL.q (Y.assign rfl) rfl ?_
    refine RL.nil ?_
    show (fun L' M' Γ' => ∃ x s : Int, Keep L' [(0, vint x), (1, vint b), (5, vint s)] ∧ M' = M ∧ 0 ≤ x ∧ x ≤ 1099511627776 ∧ (s = 1 ∨ s = -1) ∧ a = s * x ∧ ∀ w, St w0 M Γ' w → St w0 M Γ w) _ _ _
    first | exact ⟨-a, -1, (by repeat (first | exact Keep.nil _ | refine Keep.cons _ rfl ?_)), rfl, by omega, by omega, Or.inr rfl, by omega, fun _ hw => hw.sub SB⟩ | exact ⟨a, 1, (by repeat (first | exact Keep.nil _ | refine Keep.cons _ rfl ?_)), rfl, by omega, by omega, Or.inl rfl, by omega, fun _ hw => hw.sub SB⟩
   refine CW.skip ?_
   show (fun L' M' Γ' => ∃ x s : Int, Keep L' [(0, vint x), (1, vint b), (5, vint s)] ∧ M' = M ∧ 0 ≤ x ∧ x ≤ 1099511627776 ∧ (s = 1 ∨ s = -1) ∧ a = s * x ∧ ∀ w, St w0 M Γ' w → St w0 M Γ w) _ _ _
   first | exact ⟨-a, -1, (by repeat (first | exact Keep.nil _ | refine Keep.cons _ rfl ?_)), rfl, by omega, by omega, Or.inr rfl, by omega, fun _ hw => hw.sub SB⟩ | exact ⟨a, 1, (by repeat (first | exact Keep.nil _ | refine Keep.cons _ rfl ?_)), rfl, by omega, by omega, Or.inl rfl, by omega, fun _ hw => hw.sub SB⟩
  rintro _ M Γ2 ⟨x, s, hk2, rfl, hx0, hx1, hs, hax, hG2⟩
  refine CW.pre ?_ hk2 hG2
  refine CW.cut (fun L' M' Γ' => ∃ x y s : Int, Keep L' [(0, vint x), (1, vint y), (5, vint s)] ∧ M' = M ∧ 0 ≤ x ∧ x ≤ 1099511627776 ∧ 0 ≤ y ∧ y ≤ 1099511627776 ∧ (s = 1 ∨ s = -1) ∧ a * b = s * (x * y) ∧ ∀ w, St w0 M Γ' w → St w0 M Γ w) ?_ ?_
  ·refine CW.seq fun K5 hK5 => ?_
   refine CW.region ?_
   refine RL.q (Y.move rfl) rfl ?_
   refine RL.q (Y.lss rfl rfl) rfl ?_
   refine RL.nil ?_
   refine hK5 _ _ _ ?_
   refine CW.kp [0, 1, 5, 14] rfl ?_
   refine CW.ite rfl (fun h2 => ?_) (fun h2 => ?_)
   ·refine CW.seq fun K6 hK6 => ?_
    refine CW.region ?_
    refine RL.q (Y.move rfl) rfl ?_
    refine RL.q (Y.neg rfl OM) rfl ?_
    refine RL.q (Y.assign rfl) rfl ?_
    refine RL.nil ?_
    refine hK6 _ _ _ ?_
    refine CW.kp [0, 1, 5] rfl ?_
    refine CW.region ?_
    refine RL.q (Y.move rfl) rfl ?_
    refine RL.q (Y.neg rfl OM) rfl ?_
    refine RL.q (Y.assign rfl) rfl ?_
    refine RL.nil ?_
    show (fun L' M' Γ' => ∃ x y s : Int, Keep L' [(0, vint x), (1, vint y), (5, vint s)] ∧ M' = M ∧ 0 ≤ x ∧ x ≤ 1099511627776 ∧ 0 ≤ y ∧ y ≤ 1099511627776 ∧ (s = 1 ∨ s = -1) ∧ a * b = s * (x * y) ∧ ∀ w, St w0 M Γ' w → St w0 M Γ w) _ _ _
    first | exact ⟨x, -b, -s, (by repeat (first | exact Keep.nil _ | refine Keep.cons _ rfl ?_)), rfl, hx0, hx1, by omega, by omega, by omega, by rw [hax]; simp [Int.mul_assoc, Int.neg_mul, Int.mul_neg], fun _ hw => hw.sub SB⟩ | exact ⟨x, b, s, (by repeat (first | exact Keep.nil _ | refine Keep.cons _ rfl ?_)), rfl, hx0, hx1, by omega, by omega, hs, by rw [hax, Int.mul_assoc], fun _ hw => hw.sub SB⟩
   refine CW.skip ?_
   show (fun L' M' Γ' => ∃ x y s : Int, Keep L' [(0, vint x), (1, vint y), (5, vint s)] ∧ M' = M ∧ 0 ≤ x ∧ x ≤ 1099511627776 ∧ 0 ≤ y ∧ y ≤ 1099511627776 ∧ (s = 1 ∨ s = -1) ∧ a * b = s * (x * y) ∧ ∀ w, St w0 M Γ' w → St w0 M Γ w) _ _ _
   first | exact ⟨x, -b, -s, (by repeat (first | exact Keep.nil _ | refine Keep.cons _ rfl ?_)), rfl, hx0, hx1, by omega, by omega, by omega, by rw [hax]; simp [Int.mul_assoc, Int.neg_mul, Int.mul_neg], fun _ hw => hw.sub SB⟩ | exact ⟨x, b, s, (by repeat (first | exact Keep.nil _ | refine Keep.cons _ rfl ?_)), rfl, hx0, hx1, by omega, by omega, hs, by rw [hax, Int.mul_assoc], fun _ hw => hw.sub SB⟩
  rintro _ M Γ2 ⟨x, y, s, hk2, rfl, hx0, hx1, hy0, hy1, hs, hax, hG2⟩
  refine CW.pre ?_ hk2 hG2
  have htq : x.tdiv 1048576 = x / 1048576 := Int.tdiv_eq_ediv_of_nonneg hx0
  have htr : x.tmod 1048576 = x % 1048576 := Int.tmod_eq_emod_of_nonneg hx0
  have hxq : 0 ≤ x.tdiv 1048576 ∧ x.tdiv 1048576 ≤ 1048576 := by omega
  have hxr : 0 ≤ x.tmod 1048576 ∧ x.tmod 1048576 ≤ 1048576 := by omega
  have hm1 := mul_bnd hxq.1 hy0 hxq.2 hy1
  have hm2 := mul_bnd hxr.1 hy0 hxr.2 hy1
  refine CW.seq fun K7 hK7 => ?_
  refine CW.region ?_
  refine RL.q (Y.move rfl) rfl ?_
  refine RL.q (Y.quo rfl rfl OM OM) rfl ?_
  refine RL.q (Y.move rfl) rfl ?_
  refine RL.q (Y.mul rfl rfl OM) rfl ?_
  refine RL.q (Y.assign rfl) rfl ?_
  refine RL.nil ?_
  refine hK7 _ _ _ ?_
  refine CW.kp [0, 1, 5, 6] rfl ?_
  refine CW.seq fun K8 hK8 => ?_
  refine CW.seq fun K9 hK9 => ?_
  refine CW.region ?_
  refine RL.q (Y.move rfl) rfl ?_
  refine RL.q (Y.gtr rfl rfl) rfl ?_
  refine RL.nil ?_
  refine hK9 _ _ _ ?_
  refine CW.kp [0, 1, 5, 6, 24] rfl ?_
  refine CW.ite rfl (fun h3 => ?_) (fun h3 => ?_)
  ·refine CW.seq fun K10 hK10 => ?_
   refine CW.region ?_
   refine RL.q (Y.move rfl) rfl ?_
   refine RL.q (Y.mul rfl rfl OM) rfl ?_
   refine RL.q (Y.assign rfl) rfl ?_
   refine RL.nil ?_
   refine hK10 _ _ _ ?_
   refine CW.kp [4] rfl ?_
   refine CW.ret ?_
   exact ⟨_, rfl, Turn.drop ⟨congrArg vint (prod_hi ⟨hx0, hx1⟩ ⟨hy0, hy1⟩ hs hax OM), rfl, rfl⟩ SB⟩
  refine CW.skip ?_
  refine hK8 _ _ _ ?_
  refine CW.seq fun K11 hK11 => ?_
  have hci := clip_in (x.tdiv 1048576 * y * 1048576 + x.tmod 1048576 * y)
  unfold InR at hci
  have hsc : -1099511627776 ≤ s * clipI (x.tdiv 1048576 * y * 1048576 + x.tmod 1048576 * y) ∧ s * clipI (x.tdiv 1048576 * y * 1048576 + x.tmod 1048576 * y) ≤ 1099511627776 := by rcases hs with rfl | rfl <;> omega
  refine CW.region ?_
  refine RL.q (Y.move rfl) rfl ?_
  refine RL.q (Y.move rfl) rfl ?_
  refine RL.q (Y.mul rfl rfl OM) rfl ?_
  refine RL.q (Y.move rfl) rfl ?_
  refine RL.q (Y.rem rfl rfl OM) rfl ?_
  refine RL.q (Y.move rfl) rfl ?_
  refine RL.q (Y.mul rfl rfl OM) rfl ?_
  refine RL.q (Y.add rfl rfl OM) rfl ?_
  refine RL.callv rfl func36 rfl rfl (by exact rclip_ok _ _ _ _) ?_
  refine RL.q (Y.mul rfl rfl OM) rfl ?_
  refine RL.q (Y.assign rfl) rfl ?_
  refine RL.nil ?_
  refine hK11 _ _ _ ?_
  refine CW.kp [4] rfl ?_
  refine CW.ret ?_
  exact ⟨_, rfl, Turn.drop ⟨congrArg vint (prod_lo ⟨hx0, hx1⟩ ⟨hy0, hy1⟩ hs hax), rfl, rfl⟩ SB⟩

theorem floor_ok (w0 : World) (M : Mem) (Γ : List As) (a : Int) (b : Int)   (hai : InR a) (hbi : InR b) (hb0 : b ≠ 0) :
    CallOk Tryd.prog w0 M Γ 38 #[vint a, vint b] (Is M Γ (vint (divI a b))) := by
  have hai2 := hai
  have hbi2 := hbi
  unfold InR at hai2 hbi2
  have hqi := quo_le' (b := b) hai
  unfold InR at hqi
  have hfi := floor_iff (a := a) hb0
  have hqb := bquo_bnd hb0 hai hbi
  refine enter (f := 38) Tryd.func38 rfl Tryd.ntmps38 rfl rfl fun w1 hw1 => ?_
  refine CW.seq fun K1 hK1 => ?_
  refine CW.region ?_
  refine RL.q (Y.assign rfl) rfl ?_
  refine RL.nil ?_
  refine hK1 _ _ _ ?_
  refine CW.kp [0, 1] rfl ?_
  refine CW.seq fun K2 hK2 => ?_
  refine CW.region ?_
  refine RL.q (Y.move rfl) rfl ?_
  refine RL.q (Y.move rfl) rfl ?_
  refine RL.q (Y.quo rfl rfl OM OM) rfl ?_
  refine RL.q (Y.assign rfl) rfl ?_
  refine RL.nil ?_
  refine hK2 _ _ _ ?_
  refine CW.kp [0, 1, 5] rfl ?_
  refine CW.seq fun K3 hK3 => ?_
  refine CW.seq fun K4 hK4 => ?_
  refine CW.region ?_
  refine RL.q (Y.move rfl) rfl ?_
  refine RL.q (Y.move rfl) rfl ?_
  refine RL.q (Y.mul rfl rfl OM) rfl ?_
  refine RL.q (Y.move rfl) rfl ?_
  refine RL.qs (Y.neq rfl rfl) rfl (fun g13 => ?_) (fun g13 => ?_)
  ·refine RL.q (Y.move rfl) rfl ?_
   refine RL.qg WG (Y.move rfl) rfl ?_
   refine RL.qg WG (Y.lss rfl rfl) rfl ?_
   refine RL.qg WG (Y.move rfl) rfl ?_
   refine RL.qg WG (Y.lss rfl rfl) rfl ?_
   refine RL.qg WG (Y.neqD Tryd.underlying4 rfl rfl) rfl ?_
   refine RL.q (Y.pickT rfl rfl) rfl ?_
   refine RL.nil ?_
   refine hK4 _ _ _ ?_
   refine CW.kp [5, 20] rfl ?_
   refine CW.ite rfl (fun h1 => ?_) (fun h1 => ?_)
   ·refine CW.region ?_
    refine RL.q (Y.move rfl) rfl ?_
    refine RL.q (Y.sub rfl rfl OM) rfl ?_
    refine RL.q (Y.assign rfl) rfl ?_
    refine RL.nil ?_
    refine hK3 _ _ _ ?_
    refine CW.kp [5] rfl ?_
    refine CW.seq fun K5 hK5 => ?_
    refine CW.region ?_
    refine RL.q (Y.move rfl) rfl ?_
    refine RL.q (Y.assign rfl) rfl ?_
    refine RL.nil ?_
    refine hK5 _ _ _ ?_
    refine CW.kp [4] rfl ?_
    refine CW.ret ?_
    exact ⟨_, rfl, Turn.drop ⟨congrArg vint (by unfold divI; rw [if_neg hb0]; split <;> omega), rfl, rfl⟩ SB⟩
   refine CW.skip ?_
   refine hK3 _ _ _ ?_
   refine CW.seq fun K6 hK6 => ?_
   refine CW.region ?_
   refine RL.q (Y.move rfl) rfl ?_
   refine RL.q (Y.assign rfl) rfl ?_
   refine RL.nil ?_
   refine hK6 _ _ _ ?_
   refine CW.kp [4] rfl ?_
   refine CW.ret ?_
   exact ⟨_, rfl, Turn.drop ⟨congrArg vint (by unfold divI; rw [if_neg hb0]; split <;> omega), rfl, rfl⟩ SB⟩
  refine RL.q (Y.move rfl) rfl ?_
  refine RL.no WG rfl ?_
  refine RL.no WG rfl ?_
  refine RL.no WG rfl ?_
  refine RL.no WG rfl ?_
  refine RL.no WG rfl ?_
  refine RL.q (Y.pickF rfl rfl) rfl ?_
  refine RL.nil ?_
  refine hK4 _ _ _ ?_
  refine CW.kp [5, 20] rfl ?_
  refine CW.no rfl ?_
  refine CW.skip ?_
  refine hK3 _ _ _ ?_
  refine CW.seq fun K7 hK7 => ?_
  refine CW.region ?_
  refine RL.q (Y.move rfl) rfl ?_
  refine RL.q (Y.assign rfl) rfl ?_
  refine RL.nil ?_
  refine hK7 _ _ _ ?_
  refine CW.kp [4] rfl ?_
  refine CW.ret ?_
  exact ⟨_, rfl, Turn.drop ⟨congrArg vint (by unfold divI; rw [if_neg hb0]; split <;> omega), rfl, rfl⟩ SB⟩
end Go.Proofs.YtanbipbiblikbaaDoor

/- THE WALKS, 18: a type made of a number. Printed by m04r.py. -/
namespace Go.Proofs.YtanbipbiblikbaaDoor
open Xe

theorem pick_ok (w0 : World) (M : Mem) (Γ : List As) (n : Int) (q : Int)   (hn : InI n) (hq0 : 0 ≤ q) (hq1 : q ≤ 1000000) :
    CallOk Tryd.prog w0 M Γ 15 #[vint n, vint q] (Gives M Γ fun M' v => ∃ us, v = .agg us.toArray ∧ RdL M' (pickTy n q).enc us) := by
  obtain ⟨a, ha⟩ : ∃ a, a = around n (4 + 2 * q) := ⟨_, rfl⟩
  have hab := around_lt n (4 + 2 * q) OM
  have hnd := tdiv_InI hn 64 OM
  have hnd1 := hnd
  unfold InI at hnd1
  refine enterCell (f := 15) Tryd.func15 rfl Tryd.ntmps15 rfl rfl fun w1 hw1 => ?_
  refine CW.seq fun K1 hK1 => ?_
  refine CW.region ?_
  refine RL.alloc _ zero38 rfl rfl fun b4 => ?_
  refine RL.nil ?_
  refine hK1 _ _ _ ?_
  refine CW.kp [0, 1, 4] rfl ?_
  refine CW.seq fun K2 hK2 => ?_
  refine CW.region ?_
  refine RL.q (Y.move rfl) rfl ?_
  refine RL.q (Y.move rfl) rfl ?_
  refine RL.q (Y.mul rfl rfl OM) rfl ?_
  refine RL.q (Y.add rfl rfl OM) rfl ?_
  refine RL.callv rfl func16 rfl rfl (by exact around_ok _ _ _ _ _ AO AO) ?_
  refine RL.q (Y.assign rfl) rfl ?_
  refine RL.nil ?_
  refine hK2 _ _ _ ?_
  refine CW.kp [0, 4, 5] rfl ?_
  rw [← ha]
  refine CW.seq fun K3 hK3 => ?_
  refine CW.seq fun K4 hK4 => ?_
  refine CW.region ?_
  refine RL.q (Y.move rfl) rfl ?_
  refine RL.q (Y.eql rfl rfl) rfl ?_
  refine RL.nil ?_
  refine hK4 _ _ _ ?_
  refine CW.kp [0, 4, 5, 13] rfl ?_
  refine CW.ite rfl (fun h1 => ?_) (fun h1 => ?_)
  ·refine CW.seq fun K5 hK5 => ?_
   refine CW.region ?_
   refine RL.q (Y.build [_, _, _, _, _] rfl zero38 places38 (by rfl)) rfl ?_
   first | refine RL.storeRds 5 rfl rfl RP MM EL (by first | exact Kn.lenRds MM EL | exact Kn.lenLit rfl) size38 ?_ | refine RL.storeAgg _ rfl rfl RP (by rfl) (by first | (simp; done) | simp [IdT.vals]) (by first | (simp [Value.oneCell']; done) | simp [Value.oneCell', IdT.vals]) size38 ?_
   refine RL.nil ?_
   refine hK5 _ _ _ ?_
   refine CW.kp [4] rfl ?_
   refine CW.ret ?_
   have e : pickTy n q = .mk 1 id0 [] := by rw [pickTy, ← ha, if_pos h1]
   exact CellAt.mk rfl MM (by first | rfl | assumption) agg38 (Turn.drop ⟨Sub.refl _, rfl, _, rfl, by rw [e]; exact (by rw [Ty.enc_eq]; exact (by repeat (first | exact RdL.nil _ | refine RdL.cons (by first | exact Rd.i _ | exact Rd.nilS | exact Rd.str _ | assumption) ?_)))⟩ SB)
  refine CW.skip ?_
  refine hK3 _ _ _ ?_
  refine CW.seq fun K6 hK6 => ?_
  refine CW.seq fun K7 hK7 => ?_
  refine CW.region ?_
  refine RL.q (Y.move rfl) rfl ?_
  refine RL.q (Y.eql rfl rfl) rfl ?_
  refine RL.nil ?_
  refine hK7 _ _ _ ?_
  refine CW.kp [0, 4, 5, 16] rfl ?_
  refine CW.ite rfl (fun h2 => ?_) (fun h2 => ?_)
  ·refine CW.seq fun K8 hK8 => ?_
   refine CW.region ?_
   refine RL.q (Y.build [_, _, _, _, _] rfl zero38 places38 (by rfl)) rfl ?_
   refine RL.call rfl func41 rfl rfl (by exact list_ok _ _ _ ty0 _ (by exact Kn.of (by rw [Ty.enc_eq]; exact (by repeat (first | exact RdL.nil _ | refine RdL.cons (by first | exact Rd.i _ | exact Rd.nilS | exact Rd.str _ | assumption) ?_))))) ?_
   rintro v18 M18 _ ⟨hs18, rfl, us18, rfl, hr18⟩
   refine RL.addRds hr18 ?_
   have hul18 : us18.length = 5 := hr18.1.trans (Ty.enc_len _)
   first | refine RL.storeRds 5 rfl rfl RP MM EL (by first | exact Kn.lenRds MM EL | exact Kn.lenLit rfl) size38 ?_ | refine RL.storeAgg _ rfl rfl RP (by rfl) (by first | (simp; done) | simp [IdT.vals]) (by first | (simp [Value.oneCell']; done) | simp [Value.oneCell', IdT.vals]) size38 ?_
   refine RL.nil ?_
   refine hK8 _ _ _ ?_
   refine CW.kp [4] rfl ?_
   refine CW.ret ?_
   have e : pickTy n q = listT ty0 := by rw [pickTy, ← ha, if_neg h1, if_pos h2]
   exact CellAt.mk rfl MM (by first | rfl | assumption) agg38 (Turn.drop ⟨hs18, rfl, _, rfl, by rw [e]; exact hr18⟩ SB)
  refine CW.skip ?_
  refine hK6 _ _ _ ?_
  refine CW.seq fun K9 hK9 => ?_
  refine CW.seq fun K10 hK10 => ?_
  refine CW.region ?_
  refine RL.q (Y.move rfl) rfl ?_
  refine RL.q (Y.geq rfl rfl) rfl ?_
  refine RL.nil ?_
  refine hK10 _ _ _ ?_
  refine CW.kp [0, 4, 5, 20] rfl ?_
  refine CW.ite rfl (fun h3 => ?_) (fun h3 => ?_)
  ·have htd : (a - 4).tdiv 2 = (a - 4) / 2 := Int.tdiv_eq_ediv_of_nonneg OM
   refine CW.seq fun K11 hK11 => ?_
   refine CW.region ?_
   refine RL.q (Y.move rfl) rfl ?_
   refine RL.q (Y.sub rfl rfl OM) rfl ?_
   refine RL.q (Y.quo rfl rfl OM OM) rfl ?_
   refine RL.q (Y.add rfl rfl OM) rfl ?_
   refine RL.callv rfl func39 rfl rfl (by exact id_ok _ _ _ _ AO AO) ?_
   refine RL.callv rfl func42 rfl rfl (by exact of_ok _ _ _ _) ?_
   refine RL.alloc _ zero38 rfl rfl fun b6 => ?_
   first | refine RL.storeRds 5 rfl rfl RP MM EL (by first | exact Kn.lenRds MM EL | exact Kn.lenLit rfl) size38 ?_ | refine RL.storeAgg _ rfl rfl RP (by rfl) (by first | (simp; done) | simp [IdT.vals]) (by first | (simp [Value.oneCell']; done) | simp [Value.oneCell', IdT.vals]) size38 ?_
   refine RL.nil ?_
   refine hK11 _ _ _ ?_
   refine CW.kp [0, 4, 6] rfl ?_
   refine CW.seq fun K12 hK12 => ?_
   refine CW.seq fun K13 hK13 => ?_
   refine CW.region ?_
   refine RL.q (Y.move rfl) rfl ?_
   refine RL.q (Y.quo rfl rfl OM OM) rfl ?_
   refine RL.callv rfl func16 rfl rfl (by exact around_ok _ _ _ _ _ AO AO) ?_
   refine RL.q (Y.eql rfl rfl) rfl ?_
   refine RL.nil ?_
   refine hK13 _ _ _ ?_
   refine CW.kp [4, 6, 30] rfl ?_
   refine CW.ite rfl (fun h4 => ?_) (fun h4 => ?_)
   ·refine CW.seq fun K14 hK14 => ?_
    refine CW.region ?_
    first | refine RL.q (Y.loadAllR rfl MM MM EL agg38) rfl ?_ | refine RL.q (Y.loadAll rfl MM (by rfl) agg38) rfl ?_ | refine RL.loadPart rfl rfl MM MM (by rfl) (by rfl) agg38 rfl fun us31 hul31 hur31 => ?_
    refine RL.call rfl func41 rfl rfl (by exact list_ok _ _ _ (ofT (idK (1 + (a - 4).tdiv 2))) _ (by exact Kn.of (by rw [Ty.enc_eq]; exact (by repeat (first | exact RdL.nil _ | refine RdL.cons (by first | exact Rd.i _ | exact Rd.nilS | exact Rd.str _ | assumption) ?_))))) ?_
    rintro v32 M32 _ ⟨hs32, rfl, us32, rfl, hr32⟩
    refine RL.addRds hr32 ?_
    have hul32 : us32.length = 5 := hr32.1.trans (Ty.enc_len _)
    first | refine RL.storeRds 5 rfl rfl RP MM EL (by first | exact Kn.lenRds MM EL | exact Kn.lenLit rfl) size38 ?_ | refine RL.storeAgg _ rfl rfl RP (by rfl) (by first | (simp; done) | simp [IdT.vals]) (by first | (simp [Value.oneCell']; done) | simp [Value.oneCell', IdT.vals]) size38 ?_
    refine RL.nil ?_
    refine hK14 _ _ _ ?_
    refine CW.kp [4] rfl ?_
    refine CW.ret ?_
    have e : pickTy n q = listT (ofT (idK (1 + (a - 4).tdiv 2))) := by rw [pickTy, ← ha, if_neg h1, if_neg h2, if_pos h3, if_pos h4]
    exact CellAt.mk rfl MM (by first | rfl | assumption) agg38 (Turn.drop ⟨hs32, rfl, _, rfl, by rw [e]; exact hr32⟩ SB)
   refine CW.skip ?_
   refine hK12 _ _ _ ?_
   refine CW.seq fun K15 hK15 => ?_
   refine CW.region ?_
   first | refine RL.q (Y.loadAllR rfl MM MM EL agg38) rfl ?_ | refine RL.q (Y.loadAll rfl MM (by rfl) agg38) rfl ?_ | refine RL.loadPart rfl rfl MM MM (by rfl) (by rfl) agg38 rfl fun us33 hul33 hur33 => ?_
   first | refine RL.storeRds 5 rfl rfl RP MM EL (by first | exact Kn.lenRds MM EL | exact Kn.lenLit rfl) size38 ?_ | refine RL.storeAgg _ rfl rfl RP (by rfl) (by first | (simp; done) | simp [IdT.vals]) (by first | (simp [Value.oneCell']; done) | simp [Value.oneCell', IdT.vals]) size38 ?_
   refine RL.nil ?_
   refine hK15 _ _ _ ?_
   refine CW.kp [4] rfl ?_
   refine CW.ret ?_
   have e : pickTy n q = ofT (idK (1 + (a - 4).tdiv 2)) := by rw [pickTy, ← ha, if_neg h1, if_neg h2, if_pos h3, if_neg h4]
   exact CellAt.mk rfl MM (by first | rfl | assumption) agg38 (Turn.drop ⟨Sub.refl _, rfl, _, rfl, by rw [e]; exact (by rw [Ty.enc_eq]; exact (by repeat (first | exact RdL.nil _ | refine RdL.cons (by first | exact Rd.i _ | exact Rd.nilS | exact Rd.str _ | assumption) ?_)))⟩ SB)
  refine CW.skip ?_
  refine hK9 _ _ _ ?_
  refine CW.seq fun K16 hK16 => ?_
  refine CW.region ?_
  refine RL.q (Y.build [_, _, _, _, _] rfl zero38 places38 (by rfl)) rfl ?_
  first | refine RL.storeRds 5 rfl rfl RP MM EL (by first | exact Kn.lenRds MM EL | exact Kn.lenLit rfl) size38 ?_ | refine RL.storeAgg _ rfl rfl RP (by rfl) (by first | (simp; done) | simp [IdT.vals]) (by first | (simp [Value.oneCell']; done) | simp [Value.oneCell', IdT.vals]) size38 ?_
  refine RL.nil ?_
  refine hK16 _ _ _ ?_
  refine CW.kp [4] rfl ?_
  refine CW.ret ?_
  have e : pickTy n q = ty0 := by rw [pickTy, ← ha, if_neg h1, if_neg h2, if_neg h3]
  exact CellAt.mk rfl MM (by first | rfl | assumption) agg38 (Turn.drop ⟨Sub.refl _, rfl, _, rfl, by rw [e]; exact (by rw [Ty.enc_eq]; exact (by repeat (first | exact RdL.nil _ | refine RdL.cons (by first | exact Rd.i _ | exact Rd.nilS | exact Rd.str _ | assumption) ?_)))⟩ SB)
end Go.Proofs.YtanbipbiblikbaaDoor

/- THE WALKS, 21: the program of types made of numbers. Printed by m04u.py. -/
namespace Go.Proofs.YtanbipbiblikbaaDoor
open Xe

theorem fill4s {v0 v1 v2 v3 : Value} (h0 : cellsL v0 = [v0]) (h1 : cellsL v1 = [v1]) (h2 : cellsL v2 = [v2]) (h3 : cellsL v3 = [v3]) : ∀ zs : List Value, zs.length = 4 * 1 → fillL (fun i => some (i * 1, 1)) zs ([(0, v0), (1, v1), (2, v2), (3, v3)].map fun p => (p.1, cellsL p.2)) = some [v0, v1, v2, v3] := fun zs hz => by
  match zs, hz with
  | [a, b, c, d], _ => simp [fillL, splice, h0, h1, h2, h3]

set_option maxHeartbeats 2000000 in
theorem types_own (w0 : World) (M : Mem) (Γ : List As) (l : List Int) (ul : Value)  (hl : Kn w0 M Γ (Rd M (dints l) ul)) (hli : ∀ x ∈ l, InI x) :
    CallOk Tryd.prog w0 M Γ 14 #[ul] (fun v M' Γ' => ∃ (ua : Option Addr) (ca : Nat) (us : List Value) (vm : Value), Sub M M' ∧ v = .agg [vm, .slice ua (tMany l) ca].toArray ∧ Γ' = .acc (.slice ua (tMany l) ca) 52 31 (tMany l) us :: Γ ∧ Rd M' (.sl 1 6 (ModT.enc ⟨idK 0, sCore, [], tIds (tMany l)⟩)) vm ∧ RdL M' ((tDefs l (tMany l)).flatMap DefT.enc) us) := by
  refine CallOk.kn hl fun hl => ?_
  obtain ⟨al, cl, rfl, hcl, hliml, hlenl⟩ := hl.slice
  have hm := tMany_rng l
  have hmc := tMany_cast l
  refine enterCell (f := 14) Tryd.func14 rfl Tryd.ntmps14 rfl rfl fun w1 hw1 => ?_
  refine CW.addRd hl ?_
  refine CW.seq fun K1 hK1 => ?_
  refine CW.region ?_
  refine RL.alloc _ zero32 rfl rfl fun b2 => ?_
  refine RL.nil ?_
  refine hK1 _ _ _ ?_
  refine CW.kp [0, 2] rfl ?_
  refine CW.seq fun K2 hK2 => ?_
  refine CW.region ?_
  refine RL.callv rfl func39 rfl rfl (by exact id_ok _ _ _ _ AO AO) ?_
  refine RL.q (Y.build [_, _, _, _, _, _] rfl zero76 places76 (by rfl)) rfl ?_
  refine RL.buildSlice ([vint 0, vint 1, vint 0, .string sCore, .slice none 0 0, .slice none 0 0]) elem29 rfl (by decide) (fill1 rfl rfl) rfl fun b13 => ?_
  refine RL.q (Y.build [_, _] rfl zero32 places32 (by rfl)) rfl ?_
  refine RL.alloc _ zero32 rfl rfl fun b3 => ?_
  first | refine RL.storeRds 2 rfl rfl RP MM EL (by first | exact Kn.lenRds MM EL | exact Kn.lenLit rfl) size32 ?_ | refine RL.storeAgg _ rfl rfl RP (by rfl) (by first | (simp; done) | simp [IdT.vals]) (by first | (simp [Value.oneCell']; done) | simp [Value.oneCell', IdT.vals]) size32 ?_
  refine RL.nil ?_
  refine hK2 _ _ _ ?_
  refine CW.kp [0, 2, 3] rfl ?_
  refine CW.seq fun K3 hK3 => ?_
  refine CW.region ?_
  refine RL.q (Y.move rfl) rfl ?_
  refine RL.callv rfl func40 rfl rfl (by exact at_ok _ _ _ _ _ _ _ KK AO AO) ?_
  refine RL.q (Y.add rfl rfl OM) rfl ?_
  refine RL.q (Y.assign rfl) rfl ?_
  refine RL.nil ?_
  refine hK3 _ _ _ ?_
  refine CW.kp [0, 2, 3, 4] rfl ?_
  rw [← hmc]
  refine CW.seq fun K4 hK4 => ?_
  refine CW.region ?_
  refine RL.q (Y.move rfl) rfl ?_
  refine RL.q (Y.add rfl rfl OM) rfl ?_
  refine RL.q (Y.assign rfl) rfl ?_
  refine RL.nil ?_
  refine hK4 _ _ _ ?_
  refine CW.kp [0, 2, 3, 4, 5] rfl ?_
  refine CW.seq fun K5 hK5 => ?_
  refine CW.seq fun K6 hK6 => ?_
  refine CW.region ?_
  refine RL.q (Y.assign rfl) rfl ?_
  refine RL.nil ?_
  refine hK6 _ _ _ ?_
  refine CW.kp [0, 2, 3, 4, 5, 6] rfl ?_
  refine CW.block ?_
  -- LOOP 1: live [0, 2, 3, 4, 5, 6] changed [5, 6]
  refine CW.kp [5, 6, 0, 2, 3, 4] rfl ?_
  refine CW.front (x := .own b13 76 [vint 0, vint 1, vint 0, .string sCore, .slice none 0 0, .slice none 0 0]) PK ?_
  refine CW.accNil 35 3 ?_
  refine CW.addRds (RdL.nil _) ?_
  refine CW.front (x := .own b3 32 [(.slice (some ⟨b13, 0, none⟩) 1 1), .slice none 0 0]) PK ?_
  refine CW.accNil 52 31 ?_
  refine CW.addRds (RdL.nil _) ?_
  refine CW.loopF (fun m Lc M1 Γc => ∃ (i : Nat) (ua : Option Addr) (ca : Nat) (us : List Value) (va : Option Addr) (vc : Nat) (vs : List Value), m = tMany l - i ∧ i ≤ tMany l ∧ Lc = [(5, vint (tNext l i)), (6, vint i)] ∧ Γc = [.rds ((tDefs l i).flatMap DefT.enc) us, .acc (.slice ua i ca) 52 31 i us, .own b3 32 [(.slice (some ⟨b13, 0, none⟩) 1 1), .slice ua i ca], .rds ((tIds i).flatMap IdT.enc) vs, .acc (.slice va i vc) 35 3 i vs, .own b13 76 [vint 0, vint 1, vint 0, .string sCore, .slice none 0 0, .slice va i vc]]) (tMany l) [(5, _), (6, _)] [_, _, _, _, _, _] rfl rfl ⟨0, none, 0, [], none, 0, [], rfl, Nat.zero_le _, rfl, rfl⟩ ?_
  rintro m Lc M1 Γc hs ⟨i, ua, ca, us, va, vc, vs, rfl, hi, rfl, rfl⟩
  refine CW.seq fun K7 hK7 => ?_
  refine CW.seq fun K8 hK8 => ?_
  refine CW.region ?_
  refine RL.q (Y.move rfl) rfl ?_
  refine RL.q (Y.move rfl) rfl ?_
  refine RL.q (Y.lss rfl rfl) rfl ?_
  refine RL.nil ?_
  refine hK8 _ _ _ ?_
  refine CW.kp [0, 2, 3, 4, 5, 6, 22] rfl ?_
  refine CW.ite rfl (fun h1 => ?_) (fun h1 => ?_)
  ·have hi4 : i < 4 := by omega
   refine CW.skip ?_
   refine hK7 _ _ _ ?_
   refine CW.seq fun K9 hK9 => ?_
   refine CW.block ?_
   refine CW.seq fun K10 hK10 => ?_
   refine CW.region ?_
   refine RL.q (Y.move rfl) rfl ?_
   refine RL.q (Y.move rfl) rfl ?_
   refine RL.q (Y.add rfl rfl OM) rfl ?_
   refine RL.callv rfl func40 rfl rfl (by exact at_ok _ _ _ _ _ _ _ KK AO AO) ?_
   refine RL.q (Y.assign rfl) rfl ?_
   refine RL.nil ?_
   refine hK10 _ _ _ ?_
   refine CW.kp [0, 2, 3, 4, 5, 6, 7] rfl ?_
   have hbr := tBits_rng l i
   have hbd := tBits_div l i
   have hbm := tBits_mod l i
   have har := tArity_rng l i
   have hac := tArity_cast l i
   have hnr := tNext_rng l i
   rw [show atL l (1 + (i : Int)) 65536 = tBits l i from rfl]
   refine CW.cut (fun L' M' Γ' => ∃ b8, Keep L' [(0, .slice al l.length cl), (2, .pointer (some (adr (some ⟨b2, 0, none⟩) 0))), (3, .pointer (some (adr (some ⟨b3, 0, none⟩) 0))), (4, vint (tMany l)), (5, vint (tNext l i)), (6, vint i), (7, vint (tBits l i)), (8, .pointer (some (adr (some ⟨b8, 0, none⟩) 0)))] ∧ M' = M1 ∧ ∀ w, St w0 M1 Γ' w → St w0 M1 (.own b8 52 (dvs (idK (1 + (i : Int))) ((tBits l i).tmod 2) (idK 0) (nm4 i) (.slice none 0 0)) :: .rds ((tDefs l i).flatMap DefT.enc) us :: .acc (.slice ua i ca) 52 31 i us :: .own b3 32 [(.slice (some ⟨b13, 0, none⟩) 1 1), .slice ua i ca] :: .rds ((tIds i).flatMap IdT.enc) vs :: .acc (.slice va i vc) 35 3 i vs :: .own b13 76 [vint 0, vint 1, vint 0, .string sCore, .slice none 0 0, .slice va i vc] :: .own b2 32 [.slice none 0 0, .slice none 0 0] :: .rd (dints l) (.slice al l.length cl) :: Γ) w) ?_ ?_
   ·refine CW.regionH mix _ _ (fun _ hw => hw) ?_
    refine HL.take 0 rfl KR KR KR rfl (Y.move rfl) rfl ?_
    refine HL.take 1 rfl KR KR KR rfl (Y.add rfl rfl OM) rfl ?_
    refine HL.take 3 rfl KR KR KR rfl (Y.move rfl) rfl ?_
    refine HL.take 4 rfl KR KR KR rfl (Y.rem rfl rfl OM) rfl ?_
    refine HL.take 7 rfl KR KR KR rfl (Y.move rfl) rfl ?_
    refine HL.step3 2 6 11 rfl rfl rfl KR ?_ ?_ ?_
    ·refine RL.callv rfl func39 rfl rfl (by exact id_ok _ _ _ _ AO AO) ?_
     refine RL.nil ⟨keep_same SB, ?_⟩
     refine HL.step3 5 6 11 rfl rfl rfl KR ?_ ?_ ?_
     ·refine RL.callv rfl func39 rfl rfl (by exact id_ok _ _ _ _ AO AO) ?_
      refine RL.nil ⟨keep_same SB, ?_⟩
      refine HL.step2 6 11 rfl rfl KR ?_ ?_
      ·refine RL.buildSlice [.string sPoint, .string sShape, .string sState, .string sEvent] elem48 rfl (by decide) (fill4s rfl rfl rfl rfl) rfl fun b35 => ?_
       refine RL.nil ⟨keep_same SB, ?_⟩
       refine HL.take 8 rfl KR KR KR rfl (Y.index i rfl rfl OM OM slice48 (fun _ _ => rfl)) rfl ?_
       refine HL.step2 9 11 rfl rfl KR ?_ ?_
       ·refine RL.q (Y.loadOwn rfl MM (nm4_at hi4) flat9) rfl ?_
        refine RL.nil ⟨keep_same SB, ?_⟩
        refine HL.take 10 rfl KR KR KR rfl (Y.build [_, _, _, _, _, _, _, _, _, _, _, _, _, _, _, _, _, _, _, _, _, _, _, _, _, _, _, _, _, _, _] rfl zero52 places52 (by rfl)) rfl ?_
        refine HL.step 11 rfl KR ?_
        refine RL.alloc _ zero52 rfl rfl fun b8 => ?_
        refine RL.nil ⟨keep_same SB, ?_⟩
        refine HL.step 12 rfl KR ?_
        first | refine RL.storeRds 31 rfl rfl RP MM EL (by first | exact Kn.lenRds MM EL | exact Kn.lenLit rfl) size52 ?_ | refine RL.storeAgg _ rfl rfl RP (by rfl) (by first | (simp; done) | simp [IdT.vals]) (by first | (simp [Value.oneCell']; done) | simp [Value.oneCell', IdT.vals]) size52 ?_
        refine RL.nil ⟨keep_same SB, ?_⟩
        refine HL.done KR ?_
        dsimp only [thenX]
        exact ⟨b8, (by repeat (first | exact Keep.nil _ | refine Keep.cons _ rfl ?_)), rfl, fun _ hw => hw.sub SB⟩
       refine RL.alloc _ zero52 rfl rfl fun b8 => ?_
       refine RL.nil ⟨keep_same SB, ?_⟩
       refine HL.step 9 rfl KR ?_
       refine RL.q (Y.loadOwn rfl MM (nm4_at hi4) flat9) rfl ?_
       refine RL.nil ⟨keep_same SB, ?_⟩
       refine HL.take 10 rfl KR KR KR rfl (Y.build [_, _, _, _, _, _, _, _, _, _, _, _, _, _, _, _, _, _, _, _, _, _, _, _, _, _, _, _, _, _, _] rfl zero52 places52 (by rfl)) rfl ?_
       refine HL.step 12 rfl KR ?_
       first | refine RL.storeRds 31 rfl rfl RP MM EL (by first | exact Kn.lenRds MM EL | exact Kn.lenLit rfl) size52 ?_ | refine RL.storeAgg _ rfl rfl RP (by rfl) (by first | (simp; done) | simp [IdT.vals]) (by first | (simp [Value.oneCell']; done) | simp [Value.oneCell', IdT.vals]) size52 ?_
       refine RL.nil ⟨keep_same SB, ?_⟩
       refine HL.done KR ?_
       dsimp only [thenX]
       exact ⟨b8, (by repeat (first | exact Keep.nil _ | refine Keep.cons _ rfl ?_)), rfl, fun _ hw => hw.sub SB⟩
      refine RL.alloc _ zero52 rfl rfl fun b8 => ?_
      refine RL.nil ⟨keep_same SB, ?_⟩
      refine HL.step 6 rfl KR ?_
      refine RL.buildSlice [.string sPoint, .string sShape, .string sState, .string sEvent] elem48 rfl (by decide) (fill4s rfl rfl rfl rfl) rfl fun b35 => ?_
      refine RL.nil ⟨keep_same SB, ?_⟩
      refine HL.take 8 rfl KR KR KR rfl (Y.index i rfl rfl OM OM slice48 (fun _ _ => rfl)) rfl ?_
      refine HL.step 9 rfl KR ?_
      refine RL.q (Y.loadOwn rfl MM (nm4_at hi4) flat9) rfl ?_
      refine RL.nil ⟨keep_same SB, ?_⟩
      refine HL.take 10 rfl KR KR KR rfl (Y.build [_, _, _, _, _, _, _, _, _, _, _, _, _, _, _, _, _, _, _, _, _, _, _, _, _, _, _, _, _, _, _] rfl zero52 places52 (by rfl)) rfl ?_
      refine HL.step 12 rfl KR ?_
      first | refine RL.storeRds 31 rfl rfl RP MM EL (by first | exact Kn.lenRds MM EL | exact Kn.lenLit rfl) size52 ?_ | refine RL.storeAgg _ rfl rfl RP (by rfl) (by first | (simp; done) | simp [IdT.vals]) (by first | (simp [Value.oneCell']; done) | simp [Value.oneCell', IdT.vals]) size52 ?_
      refine RL.nil ⟨keep_same SB, ?_⟩
      refine HL.done KR ?_
      dsimp only [thenX]
      exact ⟨b8, (by repeat (first | exact Keep.nil _ | refine Keep.cons _ rfl ?_)), rfl, fun _ hw => hw.sub SB⟩
     ·refine RL.buildSlice [.string sPoint, .string sShape, .string sState, .string sEvent] elem48 rfl (by decide) (fill4s rfl rfl rfl rfl) rfl fun b35 => ?_
      refine RL.nil ⟨keep_same SB, ?_⟩
      refine HL.take 8 rfl KR KR KR rfl (Y.index i rfl rfl OM OM slice48 (fun _ _ => rfl)) rfl ?_
      refine HL.step3 5 9 11 rfl rfl rfl KR ?_ ?_ ?_
      ·refine RL.callv rfl func39 rfl rfl (by exact id_ok _ _ _ _ AO AO) ?_
       refine RL.nil ⟨keep_same SB, ?_⟩
       refine HL.step2 9 11 rfl rfl KR ?_ ?_
       ·refine RL.q (Y.loadOwn rfl MM (nm4_at hi4) flat9) rfl ?_
        refine RL.nil ⟨keep_same SB, ?_⟩
        refine HL.take 10 rfl KR KR KR rfl (Y.build [_, _, _, _, _, _, _, _, _, _, _, _, _, _, _, _, _, _, _, _, _, _, _, _, _, _, _, _, _, _, _] rfl zero52 places52 (by rfl)) rfl ?_
        refine HL.step 11 rfl KR ?_
        refine RL.alloc _ zero52 rfl rfl fun b8 => ?_
        refine RL.nil ⟨keep_same SB, ?_⟩
        refine HL.step 12 rfl KR ?_
        first | refine RL.storeRds 31 rfl rfl RP MM EL (by first | exact Kn.lenRds MM EL | exact Kn.lenLit rfl) size52 ?_ | refine RL.storeAgg _ rfl rfl RP (by rfl) (by first | (simp; done) | simp [IdT.vals]) (by first | (simp [Value.oneCell']; done) | simp [Value.oneCell', IdT.vals]) size52 ?_
        refine RL.nil ⟨keep_same SB, ?_⟩
        refine HL.done KR ?_
        dsimp only [thenX]
        exact ⟨b8, (by repeat (first | exact Keep.nil _ | refine Keep.cons _ rfl ?_)), rfl, fun _ hw => hw.sub SB⟩
       refine RL.alloc _ zero52 rfl rfl fun b8 => ?_
       refine RL.nil ⟨keep_same SB, ?_⟩
       refine HL.step 9 rfl KR ?_
       refine RL.q (Y.loadOwn rfl MM (nm4_at hi4) flat9) rfl ?_
       refine RL.nil ⟨keep_same SB, ?_⟩
       refine HL.take 10 rfl KR KR KR rfl (Y.build [_, _, _, _, _, _, _, _, _, _, _, _, _, _, _, _, _, _, _, _, _, _, _, _, _, _, _, _, _, _, _] rfl zero52 places52 (by rfl)) rfl ?_
       refine HL.step 12 rfl KR ?_
       first | refine RL.storeRds 31 rfl rfl RP MM EL (by first | exact Kn.lenRds MM EL | exact Kn.lenLit rfl) size52 ?_ | refine RL.storeAgg _ rfl rfl RP (by rfl) (by first | (simp; done) | simp [IdT.vals]) (by first | (simp [Value.oneCell']; done) | simp [Value.oneCell', IdT.vals]) size52 ?_
       refine RL.nil ⟨keep_same SB, ?_⟩
       refine HL.done KR ?_
       dsimp only [thenX]
       exact ⟨b8, (by repeat (first | exact Keep.nil _ | refine Keep.cons _ rfl ?_)), rfl, fun _ hw => hw.sub SB⟩
      ·refine RL.q (Y.loadOwn rfl MM (nm4_at hi4) flat9) rfl ?_
       refine RL.nil ⟨keep_same SB, ?_⟩
       refine HL.step2 5 11 rfl rfl KR ?_ ?_
       ·refine RL.callv rfl func39 rfl rfl (by exact id_ok _ _ _ _ AO AO) ?_
        refine RL.nil ⟨keep_same SB, ?_⟩
        refine HL.take 10 rfl KR KR KR rfl (Y.build [_, _, _, _, _, _, _, _, _, _, _, _, _, _, _, _, _, _, _, _, _, _, _, _, _, _, _, _, _, _, _] rfl zero52 places52 (by rfl)) rfl ?_
        refine HL.step 11 rfl KR ?_
        refine RL.alloc _ zero52 rfl rfl fun b8 => ?_
        refine RL.nil ⟨keep_same SB, ?_⟩
        refine HL.step 12 rfl KR ?_
        first | refine RL.storeRds 31 rfl rfl RP MM EL (by first | exact Kn.lenRds MM EL | exact Kn.lenLit rfl) size52 ?_ | refine RL.storeAgg _ rfl rfl RP (by rfl) (by first | (simp; done) | simp [IdT.vals]) (by first | (simp [Value.oneCell']; done) | simp [Value.oneCell', IdT.vals]) size52 ?_
        refine RL.nil ⟨keep_same SB, ?_⟩
        refine HL.done KR ?_
        dsimp only [thenX]
        exact ⟨b8, (by repeat (first | exact Keep.nil _ | refine Keep.cons _ rfl ?_)), rfl, fun _ hw => hw.sub SB⟩
       refine RL.alloc _ zero52 rfl rfl fun b8 => ?_
       refine RL.nil ⟨keep_same SB, ?_⟩
       refine HL.step 5 rfl KR ?_
       refine RL.callv rfl func39 rfl rfl (by exact id_ok _ _ _ _ AO AO) ?_
       refine RL.nil ⟨keep_same SB, ?_⟩
       refine HL.take 10 rfl KR KR KR rfl (Y.build [_, _, _, _, _, _, _, _, _, _, _, _, _, _, _, _, _, _, _, _, _, _, _, _, _, _, _, _, _, _, _] rfl zero52 places52 (by rfl)) rfl ?_
       refine HL.step 12 rfl KR ?_
       first | refine RL.storeRds 31 rfl rfl RP MM EL (by first | exact Kn.lenRds MM EL | exact Kn.lenLit rfl) size52 ?_ | refine RL.storeAgg _ rfl rfl RP (by rfl) (by first | (simp; done) | simp [IdT.vals]) (by first | (simp [Value.oneCell']; done) | simp [Value.oneCell', IdT.vals]) size52 ?_
       refine RL.nil ⟨keep_same SB, ?_⟩
       refine HL.done KR ?_
       dsimp only [thenX]
       exact ⟨b8, (by repeat (first | exact Keep.nil _ | refine Keep.cons _ rfl ?_)), rfl, fun _ hw => hw.sub SB⟩
      refine RL.alloc _ zero52 rfl rfl fun b8 => ?_
      refine RL.nil ⟨keep_same SB, ?_⟩
      refine HL.step2 5 9 rfl rfl KR ?_ ?_
      ·refine RL.callv rfl func39 rfl rfl (by exact id_ok _ _ _ _ AO AO) ?_
       refine RL.nil ⟨keep_same SB, ?_⟩
       refine HL.step 9 rfl KR ?_
       refine RL.q (Y.loadOwn rfl MM (nm4_at hi4) flat9) rfl ?_
       refine RL.nil ⟨keep_same SB, ?_⟩
       refine HL.take 10 rfl KR KR KR rfl (Y.build [_, _, _, _, _, _, _, _, _, _, _, _, _, _, _, _, _, _, _, _, _, _, _, _, _, _, _, _, _, _, _] rfl zero52 places52 (by rfl)) rfl ?_
       refine HL.step 12 rfl KR ?_
       first | refine RL.storeRds 31 rfl rfl RP MM EL (by first | exact Kn.lenRds MM EL | exact Kn.lenLit rfl) size52 ?_ | refine RL.storeAgg _ rfl rfl RP (by rfl) (by first | (simp; done) | simp [IdT.vals]) (by first | (simp [Value.oneCell']; done) | simp [Value.oneCell', IdT.vals]) size52 ?_
       refine RL.nil ⟨keep_same SB, ?_⟩
       refine HL.done KR ?_
       dsimp only [thenX]
       exact ⟨b8, (by repeat (first | exact Keep.nil _ | refine Keep.cons _ rfl ?_)), rfl, fun _ hw => hw.sub SB⟩
      refine RL.q (Y.loadOwn rfl MM (nm4_at hi4) flat9) rfl ?_
      refine RL.nil ⟨keep_same SB, ?_⟩
      refine HL.step 5 rfl KR ?_
      refine RL.callv rfl func39 rfl rfl (by exact id_ok _ _ _ _ AO AO) ?_
      refine RL.nil ⟨keep_same SB, ?_⟩
      refine HL.take 10 rfl KR KR KR rfl (Y.build [_, _, _, _, _, _, _, _, _, _, _, _, _, _, _, _, _, _, _, _, _, _, _, _, _, _, _, _, _, _, _] rfl zero52 places52 (by rfl)) rfl ?_
      refine HL.step 12 rfl KR ?_
      first | refine RL.storeRds 31 rfl rfl RP MM EL (by first | exact Kn.lenRds MM EL | exact Kn.lenLit rfl) size52 ?_ | refine RL.storeAgg _ rfl rfl RP (by rfl) (by first | (simp; done) | simp [IdT.vals]) (by first | (simp [Value.oneCell']; done) | simp [Value.oneCell', IdT.vals]) size52 ?_
      refine RL.nil ⟨keep_same SB, ?_⟩
      refine HL.done KR ?_
      dsimp only [thenX]
      exact ⟨b8, (by repeat (first | exact Keep.nil _ | refine Keep.cons _ rfl ?_)), rfl, fun _ hw => hw.sub SB⟩
     refine RL.alloc _ zero52 rfl rfl fun b8 => ?_
     refine RL.nil ⟨keep_same SB, ?_⟩
     refine HL.step2 5 6 rfl rfl KR ?_ ?_
     ·refine RL.callv rfl func39 rfl rfl (by exact id_ok _ _ _ _ AO AO) ?_
      refine RL.nil ⟨keep_same SB, ?_⟩
      refine HL.step 6 rfl KR ?_
      refine RL.buildSlice [.string sPoint, .string sShape, .string sState, .string sEvent] elem48 rfl (by decide) (fill4s rfl rfl rfl rfl) rfl fun b35 => ?_
      refine RL.nil ⟨keep_same SB, ?_⟩
      refine HL.take 8 rfl KR KR KR rfl (Y.index i rfl rfl OM OM slice48 (fun _ _ => rfl)) rfl ?_
      refine HL.step 9 rfl KR ?_
      refine RL.q (Y.loadOwn rfl MM (nm4_at hi4) flat9) rfl ?_
      refine RL.nil ⟨keep_same SB, ?_⟩
      refine HL.take 10 rfl KR KR KR rfl (Y.build [_, _, _, _, _, _, _, _, _, _, _, _, _, _, _, _, _, _, _, _, _, _, _, _, _, _, _, _, _, _, _] rfl zero52 places52 (by rfl)) rfl ?_
      refine HL.step 12 rfl KR ?_
      first | refine RL.storeRds 31 rfl rfl RP MM EL (by first | exact Kn.lenRds MM EL | exact Kn.lenLit rfl) size52 ?_ | refine RL.storeAgg _ rfl rfl RP (by rfl) (by first | (simp; done) | simp [IdT.vals]) (by first | (simp [Value.oneCell']; done) | simp [Value.oneCell', IdT.vals]) size52 ?_
      refine RL.nil ⟨keep_same SB, ?_⟩
      refine HL.done KR ?_
      dsimp only [thenX]
      exact ⟨b8, (by repeat (first | exact Keep.nil _ | refine Keep.cons _ rfl ?_)), rfl, fun _ hw => hw.sub SB⟩
     refine RL.buildSlice [.string sPoint, .string sShape, .string sState, .string sEvent] elem48 rfl (by decide) (fill4s rfl rfl rfl rfl) rfl fun b35 => ?_
     refine RL.nil ⟨keep_same SB, ?_⟩
     refine HL.take 8 rfl KR KR KR rfl (Y.index i rfl rfl OM OM slice48 (fun _ _ => rfl)) rfl ?_
     refine HL.step2 5 9 rfl rfl KR ?_ ?_
     ·refine RL.callv rfl func39 rfl rfl (by exact id_ok _ _ _ _ AO AO) ?_
      refine RL.nil ⟨keep_same SB, ?_⟩
      refine HL.step 9 rfl KR ?_
      refine RL.q (Y.loadOwn rfl MM (nm4_at hi4) flat9) rfl ?_
      refine RL.nil ⟨keep_same SB, ?_⟩
      refine HL.take 10 rfl KR KR KR rfl (Y.build [_, _, _, _, _, _, _, _, _, _, _, _, _, _, _, _, _, _, _, _, _, _, _, _, _, _, _, _, _, _, _] rfl zero52 places52 (by rfl)) rfl ?_
      refine HL.step 12 rfl KR ?_
      first | refine RL.storeRds 31 rfl rfl RP MM EL (by first | exact Kn.lenRds MM EL | exact Kn.lenLit rfl) size52 ?_ | refine RL.storeAgg _ rfl rfl RP (by rfl) (by first | (simp; done) | simp [IdT.vals]) (by first | (simp [Value.oneCell']; done) | simp [Value.oneCell', IdT.vals]) size52 ?_
      refine RL.nil ⟨keep_same SB, ?_⟩
      refine HL.done KR ?_
      dsimp only [thenX]
      exact ⟨b8, (by repeat (first | exact Keep.nil _ | refine Keep.cons _ rfl ?_)), rfl, fun _ hw => hw.sub SB⟩
     refine RL.q (Y.loadOwn rfl MM (nm4_at hi4) flat9) rfl ?_
     refine RL.nil ⟨keep_same SB, ?_⟩
     refine HL.step 5 rfl KR ?_
     refine RL.callv rfl func39 rfl rfl (by exact id_ok _ _ _ _ AO AO) ?_
     refine RL.nil ⟨keep_same SB, ?_⟩
     refine HL.take 10 rfl KR KR KR rfl (Y.build [_, _, _, _, _, _, _, _, _, _, _, _, _, _, _, _, _, _, _, _, _, _, _, _, _, _, _, _, _, _, _] rfl zero52 places52 (by rfl)) rfl ?_
     refine HL.step 12 rfl KR ?_
     first | refine RL.storeRds 31 rfl rfl RP MM EL (by first | exact Kn.lenRds MM EL | exact Kn.lenLit rfl) size52 ?_ | refine RL.storeAgg _ rfl rfl RP (by rfl) (by first | (simp; done) | simp [IdT.vals]) (by first | (simp [Value.oneCell']; done) | simp [Value.oneCell', IdT.vals]) size52 ?_
     refine RL.nil ⟨keep_same SB, ?_⟩
     refine HL.done KR ?_
     dsimp only [thenX]
     exact ⟨b8, (by repeat (first | exact Keep.nil _ | refine Keep.cons _ rfl ?_)), rfl, fun _ hw => hw.sub SB⟩
    ·refine RL.buildSlice [.string sPoint, .string sShape, .string sState, .string sEvent] elem48 rfl (by decide) (fill4s rfl rfl rfl rfl) rfl fun b35 => ?_
     refine RL.nil ⟨keep_same SB, ?_⟩
     refine HL.take 8 rfl KR KR KR rfl (Y.index i rfl rfl OM OM slice48 (fun _ _ => rfl)) rfl ?_
     refine HL.step3 2 9 11 rfl rfl rfl KR ?_ ?_ ?_
     ·refine RL.callv rfl func39 rfl rfl (by exact id_ok _ _ _ _ AO AO) ?_
      refine RL.nil ⟨keep_same SB, ?_⟩
      refine HL.step3 5 9 11 rfl rfl rfl KR ?_ ?_ ?_
      ·refine RL.callv rfl func39 rfl rfl (by exact id_ok _ _ _ _ AO AO) ?_
       refine RL.nil ⟨keep_same SB, ?_⟩
       refine HL.step2 9 11 rfl rfl KR ?_ ?_
       ·refine RL.q (Y.loadOwn rfl MM (nm4_at hi4) flat9) rfl ?_
        refine RL.nil ⟨keep_same SB, ?_⟩
        refine HL.take 10 rfl KR KR KR rfl (Y.build [_, _, _, _, _, _, _, _, _, _, _, _, _, _, _, _, _, _, _, _, _, _, _, _, _, _, _, _, _, _, _] rfl zero52 places52 (by rfl)) rfl ?_
        refine HL.step 11 rfl KR ?_
        refine RL.alloc _ zero52 rfl rfl fun b8 => ?_
        refine RL.nil ⟨keep_same SB, ?_⟩
        refine HL.step 12 rfl KR ?_
        first | refine RL.storeRds 31 rfl rfl RP MM EL (by first | exact Kn.lenRds MM EL | exact Kn.lenLit rfl) size52 ?_ | refine RL.storeAgg _ rfl rfl RP (by rfl) (by first | (simp; done) | simp [IdT.vals]) (by first | (simp [Value.oneCell']; done) | simp [Value.oneCell', IdT.vals]) size52 ?_
        refine RL.nil ⟨keep_same SB, ?_⟩
        refine HL.done KR ?_
        dsimp only [thenX]
        exact ⟨b8, (by repeat (first | exact Keep.nil _ | refine Keep.cons _ rfl ?_)), rfl, fun _ hw => hw.sub SB⟩
       refine RL.alloc _ zero52 rfl rfl fun b8 => ?_
       refine RL.nil ⟨keep_same SB, ?_⟩
       refine HL.step 9 rfl KR ?_
       refine RL.q (Y.loadOwn rfl MM (nm4_at hi4) flat9) rfl ?_
       refine RL.nil ⟨keep_same SB, ?_⟩
       refine HL.take 10 rfl KR KR KR rfl (Y.build [_, _, _, _, _, _, _, _, _, _, _, _, _, _, _, _, _, _, _, _, _, _, _, _, _, _, _, _, _, _, _] rfl zero52 places52 (by rfl)) rfl ?_
       refine HL.step 12 rfl KR ?_
       first | refine RL.storeRds 31 rfl rfl RP MM EL (by first | exact Kn.lenRds MM EL | exact Kn.lenLit rfl) size52 ?_ | refine RL.storeAgg _ rfl rfl RP (by rfl) (by first | (simp; done) | simp [IdT.vals]) (by first | (simp [Value.oneCell']; done) | simp [Value.oneCell', IdT.vals]) size52 ?_
       refine RL.nil ⟨keep_same SB, ?_⟩
       refine HL.done KR ?_
       dsimp only [thenX]
       exact ⟨b8, (by repeat (first | exact Keep.nil _ | refine Keep.cons _ rfl ?_)), rfl, fun _ hw => hw.sub SB⟩
      ·refine RL.q (Y.loadOwn rfl MM (nm4_at hi4) flat9) rfl ?_
       refine RL.nil ⟨keep_same SB, ?_⟩
       refine HL.step2 5 11 rfl rfl KR ?_ ?_
       ·refine RL.callv rfl func39 rfl rfl (by exact id_ok _ _ _ _ AO AO) ?_
        refine RL.nil ⟨keep_same SB, ?_⟩
        refine HL.take 10 rfl KR KR KR rfl (Y.build [_, _, _, _, _, _, _, _, _, _, _, _, _, _, _, _, _, _, _, _, _, _, _, _, _, _, _, _, _, _, _] rfl zero52 places52 (by rfl)) rfl ?_
        refine HL.step 11 rfl KR ?_
        refine RL.alloc _ zero52 rfl rfl fun b8 => ?_
        refine RL.nil ⟨keep_same SB, ?_⟩
        refine HL.step 12 rfl KR ?_
        first | refine RL.storeRds 31 rfl rfl RP MM EL (by first | exact Kn.lenRds MM EL | exact Kn.lenLit rfl) size52 ?_ | refine RL.storeAgg _ rfl rfl RP (by rfl) (by first | (simp; done) | simp [IdT.vals]) (by first | (simp [Value.oneCell']; done) | simp [Value.oneCell', IdT.vals]) size52 ?_
        refine RL.nil ⟨keep_same SB, ?_⟩
        refine HL.done KR ?_
        dsimp only [thenX]
        exact ⟨b8, (by repeat (first | exact Keep.nil _ | refine Keep.cons _ rfl ?_)), rfl, fun _ hw => hw.sub SB⟩
       refine RL.alloc _ zero52 rfl rfl fun b8 => ?_
       refine RL.nil ⟨keep_same SB, ?_⟩
       refine HL.step 5 rfl KR ?_
       refine RL.callv rfl func39 rfl rfl (by exact id_ok _ _ _ _ AO AO) ?_
       refine RL.nil ⟨keep_same SB, ?_⟩
       refine HL.take 10 rfl KR KR KR rfl (Y.build [_, _, _, _, _, _, _, _, _, _, _, _, _, _, _, _, _, _, _, _, _, _, _, _, _, _, _, _, _, _, _] rfl zero52 places52 (by rfl)) rfl ?_
       refine HL.step 12 rfl KR ?_
       first | refine RL.storeRds 31 rfl rfl RP MM EL (by first | exact Kn.lenRds MM EL | exact Kn.lenLit rfl) size52 ?_ | refine RL.storeAgg _ rfl rfl RP (by rfl) (by first | (simp; done) | simp [IdT.vals]) (by first | (simp [Value.oneCell']; done) | simp [Value.oneCell', IdT.vals]) size52 ?_
       refine RL.nil ⟨keep_same SB, ?_⟩
       refine HL.done KR ?_
       dsimp only [thenX]
       exact ⟨b8, (by repeat (first | exact Keep.nil _ | refine Keep.cons _ rfl ?_)), rfl, fun _ hw => hw.sub SB⟩
      refine RL.alloc _ zero52 rfl rfl fun b8 => ?_
      refine RL.nil ⟨keep_same SB, ?_⟩
      refine HL.step2 5 9 rfl rfl KR ?_ ?_
      ·refine RL.callv rfl func39 rfl rfl (by exact id_ok _ _ _ _ AO AO) ?_
       refine RL.nil ⟨keep_same SB, ?_⟩
       refine HL.step 9 rfl KR ?_
       refine RL.q (Y.loadOwn rfl MM (nm4_at hi4) flat9) rfl ?_
       refine RL.nil ⟨keep_same SB, ?_⟩
       refine HL.take 10 rfl KR KR KR rfl (Y.build [_, _, _, _, _, _, _, _, _, _, _, _, _, _, _, _, _, _, _, _, _, _, _, _, _, _, _, _, _, _, _] rfl zero52 places52 (by rfl)) rfl ?_
       refine HL.step 12 rfl KR ?_
       first | refine RL.storeRds 31 rfl rfl RP MM EL (by first | exact Kn.lenRds MM EL | exact Kn.lenLit rfl) size52 ?_ | refine RL.storeAgg _ rfl rfl RP (by rfl) (by first | (simp; done) | simp [IdT.vals]) (by first | (simp [Value.oneCell']; done) | simp [Value.oneCell', IdT.vals]) size52 ?_
       refine RL.nil ⟨keep_same SB, ?_⟩
       refine HL.done KR ?_
       dsimp only [thenX]
       exact ⟨b8, (by repeat (first | exact Keep.nil _ | refine Keep.cons _ rfl ?_)), rfl, fun _ hw => hw.sub SB⟩
      refine RL.q (Y.loadOwn rfl MM (nm4_at hi4) flat9) rfl ?_
      refine RL.nil ⟨keep_same SB, ?_⟩
      refine HL.step 5 rfl KR ?_
      refine RL.callv rfl func39 rfl rfl (by exact id_ok _ _ _ _ AO AO) ?_
      refine RL.nil ⟨keep_same SB, ?_⟩
      refine HL.take 10 rfl KR KR KR rfl (Y.build [_, _, _, _, _, _, _, _, _, _, _, _, _, _, _, _, _, _, _, _, _, _, _, _, _, _, _, _, _, _, _] rfl zero52 places52 (by rfl)) rfl ?_
      refine HL.step 12 rfl KR ?_
      first | refine RL.storeRds 31 rfl rfl RP MM EL (by first | exact Kn.lenRds MM EL | exact Kn.lenLit rfl) size52 ?_ | refine RL.storeAgg _ rfl rfl RP (by rfl) (by first | (simp; done) | simp [IdT.vals]) (by first | (simp [Value.oneCell']; done) | simp [Value.oneCell', IdT.vals]) size52 ?_
      refine RL.nil ⟨keep_same SB, ?_⟩
      refine HL.done KR ?_
      dsimp only [thenX]
      exact ⟨b8, (by repeat (first | exact Keep.nil _ | refine Keep.cons _ rfl ?_)), rfl, fun _ hw => hw.sub SB⟩
     ·refine RL.q (Y.loadOwn rfl MM (nm4_at hi4) flat9) rfl ?_
      refine RL.nil ⟨keep_same SB, ?_⟩
      refine HL.step2 2 11 rfl rfl KR ?_ ?_
      ·refine RL.callv rfl func39 rfl rfl (by exact id_ok _ _ _ _ AO AO) ?_
       refine RL.nil ⟨keep_same SB, ?_⟩
       refine HL.step2 5 11 rfl rfl KR ?_ ?_
       ·refine RL.callv rfl func39 rfl rfl (by exact id_ok _ _ _ _ AO AO) ?_
        refine RL.nil ⟨keep_same SB, ?_⟩
        refine HL.take 10 rfl KR KR KR rfl (Y.build [_, _, _, _, _, _, _, _, _, _, _, _, _, _, _, _, _, _, _, _, _, _, _, _, _, _, _, _, _, _, _] rfl zero52 places52 (by rfl)) rfl ?_
        refine HL.step 11 rfl KR ?_
        refine RL.alloc _ zero52 rfl rfl fun b8 => ?_
        refine RL.nil ⟨keep_same SB, ?_⟩
        refine HL.step 12 rfl KR ?_
        first | refine RL.storeRds 31 rfl rfl RP MM EL (by first | exact Kn.lenRds MM EL | exact Kn.lenLit rfl) size52 ?_ | refine RL.storeAgg _ rfl rfl RP (by rfl) (by first | (simp; done) | simp [IdT.vals]) (by first | (simp [Value.oneCell']; done) | simp [Value.oneCell', IdT.vals]) size52 ?_
        refine RL.nil ⟨keep_same SB, ?_⟩
        refine HL.done KR ?_
        dsimp only [thenX]
        exact ⟨b8, (by repeat (first | exact Keep.nil _ | refine Keep.cons _ rfl ?_)), rfl, fun _ hw => hw.sub SB⟩
       refine RL.alloc _ zero52 rfl rfl fun b8 => ?_
       refine RL.nil ⟨keep_same SB, ?_⟩
       refine HL.step 5 rfl KR ?_
       refine RL.callv rfl func39 rfl rfl (by exact id_ok _ _ _ _ AO AO) ?_
       refine RL.nil ⟨keep_same SB, ?_⟩
       refine HL.take 10 rfl KR KR KR rfl (Y.build [_, _, _, _, _, _, _, _, _, _, _, _, _, _, _, _, _, _, _, _, _, _, _, _, _, _, _, _, _, _, _] rfl zero52 places52 (by rfl)) rfl ?_
       refine HL.step 12 rfl KR ?_
       first | refine RL.storeRds 31 rfl rfl RP MM EL (by first | exact Kn.lenRds MM EL | exact Kn.lenLit rfl) size52 ?_ | refine RL.storeAgg _ rfl rfl RP (by rfl) (by first | (simp; done) | simp [IdT.vals]) (by first | (simp [Value.oneCell']; done) | simp [Value.oneCell', IdT.vals]) size52 ?_
       refine RL.nil ⟨keep_same SB, ?_⟩
       refine HL.done KR ?_
       dsimp only [thenX]
       exact ⟨b8, (by repeat (first | exact Keep.nil _ | refine Keep.cons _ rfl ?_)), rfl, fun _ hw => hw.sub SB⟩
      refine RL.alloc _ zero52 rfl rfl fun b8 => ?_
      refine RL.nil ⟨keep_same SB, ?_⟩
      refine HL.step 2 rfl KR ?_
      refine RL.callv rfl func39 rfl rfl (by exact id_ok _ _ _ _ AO AO) ?_
      refine RL.nil ⟨keep_same SB, ?_⟩
      refine HL.step 5 rfl KR ?_
      refine RL.callv rfl func39 rfl rfl (by exact id_ok _ _ _ _ AO AO) ?_
      refine RL.nil ⟨keep_same SB, ?_⟩
      refine HL.take 10 rfl KR KR KR rfl (Y.build [_, _, _, _, _, _, _, _, _, _, _, _, _, _, _, _, _, _, _, _, _, _, _, _, _, _, _, _, _, _, _] rfl zero52 places52 (by rfl)) rfl ?_
      refine HL.step 12 rfl KR ?_
      first | refine RL.storeRds 31 rfl rfl RP MM EL (by first | exact Kn.lenRds MM EL | exact Kn.lenLit rfl) size52 ?_ | refine RL.storeAgg _ rfl rfl RP (by rfl) (by first | (simp; done) | simp [IdT.vals]) (by first | (simp [Value.oneCell']; done) | simp [Value.oneCell', IdT.vals]) size52 ?_
      refine RL.nil ⟨keep_same SB, ?_⟩
      refine HL.done KR ?_
      dsimp only [thenX]
      exact ⟨b8, (by repeat (first | exact Keep.nil _ | refine Keep.cons _ rfl ?_)), rfl, fun _ hw => hw.sub SB⟩
     refine RL.alloc _ zero52 rfl rfl fun b8 => ?_
     refine RL.nil ⟨keep_same SB, ?_⟩
     refine HL.step2 2 9 rfl rfl KR ?_ ?_
     ·refine RL.callv rfl func39 rfl rfl (by exact id_ok _ _ _ _ AO AO) ?_
      refine RL.nil ⟨keep_same SB, ?_⟩
      refine HL.step2 5 9 rfl rfl KR ?_ ?_
      ·refine RL.callv rfl func39 rfl rfl (by exact id_ok _ _ _ _ AO AO) ?_
       refine RL.nil ⟨keep_same SB, ?_⟩
       refine HL.step 9 rfl KR ?_
       refine RL.q (Y.loadOwn rfl MM (nm4_at hi4) flat9) rfl ?_
       refine RL.nil ⟨keep_same SB, ?_⟩
       refine HL.take 10 rfl KR KR KR rfl (Y.build [_, _, _, _, _, _, _, _, _, _, _, _, _, _, _, _, _, _, _, _, _, _, _, _, _, _, _, _, _, _, _] rfl zero52 places52 (by rfl)) rfl ?_
       refine HL.step 12 rfl KR ?_
       first | refine RL.storeRds 31 rfl rfl RP MM EL (by first | exact Kn.lenRds MM EL | exact Kn.lenLit rfl) size52 ?_ | refine RL.storeAgg _ rfl rfl RP (by rfl) (by first | (simp; done) | simp [IdT.vals]) (by first | (simp [Value.oneCell']; done) | simp [Value.oneCell', IdT.vals]) size52 ?_
       refine RL.nil ⟨keep_same SB, ?_⟩
       refine HL.done KR ?_
       dsimp only [thenX]
       exact ⟨b8, (by repeat (first | exact Keep.nil _ | refine Keep.cons _ rfl ?_)), rfl, fun _ hw => hw.sub SB⟩
      refine RL.q (Y.loadOwn rfl MM (nm4_at hi4) flat9) rfl ?_
      refine RL.nil ⟨keep_same SB, ?_⟩
      refine HL.step 5 rfl KR ?_
      refine RL.callv rfl func39 rfl rfl (by exact id_ok _ _ _ _ AO AO) ?_
      refine RL.nil ⟨keep_same SB, ?_⟩
      refine HL.take 10 rfl KR KR KR rfl (Y.build [_, _, _, _, _, _, _, _, _, _, _, _, _, _, _, _, _, _, _, _, _, _, _, _, _, _, _, _, _, _, _] rfl zero52 places52 (by rfl)) rfl ?_
      refine HL.step 12 rfl KR ?_
      first | refine RL.storeRds 31 rfl rfl RP MM EL (by first | exact Kn.lenRds MM EL | exact Kn.lenLit rfl) size52 ?_ | refine RL.storeAgg _ rfl rfl RP (by rfl) (by first | (simp; done) | simp [IdT.vals]) (by first | (simp [Value.oneCell']; done) | simp [Value.oneCell', IdT.vals]) size52 ?_
      refine RL.nil ⟨keep_same SB, ?_⟩
      refine HL.done KR ?_
      dsimp only [thenX]
      exact ⟨b8, (by repeat (first | exact Keep.nil _ | refine Keep.cons _ rfl ?_)), rfl, fun _ hw => hw.sub SB⟩
     refine RL.q (Y.loadOwn rfl MM (nm4_at hi4) flat9) rfl ?_
     refine RL.nil ⟨keep_same SB, ?_⟩
     refine HL.step 2 rfl KR ?_
     refine RL.callv rfl func39 rfl rfl (by exact id_ok _ _ _ _ AO AO) ?_
     refine RL.nil ⟨keep_same SB, ?_⟩
     refine HL.step 5 rfl KR ?_
     refine RL.callv rfl func39 rfl rfl (by exact id_ok _ _ _ _ AO AO) ?_
     refine RL.nil ⟨keep_same SB, ?_⟩
     refine HL.take 10 rfl KR KR KR rfl (Y.build [_, _, _, _, _, _, _, _, _, _, _, _, _, _, _, _, _, _, _, _, _, _, _, _, _, _, _, _, _, _, _] rfl zero52 places52 (by rfl)) rfl ?_
     refine HL.step 12 rfl KR ?_
     first | refine RL.storeRds 31 rfl rfl RP MM EL (by first | exact Kn.lenRds MM EL | exact Kn.lenLit rfl) size52 ?_ | refine RL.storeAgg _ rfl rfl RP (by rfl) (by first | (simp; done) | simp [IdT.vals]) (by first | (simp [Value.oneCell']; done) | simp [Value.oneCell', IdT.vals]) size52 ?_
     refine RL.nil ⟨keep_same SB, ?_⟩
     refine HL.done KR ?_
     dsimp only [thenX]
     exact ⟨b8, (by repeat (first | exact Keep.nil _ | refine Keep.cons _ rfl ?_)), rfl, fun _ hw => hw.sub SB⟩
    refine RL.alloc _ zero52 rfl rfl fun b8 => ?_
    refine RL.nil ⟨keep_same SB, ?_⟩
    refine HL.step2 2 6 rfl rfl KR ?_ ?_
    ·refine RL.callv rfl func39 rfl rfl (by exact id_ok _ _ _ _ AO AO) ?_
     refine RL.nil ⟨keep_same SB, ?_⟩
     refine HL.step2 5 6 rfl rfl KR ?_ ?_
     ·refine RL.callv rfl func39 rfl rfl (by exact id_ok _ _ _ _ AO AO) ?_
      refine RL.nil ⟨keep_same SB, ?_⟩
      refine HL.step 6 rfl KR ?_
      refine RL.buildSlice [.string sPoint, .string sShape, .string sState, .string sEvent] elem48 rfl (by decide) (fill4s rfl rfl rfl rfl) rfl fun b35 => ?_
      refine RL.nil ⟨keep_same SB, ?_⟩
      refine HL.take 8 rfl KR KR KR rfl (Y.index i rfl rfl OM OM slice48 (fun _ _ => rfl)) rfl ?_
      refine HL.step 9 rfl KR ?_
      refine RL.q (Y.loadOwn rfl MM (nm4_at hi4) flat9) rfl ?_
      refine RL.nil ⟨keep_same SB, ?_⟩
      refine HL.take 10 rfl KR KR KR rfl (Y.build [_, _, _, _, _, _, _, _, _, _, _, _, _, _, _, _, _, _, _, _, _, _, _, _, _, _, _, _, _, _, _] rfl zero52 places52 (by rfl)) rfl ?_
      refine HL.step 12 rfl KR ?_
      first | refine RL.storeRds 31 rfl rfl RP MM EL (by first | exact Kn.lenRds MM EL | exact Kn.lenLit rfl) size52 ?_ | refine RL.storeAgg _ rfl rfl RP (by rfl) (by first | (simp; done) | simp [IdT.vals]) (by first | (simp [Value.oneCell']; done) | simp [Value.oneCell', IdT.vals]) size52 ?_
      refine RL.nil ⟨keep_same SB, ?_⟩
      refine HL.done KR ?_
      dsimp only [thenX]
      exact ⟨b8, (by repeat (first | exact Keep.nil _ | refine Keep.cons _ rfl ?_)), rfl, fun _ hw => hw.sub SB⟩
     refine RL.buildSlice [.string sPoint, .string sShape, .string sState, .string sEvent] elem48 rfl (by decide) (fill4s rfl rfl rfl rfl) rfl fun b35 => ?_
     refine RL.nil ⟨keep_same SB, ?_⟩
     refine HL.take 8 rfl KR KR KR rfl (Y.index i rfl rfl OM OM slice48 (fun _ _ => rfl)) rfl ?_
     refine HL.step2 5 9 rfl rfl KR ?_ ?_
     ·refine RL.callv rfl func39 rfl rfl (by exact id_ok _ _ _ _ AO AO) ?_
      refine RL.nil ⟨keep_same SB, ?_⟩
      refine HL.step 9 rfl KR ?_
      refine RL.q (Y.loadOwn rfl MM (nm4_at hi4) flat9) rfl ?_
      refine RL.nil ⟨keep_same SB, ?_⟩
      refine HL.take 10 rfl KR KR KR rfl (Y.build [_, _, _, _, _, _, _, _, _, _, _, _, _, _, _, _, _, _, _, _, _, _, _, _, _, _, _, _, _, _, _] rfl zero52 places52 (by rfl)) rfl ?_
      refine HL.step 12 rfl KR ?_
      first | refine RL.storeRds 31 rfl rfl RP MM EL (by first | exact Kn.lenRds MM EL | exact Kn.lenLit rfl) size52 ?_ | refine RL.storeAgg _ rfl rfl RP (by rfl) (by first | (simp; done) | simp [IdT.vals]) (by first | (simp [Value.oneCell']; done) | simp [Value.oneCell', IdT.vals]) size52 ?_
      refine RL.nil ⟨keep_same SB, ?_⟩
      refine HL.done KR ?_
      dsimp only [thenX]
      exact ⟨b8, (by repeat (first | exact Keep.nil _ | refine Keep.cons _ rfl ?_)), rfl, fun _ hw => hw.sub SB⟩
     refine RL.q (Y.loadOwn rfl MM (nm4_at hi4) flat9) rfl ?_
     refine RL.nil ⟨keep_same SB, ?_⟩
     refine HL.step 5 rfl KR ?_
     refine RL.callv rfl func39 rfl rfl (by exact id_ok _ _ _ _ AO AO) ?_
     refine RL.nil ⟨keep_same SB, ?_⟩
     refine HL.take 10 rfl KR KR KR rfl (Y.build [_, _, _, _, _, _, _, _, _, _, _, _, _, _, _, _, _, _, _, _, _, _, _, _, _, _, _, _, _, _, _] rfl zero52 places52 (by rfl)) rfl ?_
     refine HL.step 12 rfl KR ?_
     first | refine RL.storeRds 31 rfl rfl RP MM EL (by first | exact Kn.lenRds MM EL | exact Kn.lenLit rfl) size52 ?_ | refine RL.storeAgg _ rfl rfl RP (by rfl) (by first | (simp; done) | simp [IdT.vals]) (by first | (simp [Value.oneCell']; done) | simp [Value.oneCell', IdT.vals]) size52 ?_
     refine RL.nil ⟨keep_same SB, ?_⟩
     refine HL.done KR ?_
     dsimp only [thenX]
     exact ⟨b8, (by repeat (first | exact Keep.nil _ | refine Keep.cons _ rfl ?_)), rfl, fun _ hw => hw.sub SB⟩
    refine RL.buildSlice [.string sPoint, .string sShape, .string sState, .string sEvent] elem48 rfl (by decide) (fill4s rfl rfl rfl rfl) rfl fun b35 => ?_
    refine RL.nil ⟨keep_same SB, ?_⟩
    refine HL.take 8 rfl KR KR KR rfl (Y.index i rfl rfl OM OM slice48 (fun _ _ => rfl)) rfl ?_
    refine HL.step2 2 9 rfl rfl KR ?_ ?_
    ·refine RL.callv rfl func39 rfl rfl (by exact id_ok _ _ _ _ AO AO) ?_
     refine RL.nil ⟨keep_same SB, ?_⟩
     refine HL.step2 5 9 rfl rfl KR ?_ ?_
     ·refine RL.callv rfl func39 rfl rfl (by exact id_ok _ _ _ _ AO AO) ?_
      refine RL.nil ⟨keep_same SB, ?_⟩
      refine HL.step 9 rfl KR ?_
      refine RL.q (Y.loadOwn rfl MM (nm4_at hi4) flat9) rfl ?_
      refine RL.nil ⟨keep_same SB, ?_⟩
      refine HL.take 10 rfl KR KR KR rfl (Y.build [_, _, _, _, _, _, _, _, _, _, _, _, _, _, _, _, _, _, _, _, _, _, _, _, _, _, _, _, _, _, _] rfl zero52 places52 (by rfl)) rfl ?_
      refine HL.step 12 rfl KR ?_
      first | refine RL.storeRds 31 rfl rfl RP MM EL (by first | exact Kn.lenRds MM EL | exact Kn.lenLit rfl) size52 ?_ | refine RL.storeAgg _ rfl rfl RP (by rfl) (by first | (simp; done) | simp [IdT.vals]) (by first | (simp [Value.oneCell']; done) | simp [Value.oneCell', IdT.vals]) size52 ?_
      refine RL.nil ⟨keep_same SB, ?_⟩
      refine HL.done KR ?_
      dsimp only [thenX]
      exact ⟨b8, (by repeat (first | exact Keep.nil _ | refine Keep.cons _ rfl ?_)), rfl, fun _ hw => hw.sub SB⟩
     refine RL.q (Y.loadOwn rfl MM (nm4_at hi4) flat9) rfl ?_
     refine RL.nil ⟨keep_same SB, ?_⟩
     refine HL.step 5 rfl KR ?_
     refine RL.callv rfl func39 rfl rfl (by exact id_ok _ _ _ _ AO AO) ?_
     refine RL.nil ⟨keep_same SB, ?_⟩
     refine HL.take 10 rfl KR KR KR rfl (Y.build [_, _, _, _, _, _, _, _, _, _, _, _, _, _, _, _, _, _, _, _, _, _, _, _, _, _, _, _, _, _, _] rfl zero52 places52 (by rfl)) rfl ?_
     refine HL.step 12 rfl KR ?_
     first | refine RL.storeRds 31 rfl rfl RP MM EL (by first | exact Kn.lenRds MM EL | exact Kn.lenLit rfl) size52 ?_ | refine RL.storeAgg _ rfl rfl RP (by rfl) (by first | (simp; done) | simp [IdT.vals]) (by first | (simp [Value.oneCell']; done) | simp [Value.oneCell', IdT.vals]) size52 ?_
     refine RL.nil ⟨keep_same SB, ?_⟩
     refine HL.done KR ?_
     dsimp only [thenX]
     exact ⟨b8, (by repeat (first | exact Keep.nil _ | refine Keep.cons _ rfl ?_)), rfl, fun _ hw => hw.sub SB⟩
    refine RL.q (Y.loadOwn rfl MM (nm4_at hi4) flat9) rfl ?_
    refine RL.nil ⟨keep_same SB, ?_⟩
    refine HL.step 2 rfl KR ?_
    refine RL.callv rfl func39 rfl rfl (by exact id_ok _ _ _ _ AO AO) ?_
    refine RL.nil ⟨keep_same SB, ?_⟩
    refine HL.step 5 rfl KR ?_
    refine RL.callv rfl func39 rfl rfl (by exact id_ok _ _ _ _ AO AO) ?_
    refine RL.nil ⟨keep_same SB, ?_⟩
    refine HL.take 10 rfl KR KR KR rfl (Y.build [_, _, _, _, _, _, _, _, _, _, _, _, _, _, _, _, _, _, _, _, _, _, _, _, _, _, _, _, _, _, _] rfl zero52 places52 (by rfl)) rfl ?_
    refine HL.step 12 rfl KR ?_
    first | refine RL.storeRds 31 rfl rfl RP MM EL (by first | exact Kn.lenRds MM EL | exact Kn.lenLit rfl) size52 ?_ | refine RL.storeAgg _ rfl rfl RP (by rfl) (by first | (simp; done) | simp [IdT.vals]) (by first | (simp [Value.oneCell']; done) | simp [Value.oneCell', IdT.vals]) size52 ?_
    refine RL.nil ⟨keep_same SB, ?_⟩
    refine HL.done KR ?_
    dsimp only [thenX]
    exact ⟨b8, (by repeat (first | exact Keep.nil _ | refine Keep.cons _ rfl ?_)), rfl, fun _ hw => hw.sub SB⟩
   rintro _ M1 Γ8 ⟨b8, hk8, rfl, hG8⟩
   refine CW.pre ?_ hk8 hG8
   refine CW.seq fun K11 hK11 => ?_
   refine CW.region ?_
   refine RL.q (Y.move rfl) rfl ?_
   refine RL.q (Y.quo rfl rfl OM OM) rfl ?_
   refine RL.q (Y.rem rfl rfl OM) rfl ?_
   refine RL.q (Y.add rfl rfl OM) rfl ?_
   refine RL.q (Y.assign rfl) rfl ?_
   refine RL.nil ?_
   refine hK11 _ _ _ ?_
   refine CW.kp [0, 2, 3, 4, 5, 6, 8, 9] rfl ?_
   rw [← hac]
   refine CW.seq fun K12 hK12 => ?_
   refine CW.seq fun K13 hK13 => ?_
   refine CW.region ?_
   refine RL.q (Y.assign rfl) rfl ?_
   refine RL.nil ?_
   refine hK13 _ _ _ ?_
   refine CW.kp [0, 2, 3, 4, 5, 6, 8, 9, 10] rfl ?_
   refine CW.block ?_
   -- LOOP 2: live [0, 2, 3, 4, 5, 6, 8, 9, 10] changed [5, 10]
   refine CW.kp [5, 10, 0, 2, 3, 4, 6, 8, 9] rfl ?_
   refine CW.front (x := .own b8 52 _) PK ?_
   refine CW.accNil 68 11 ?_
   refine CW.addRds (RdL.nil _) ?_
   refine CW.loopF (fun m Lc M2 Γc => ∃ (j : Nat) (xa : Option Addr) (xc : Nat) (xs : List Value), m = tArity l i - j ∧ j ≤ tArity l i ∧ Lc = [(5, vint (tNext l i + (j : Int))), (10, vint j)] ∧ Γc = [.rds ((tSlots l i j).flatMap SlotT.enc) xs, .acc (.slice xa j xc) 68 11 j xs, .own b8 52 (dvs (idK (1 + (i : Int))) ((tBits l i).tmod 2) (idK 0) (nm4 i) (.slice xa j xc))]) (tArity l i) [(5, _), (10, _)] [_, _, _] rfl rfl ⟨0, none, 0, [], rfl, Nat.zero_le _, by simp, rfl⟩ ?_
   rintro m Lc M2 Γc hsj ⟨j, xa, xc, xs, rfl, hj, rfl, rfl⟩
   refine CW.seq fun K14 hK14 => ?_
   refine CW.seq fun K15 hK15 => ?_
   refine CW.region ?_
   refine RL.q (Y.move rfl) rfl ?_
   refine RL.q (Y.move rfl) rfl ?_
   refine RL.q (Y.lss rfl rfl) rfl ?_
   refine RL.nil ?_
   refine hK15 _ _ _ ?_
   refine CW.kp [0, 2, 3, 4, 5, 6, 8, 9, 10, 46] rfl ?_
   refine CW.ite rfl (fun h2 => ?_) (fun h2 => ?_)
   ·have hj3 : j < 3 := by omega
    have hpr := atL_lt l (5 + 3 * (i : Int) + (j : Int)) 65536 OM
    refine CW.skip ?_
    refine hK14 _ _ _ ?_
    refine CW.seq fun K16 hK16 => ?_
    refine CW.block ?_
    refine CW.cut (fun L' M' Γ' => ∃ a68 c68 xs2, Keep L' [(0, .slice al l.length cl), (2, .pointer (some (adr (some ⟨b2, 0, none⟩) 0))), (3, .pointer (some (adr (some ⟨b3, 0, none⟩) 0))), (4, vint (tMany l)), (5, vint (tNext l i + (j : Int))), (6, vint i), (8, .pointer (some (adr (some ⟨b8, 0, none⟩) 0))), (9, vint (tArity l i)), (10, vint j)] ∧ Sub M2 M' ∧ RdL M' (tSlot l i j).enc xs2 ∧ ∀ w, St w0 M' Γ' w → St w0 M' (.acc (.slice a68 (j + 1) c68) 68 11 (j + 1) (xs ++ xs2) :: .rds ((tSlots l i j).flatMap SlotT.enc) xs :: .own b8 52 (dvs (idK (1 + (i : Int))) ((tBits l i).tmod 2) (idK 0) (nm4 i) (.slice a68 (j + 1) c68)) :: .rds ((tDefs l i).flatMap DefT.enc) us :: .acc (.slice ua i ca) 52 31 i us :: .own b3 32 [(.slice (some ⟨b13, 0, none⟩) 1 1), .slice ua i ca] :: .rds ((tIds i).flatMap IdT.enc) vs :: .acc (.slice va i vc) 35 3 i vs :: .own b13 76 [vint 0, vint 1, vint 0, .string sCore, .slice none 0 0, .slice va i vc] :: .own b2 32 [.slice none 0 0, .slice none 0 0] :: .rd (dints l) (.slice al l.length cl) :: Γ) w) ?_ ?_
    ·refine CW.regionGP 21 mix (x := .acc (.slice xa j xc) 68 11 j xs) PK ?_
     refine HG.take 0 rfl KR KR KR rfl (Y.field rfl field52_4) rfl ?_
     first | refine HG.take 1 rfl KR KR KR rfl (Y.loadOwnV rfl MM MM (by rfl) flat46) rfl ?_ | refine HG.take 1 rfl KR KR KR rfl (Y.loadOwn rfl MM (by rfl) flat46) rfl ?_ | refine HG.loadOwnSl 1 rfl KR KR KR rfl rfl MM MM (by rfl) flat46 rfl fun a50 c50 hu50 hc50 hl50 => ?_
     refine HG.take 2 rfl KR KR KR rfl (Y.move rfl) rfl ?_
     refine HG.take 5 rfl KR KR KR rfl (Y.move rfl) rfl ?_
     refine HG.take 8 rfl KR KR KR rfl (Y.move rfl) rfl ?_
     refine HG.take 9 rfl KR KR KR rfl (Y.move rfl) rfl ?_
     refine HG.take 10 rfl KR KR KR rfl (Y.mul rfl rfl OM) rfl ?_
     refine HG.take 11 rfl KR KR KR rfl (Y.add rfl rfl OM) rfl ?_
     refine HG.take 12 rfl KR KR KR rfl (Y.move rfl) rfl ?_
     refine HG.take 13 rfl KR KR KR rfl (Y.add rfl rfl OM) rfl ?_
     refine HG.take 15 rfl KR KR KR rfl (Y.move rfl) rfl ?_
     refine HG.step2 3 4 rfl rfl KR ?_ ?_
     ·refine RL.callv rfl func39 rfl rfl (by exact id_ok _ _ _ _ AO AO) ?_
      refine RL.nil ⟨keep_same SB, ?_⟩
      refine HG.step2 4 14 rfl rfl KR ?_ ?_
      ·refine RL.buildSlice [.string sX, .string sY, .string sZ] elem48 rfl (by decide) (fill3 (out := [.string sX]) (out' := [.string sY]) (out'' := [.string sZ]) rfl rfl rfl rfl rfl rfl) rfl fun b53 => ?_
       refine RL.nil ⟨keep_same SB, ?_⟩
       refine HG.take 6 rfl KR KR KR rfl (Y.index j rfl rfl OM OM slice48 (fun _ _ => rfl)) rfl ?_
       refine HG.step2 7 14 rfl rfl KR ?_ ?_
       ·refine RL.q (Y.loadOwn rfl MM (nm3_at hj3) flat9) rfl ?_
        refine RL.nil ⟨keep_same SB, ?_⟩
        refine HG.step 14 rfl KR ?_
        refine RL.callv rfl func40 rfl rfl (by exact at_ok _ _ _ _ _ _ _ KK AO AO) ?_
        refine RL.nil ⟨keep_same SB, ?_⟩
        refine HG.step 16 rfl KR ?_
        refine RL.call rfl func15 rfl rfl (by exact pick_ok _ _ _ (atL l (5 + 3 * (i : Int) + (j : Int)) 65536) (i : Int) (by unfold InI; omega) OM OM) ?_
        rintro v65 M65 _ ⟨hs65, rfl, us65, rfl, hr65⟩
        obtain ⟨u65, rfl, hu65⟩ := Ty.open hr65
        have hnew := SlotT.close (tSlot l i j) hu65
        refine RL.nil ⟨keep_more (hs65) SB, ?_⟩
        refine HG.take 17 rfl KR KR KR rfl (Y.build [_, _, _, _, _, _, _, _, _, _, _] rfl zero68 places68 (by rfl)) rfl ?_
        refine HG.step 18 rfl KR ?_
        refine RL.buildSlice _ elem46 rfl (by decide) (fill1 rfl (by rfl)) rfl fun b67 => ?_
        refine RL.nil ⟨keep_more (hs65) SB, ?_⟩
        refine HG.step 19 rfl KR ?_
        refine RL.append elem46 rfl rfl PK (SrcOk.own (sz := 11) (m := 1) MM (by rfl) hnew.one) OM (by unfold lim; omega) rfl fun a68 c68 hc68 => ?_
        refine RL.nil ⟨keep_more (hs65) SB, ?_⟩
        refine HG.take 20 rfl KR KR KR rfl (Y.field rfl field52_4) rfl ?_
        refine HG.last 21 rfl ⟨KR, rfl⟩ KR ?_
        refine RL.store _ rfl rfl RP (by rfl) (by exact Nat.le_of_ble_eq_true rfl) (by rfl) size46 ?_
        refine RL.nil ?_
        dsimp only [thenX]
        exact ⟨a68, c68, _, (by repeat (first | exact Keep.nil _ | refine Keep.cons _ rfl ?_)), hs65, hnew, fun _ hw => hw.sub SB⟩
       refine RL.callv rfl func40 rfl rfl (by exact at_ok _ _ _ _ _ _ _ KK AO AO) ?_
       refine RL.nil ⟨keep_same SB, ?_⟩
       refine HG.step2 7 16 rfl rfl KR ?_ ?_
       ·refine RL.q (Y.loadOwn rfl MM (nm3_at hj3) flat9) rfl ?_
        refine RL.nil ⟨keep_same SB, ?_⟩
        refine HG.step 16 rfl KR ?_
        refine RL.call rfl func15 rfl rfl (by exact pick_ok _ _ _ (atL l (5 + 3 * (i : Int) + (j : Int)) 65536) (i : Int) (by unfold InI; omega) OM OM) ?_
        rintro v65 M65 _ ⟨hs65, rfl, us65, rfl, hr65⟩
        obtain ⟨u65, rfl, hu65⟩ := Ty.open hr65
        have hnew := SlotT.close (tSlot l i j) hu65
        refine RL.nil ⟨keep_more (hs65) SB, ?_⟩
        refine HG.take 17 rfl KR KR KR rfl (Y.build [_, _, _, _, _, _, _, _, _, _, _] rfl zero68 places68 (by rfl)) rfl ?_
        refine HG.step 18 rfl KR ?_
        refine RL.buildSlice _ elem46 rfl (by decide) (fill1 rfl (by rfl)) rfl fun b67 => ?_
        refine RL.nil ⟨keep_more (hs65) SB, ?_⟩
        refine HG.step 19 rfl KR ?_
        refine RL.append elem46 rfl rfl PK (SrcOk.own (sz := 11) (m := 1) MM (by rfl) hnew.one) OM (by unfold lim; omega) rfl fun a68 c68 hc68 => ?_
        refine RL.nil ⟨keep_more (hs65) SB, ?_⟩
        refine HG.take 20 rfl KR KR KR rfl (Y.field rfl field52_4) rfl ?_
        refine HG.last 21 rfl ⟨KR, rfl⟩ KR ?_
        refine RL.store _ rfl rfl RP (by rfl) (by exact Nat.le_of_ble_eq_true rfl) (by rfl) size46 ?_
        refine RL.nil ?_
        dsimp only [thenX]
        exact ⟨a68, c68, _, (by repeat (first | exact Keep.nil _ | refine Keep.cons _ rfl ?_)), hs65, hnew, fun _ hw => hw.sub SB⟩
       refine RL.call rfl func15 rfl rfl (by exact pick_ok _ _ _ (atL l (5 + 3 * (i : Int) + (j : Int)) 65536) (i : Int) (by unfold InI; omega) OM OM) ?_
       rintro v65 M65 _ ⟨hs65, rfl, us65, rfl, hr65⟩
       obtain ⟨u65, rfl, hu65⟩ := Ty.open hr65
       have hnew := SlotT.close (tSlot l i j) hu65
       refine RL.nil ⟨keep_more (hs65) SB, ?_⟩
       refine HG.step 7 rfl KR ?_
       refine RL.q (Y.loadOwn rfl MM (nm3_at hj3) flat9) rfl ?_
       refine RL.nil ⟨keep_more (hs65) SB, ?_⟩
       refine HG.take 17 rfl KR KR KR rfl (Y.build [_, _, _, _, _, _, _, _, _, _, _] rfl zero68 places68 (by rfl)) rfl ?_
       refine HG.step 18 rfl KR ?_
       refine RL.buildSlice _ elem46 rfl (by decide) (fill1 rfl (by rfl)) rfl fun b67 => ?_
       refine RL.nil ⟨keep_more (hs65) SB, ?_⟩
       refine HG.step 19 rfl KR ?_
       refine RL.append elem46 rfl rfl PK (SrcOk.own (sz := 11) (m := 1) MM (by rfl) hnew.one) OM (by unfold lim; omega) rfl fun a68 c68 hc68 => ?_
       refine RL.nil ⟨keep_more (hs65) SB, ?_⟩
       refine HG.take 20 rfl KR KR KR rfl (Y.field rfl field52_4) rfl ?_
       refine HG.last 21 rfl ⟨KR, rfl⟩ KR ?_
       refine RL.store _ rfl rfl RP (by rfl) (by exact Nat.le_of_ble_eq_true rfl) (by rfl) size46 ?_
       refine RL.nil ?_
       dsimp only [thenX]
       exact ⟨a68, c68, _, (by repeat (first | exact Keep.nil _ | refine Keep.cons _ rfl ?_)), hs65, hnew, fun _ hw => hw.sub SB⟩
      refine RL.callv rfl func40 rfl rfl (by exact at_ok _ _ _ _ _ _ _ KK AO AO) ?_
      refine RL.nil ⟨keep_same SB, ?_⟩
      refine HG.step2 4 16 rfl rfl KR ?_ ?_
      ·refine RL.buildSlice [.string sX, .string sY, .string sZ] elem48 rfl (by decide) (fill3 (out := [.string sX]) (out' := [.string sY]) (out'' := [.string sZ]) rfl rfl rfl rfl rfl rfl) rfl fun b53 => ?_
       refine RL.nil ⟨keep_same SB, ?_⟩
       refine HG.take 6 rfl KR KR KR rfl (Y.index j rfl rfl OM OM slice48 (fun _ _ => rfl)) rfl ?_
       refine HG.step2 7 16 rfl rfl KR ?_ ?_
       ·refine RL.q (Y.loadOwn rfl MM (nm3_at hj3) flat9) rfl ?_
        refine RL.nil ⟨keep_same SB, ?_⟩
        refine HG.step 16 rfl KR ?_
        refine RL.call rfl func15 rfl rfl (by exact pick_ok _ _ _ (atL l (5 + 3 * (i : Int) + (j : Int)) 65536) (i : Int) (by unfold InI; omega) OM OM) ?_
        rintro v65 M65 _ ⟨hs65, rfl, us65, rfl, hr65⟩
        obtain ⟨u65, rfl, hu65⟩ := Ty.open hr65
        have hnew := SlotT.close (tSlot l i j) hu65
        refine RL.nil ⟨keep_more (hs65) SB, ?_⟩
        refine HG.take 17 rfl KR KR KR rfl (Y.build [_, _, _, _, _, _, _, _, _, _, _] rfl zero68 places68 (by rfl)) rfl ?_
        refine HG.step 18 rfl KR ?_
        refine RL.buildSlice _ elem46 rfl (by decide) (fill1 rfl (by rfl)) rfl fun b67 => ?_
        refine RL.nil ⟨keep_more (hs65) SB, ?_⟩
        refine HG.step 19 rfl KR ?_
        refine RL.append elem46 rfl rfl PK (SrcOk.own (sz := 11) (m := 1) MM (by rfl) hnew.one) OM (by unfold lim; omega) rfl fun a68 c68 hc68 => ?_
        refine RL.nil ⟨keep_more (hs65) SB, ?_⟩
        refine HG.take 20 rfl KR KR KR rfl (Y.field rfl field52_4) rfl ?_
        refine HG.last 21 rfl ⟨KR, rfl⟩ KR ?_
        refine RL.store _ rfl rfl RP (by rfl) (by exact Nat.le_of_ble_eq_true rfl) (by rfl) size46 ?_
        refine RL.nil ?_
        dsimp only [thenX]
        exact ⟨a68, c68, _, (by repeat (first | exact Keep.nil _ | refine Keep.cons _ rfl ?_)), hs65, hnew, fun _ hw => hw.sub SB⟩
       refine RL.call rfl func15 rfl rfl (by exact pick_ok _ _ _ (atL l (5 + 3 * (i : Int) + (j : Int)) 65536) (i : Int) (by unfold InI; omega) OM OM) ?_
       rintro v65 M65 _ ⟨hs65, rfl, us65, rfl, hr65⟩
       obtain ⟨u65, rfl, hu65⟩ := Ty.open hr65
       have hnew := SlotT.close (tSlot l i j) hu65
       refine RL.nil ⟨keep_more (hs65) SB, ?_⟩
       refine HG.step 7 rfl KR ?_
       refine RL.q (Y.loadOwn rfl MM (nm3_at hj3) flat9) rfl ?_
       refine RL.nil ⟨keep_more (hs65) SB, ?_⟩
       refine HG.take 17 rfl KR KR KR rfl (Y.build [_, _, _, _, _, _, _, _, _, _, _] rfl zero68 places68 (by rfl)) rfl ?_
       refine HG.step 18 rfl KR ?_
       refine RL.buildSlice _ elem46 rfl (by decide) (fill1 rfl (by rfl)) rfl fun b67 => ?_
       refine RL.nil ⟨keep_more (hs65) SB, ?_⟩
       refine HG.step 19 rfl KR ?_
       refine RL.append elem46 rfl rfl PK (SrcOk.own (sz := 11) (m := 1) MM (by rfl) hnew.one) OM (by unfold lim; omega) rfl fun a68 c68 hc68 => ?_
       refine RL.nil ⟨keep_more (hs65) SB, ?_⟩
       refine HG.take 20 rfl KR KR KR rfl (Y.field rfl field52_4) rfl ?_
       refine HG.last 21 rfl ⟨KR, rfl⟩ KR ?_
       refine RL.store _ rfl rfl RP (by rfl) (by exact Nat.le_of_ble_eq_true rfl) (by rfl) size46 ?_
       refine RL.nil ?_
       dsimp only [thenX]
       exact ⟨a68, c68, _, (by repeat (first | exact Keep.nil _ | refine Keep.cons _ rfl ?_)), hs65, hnew, fun _ hw => hw.sub SB⟩
      refine RL.call rfl func15 rfl rfl (by exact pick_ok _ _ _ (atL l (5 + 3 * (i : Int) + (j : Int)) 65536) (i : Int) (by unfold InI; omega) OM OM) ?_
      rintro v65 M65 _ ⟨hs65, rfl, us65, rfl, hr65⟩
      obtain ⟨u65, rfl, hu65⟩ := Ty.open hr65
      have hnew := SlotT.close (tSlot l i j) hu65
      refine RL.nil ⟨keep_more (hs65) SB, ?_⟩
      refine HG.step 4 rfl KR ?_
      refine RL.buildSlice [.string sX, .string sY, .string sZ] elem48 rfl (by decide) (fill3 (out := [.string sX]) (out' := [.string sY]) (out'' := [.string sZ]) rfl rfl rfl rfl rfl rfl) rfl fun b53 => ?_
      refine RL.nil ⟨keep_more (hs65) SB, ?_⟩
      refine HG.take 6 rfl KR KR KR rfl (Y.index j rfl rfl OM OM slice48 (fun _ _ => rfl)) rfl ?_
      refine HG.step 7 rfl KR ?_
      refine RL.q (Y.loadOwn rfl MM (nm3_at hj3) flat9) rfl ?_
      refine RL.nil ⟨keep_more (hs65) SB, ?_⟩
      refine HG.take 17 rfl KR KR KR rfl (Y.build [_, _, _, _, _, _, _, _, _, _, _] rfl zero68 places68 (by rfl)) rfl ?_
      refine HG.step 18 rfl KR ?_
      refine RL.buildSlice _ elem46 rfl (by decide) (fill1 rfl (by rfl)) rfl fun b67 => ?_
      refine RL.nil ⟨keep_more (hs65) SB, ?_⟩
      refine HG.step 19 rfl KR ?_
      refine RL.append elem46 rfl rfl PK (SrcOk.own (sz := 11) (m := 1) MM (by rfl) hnew.one) OM (by unfold lim; omega) rfl fun a68 c68 hc68 => ?_
      refine RL.nil ⟨keep_more (hs65) SB, ?_⟩
      refine HG.take 20 rfl KR KR KR rfl (Y.field rfl field52_4) rfl ?_
      refine HG.last 21 rfl ⟨KR, rfl⟩ KR ?_
      refine RL.store _ rfl rfl RP (by rfl) (by exact Nat.le_of_ble_eq_true rfl) (by rfl) size46 ?_
      refine RL.nil ?_
      dsimp only [thenX]
      exact ⟨a68, c68, _, (by repeat (first | exact Keep.nil _ | refine Keep.cons _ rfl ?_)), hs65, hnew, fun _ hw => hw.sub SB⟩
     refine RL.buildSlice [.string sX, .string sY, .string sZ] elem48 rfl (by decide) (fill3 (out := [.string sX]) (out' := [.string sY]) (out'' := [.string sZ]) rfl rfl rfl rfl rfl rfl) rfl fun b53 => ?_
     refine RL.nil ⟨keep_same SB, ?_⟩
     refine HG.take 6 rfl KR KR KR rfl (Y.index j rfl rfl OM OM slice48 (fun _ _ => rfl)) rfl ?_
     refine HG.step2 3 7 rfl rfl KR ?_ ?_
     ·refine RL.callv rfl func39 rfl rfl (by exact id_ok _ _ _ _ AO AO) ?_
      refine RL.nil ⟨keep_same SB, ?_⟩
      refine HG.step2 7 14 rfl rfl KR ?_ ?_
      ·refine RL.q (Y.loadOwn rfl MM (nm3_at hj3) flat9) rfl ?_
       refine RL.nil ⟨keep_same SB, ?_⟩
       refine HG.step 14 rfl KR ?_
       refine RL.callv rfl func40 rfl rfl (by exact at_ok _ _ _ _ _ _ _ KK AO AO) ?_
       refine RL.nil ⟨keep_same SB, ?_⟩
       refine HG.step 16 rfl KR ?_
       refine RL.call rfl func15 rfl rfl (by exact pick_ok _ _ _ (atL l (5 + 3 * (i : Int) + (j : Int)) 65536) (i : Int) (by unfold InI; omega) OM OM) ?_
       rintro v65 M65 _ ⟨hs65, rfl, us65, rfl, hr65⟩
       obtain ⟨u65, rfl, hu65⟩ := Ty.open hr65
       have hnew := SlotT.close (tSlot l i j) hu65
       refine RL.nil ⟨keep_more (hs65) SB, ?_⟩
       refine HG.take 17 rfl KR KR KR rfl (Y.build [_, _, _, _, _, _, _, _, _, _, _] rfl zero68 places68 (by rfl)) rfl ?_
       refine HG.step 18 rfl KR ?_
       refine RL.buildSlice _ elem46 rfl (by decide) (fill1 rfl (by rfl)) rfl fun b67 => ?_
       refine RL.nil ⟨keep_more (hs65) SB, ?_⟩
       refine HG.step 19 rfl KR ?_
       refine RL.append elem46 rfl rfl PK (SrcOk.own (sz := 11) (m := 1) MM (by rfl) hnew.one) OM (by unfold lim; omega) rfl fun a68 c68 hc68 => ?_
       refine RL.nil ⟨keep_more (hs65) SB, ?_⟩
       refine HG.take 20 rfl KR KR KR rfl (Y.field rfl field52_4) rfl ?_
       refine HG.last 21 rfl ⟨KR, rfl⟩ KR ?_
       refine RL.store _ rfl rfl RP (by rfl) (by exact Nat.le_of_ble_eq_true rfl) (by rfl) size46 ?_
       refine RL.nil ?_
       dsimp only [thenX]
       exact ⟨a68, c68, _, (by repeat (first | exact Keep.nil _ | refine Keep.cons _ rfl ?_)), hs65, hnew, fun _ hw => hw.sub SB⟩
      refine RL.callv rfl func40 rfl rfl (by exact at_ok _ _ _ _ _ _ _ KK AO AO) ?_
      refine RL.nil ⟨keep_same SB, ?_⟩
      refine HG.step2 7 16 rfl rfl KR ?_ ?_
      ·refine RL.q (Y.loadOwn rfl MM (nm3_at hj3) flat9) rfl ?_
       refine RL.nil ⟨keep_same SB, ?_⟩
       refine HG.step 16 rfl KR ?_
       refine RL.call rfl func15 rfl rfl (by exact pick_ok _ _ _ (atL l (5 + 3 * (i : Int) + (j : Int)) 65536) (i : Int) (by unfold InI; omega) OM OM) ?_
       rintro v65 M65 _ ⟨hs65, rfl, us65, rfl, hr65⟩
       obtain ⟨u65, rfl, hu65⟩ := Ty.open hr65
       have hnew := SlotT.close (tSlot l i j) hu65
       refine RL.nil ⟨keep_more (hs65) SB, ?_⟩
       refine HG.take 17 rfl KR KR KR rfl (Y.build [_, _, _, _, _, _, _, _, _, _, _] rfl zero68 places68 (by rfl)) rfl ?_
       refine HG.step 18 rfl KR ?_
       refine RL.buildSlice _ elem46 rfl (by decide) (fill1 rfl (by rfl)) rfl fun b67 => ?_
       refine RL.nil ⟨keep_more (hs65) SB, ?_⟩
       refine HG.step 19 rfl KR ?_
       refine RL.append elem46 rfl rfl PK (SrcOk.own (sz := 11) (m := 1) MM (by rfl) hnew.one) OM (by unfold lim; omega) rfl fun a68 c68 hc68 => ?_
       refine RL.nil ⟨keep_more (hs65) SB, ?_⟩
       refine HG.take 20 rfl KR KR KR rfl (Y.field rfl field52_4) rfl ?_
       refine HG.last 21 rfl ⟨KR, rfl⟩ KR ?_
       refine RL.store _ rfl rfl RP (by rfl) (by exact Nat.le_of_ble_eq_true rfl) (by rfl) size46 ?_
       refine RL.nil ?_
       dsimp only [thenX]
       exact ⟨a68, c68, _, (by repeat (first | exact Keep.nil _ | refine Keep.cons _ rfl ?_)), hs65, hnew, fun _ hw => hw.sub SB⟩
      refine RL.call rfl func15 rfl rfl (by exact pick_ok _ _ _ (atL l (5 + 3 * (i : Int) + (j : Int)) 65536) (i : Int) (by unfold InI; omega) OM OM) ?_
      rintro v65 M65 _ ⟨hs65, rfl, us65, rfl, hr65⟩
      obtain ⟨u65, rfl, hu65⟩ := Ty.open hr65
      have hnew := SlotT.close (tSlot l i j) hu65
      refine RL.nil ⟨keep_more (hs65) SB, ?_⟩
      refine HG.step 7 rfl KR ?_
      refine RL.q (Y.loadOwn rfl MM (nm3_at hj3) flat9) rfl ?_
      refine RL.nil ⟨keep_more (hs65) SB, ?_⟩
      refine HG.take 17 rfl KR KR KR rfl (Y.build [_, _, _, _, _, _, _, _, _, _, _] rfl zero68 places68 (by rfl)) rfl ?_
      refine HG.step 18 rfl KR ?_
      refine RL.buildSlice _ elem46 rfl (by decide) (fill1 rfl (by rfl)) rfl fun b67 => ?_
      refine RL.nil ⟨keep_more (hs65) SB, ?_⟩
      refine HG.step 19 rfl KR ?_
      refine RL.append elem46 rfl rfl PK (SrcOk.own (sz := 11) (m := 1) MM (by rfl) hnew.one) OM (by unfold lim; omega) rfl fun a68 c68 hc68 => ?_
      refine RL.nil ⟨keep_more (hs65) SB, ?_⟩
      refine HG.take 20 rfl KR KR KR rfl (Y.field rfl field52_4) rfl ?_
      refine HG.last 21 rfl ⟨KR, rfl⟩ KR ?_
      refine RL.store _ rfl rfl RP (by rfl) (by exact Nat.le_of_ble_eq_true rfl) (by rfl) size46 ?_
      refine RL.nil ?_
      dsimp only [thenX]
      exact ⟨a68, c68, _, (by repeat (first | exact Keep.nil _ | refine Keep.cons _ rfl ?_)), hs65, hnew, fun _ hw => hw.sub SB⟩
     refine RL.q (Y.loadOwn rfl MM (nm3_at hj3) flat9) rfl ?_
     refine RL.nil ⟨keep_same SB, ?_⟩
     refine HG.step 3 rfl KR ?_
     refine RL.callv rfl func39 rfl rfl (by exact id_ok _ _ _ _ AO AO) ?_
     refine RL.nil ⟨keep_same SB, ?_⟩
     refine HG.step 14 rfl KR ?_
     refine RL.callv rfl func40 rfl rfl (by exact at_ok _ _ _ _ _ _ _ KK AO AO) ?_
     refine RL.nil ⟨keep_same SB, ?_⟩
     refine HG.step 16 rfl KR ?_
     refine RL.call rfl func15 rfl rfl (by exact pick_ok _ _ _ (atL l (5 + 3 * (i : Int) + (j : Int)) 65536) (i : Int) (by unfold InI; omega) OM OM) ?_
     rintro v65 M65 _ ⟨hs65, rfl, us65, rfl, hr65⟩
     obtain ⟨u65, rfl, hu65⟩ := Ty.open hr65
     have hnew := SlotT.close (tSlot l i j) hu65
     refine RL.nil ⟨keep_more (hs65) SB, ?_⟩
     refine HG.take 17 rfl KR KR KR rfl (Y.build [_, _, _, _, _, _, _, _, _, _, _] rfl zero68 places68 (by rfl)) rfl ?_
     refine HG.step 18 rfl KR ?_
     refine RL.buildSlice _ elem46 rfl (by decide) (fill1 rfl (by rfl)) rfl fun b67 => ?_
     refine RL.nil ⟨keep_more (hs65) SB, ?_⟩
     refine HG.step 19 rfl KR ?_
     refine RL.append elem46 rfl rfl PK (SrcOk.own (sz := 11) (m := 1) MM (by rfl) hnew.one) OM (by unfold lim; omega) rfl fun a68 c68 hc68 => ?_
     refine RL.nil ⟨keep_more (hs65) SB, ?_⟩
     refine HG.take 20 rfl KR KR KR rfl (Y.field rfl field52_4) rfl ?_
     refine HG.last 21 rfl ⟨KR, rfl⟩ KR ?_
     refine RL.store _ rfl rfl RP (by rfl) (by exact Nat.le_of_ble_eq_true rfl) (by rfl) size46 ?_
     refine RL.nil ?_
     dsimp only [thenX]
     exact ⟨a68, c68, _, (by repeat (first | exact Keep.nil _ | refine Keep.cons _ rfl ?_)), hs65, hnew, fun _ hw => hw.sub SB⟩
    rintro _ M65 Γ13 ⟨a68, c68, xs2, hk13, hs65, hnew, hG13⟩
    refine CW.pre ?_ hk13 hG13
    refine CW.region ?_
    refine RL.q (Y.move rfl) rfl ?_
    refine RL.q (Y.add rfl rfl OM) rfl ?_
    refine RL.q (Y.assign rfl) rfl ?_
    refine RL.nil ?_
    refine hK16 _ _ _ ?_
    refine CW.kp [0, 2, 3, 4, 5, 6, 8, 9, 10] rfl ?_
    refine CW.region ?_
    refine RL.q (Y.move rfl) rfl ?_
    refine RL.q (Y.add rfl rfl OM) rfl ?_
    refine RL.q (Y.assign rfl) rfl ?_
    refine RL.nil ?_
    refine ⟨tArity l i - (j + 1), [(5, _), (10, _)], ?_, (KP [5, 10, 0, 2, 3, 4, 6, 8, 9]), ?_⟩
    · omega
    · refine Turn.kn (Kn.rds (ds := (tSlots l i j).flatMap SlotT.enc) (us := xs) MM) fun hrx => ?_
      refine Turn.front (x := .own b8 52 _) PK ?_
      refine Turn.front (x := .acc (.slice a68 (j + 1) c68) 68 11 (j + 1) _) PK ?_
      refine Turn.addRds (hrx.append hnew) ?_
      exact Turn.drop ⟨[_, _, _], rfl, hsj.trans hs65, j + 1, a68, c68, _, rfl, by omega, by rw [show tNext l i + (j : Int) + 1 = tNext l i + ((j + 1 : Nat) : Int) from by omega] <;> rfl, by rw [tSlots_succ] <;> rfl⟩ SB
   obtain rfl : j = tArity l i := by omega
   refine CW.know (Kn.rds (ds := (tSlots l i (tArity l i)).flatMap SlotT.enc) (us := xs) MM) fun hxs => ?_
   refine CW.sealAcc (u := .slice xa (tArity l i) xc) PK hxs (by unfold lim; omega) fun M3 a3 c3 hs3 e3 hc3 hr3 => ?_
   injection e3 with e3a _ e3c
   subst e3a e3c
   have hdef : RdL M3 (tDef l i).enc _ := dvs_rd (idK (1 + (i : Int))) ((tBits l i).tmod 2) (idK 0) (nm4 i) (tSlots l i (tArity l i)) _ (by rw [tSlots_len]; exact hr3)
   refine CW.addRds hdef ?_
   refine CW.exit ?_
   refine hK12 _ _ _ ?_
   refine CW.seq fun K17 hK17 => ?_
   refine CW.region ?_
   refine RL.q (Y.field rfl field32_1) rfl ?_
   first | refine RL.q (Y.loadOwnV rfl MM MM (by rfl) flat30) rfl ?_ | refine RL.q (Y.loadOwn rfl MM (by rfl) flat30) rfl ?_ | refine RL.loadOwnSl rfl rfl MM MM (by rfl) flat30 rfl fun a73 c73 hu73 hc73 hl73 => ?_
   first | refine RL.q (Y.loadAllR rfl MM MM EL agg52) rfl ?_ | refine RL.q (Y.loadAll rfl MM (by rfl) agg52) rfl ?_ | refine RL.loadPart rfl rfl MM MM (by rfl) (by rfl) agg52 rfl fun us74 hul74 hur74 => ?_
   refine RL.buildSlice _ elem30 rfl (by decide) (fill1 rfl (by rfl)) rfl fun b75 => ?_
   refine RL.append elem30 rfl rfl PK (SrcOk.own (sz := 31) (m := 1) MM (by rfl) hdef.one) OM (by unfold lim; omega) rfl fun a76 c76 hc76 => ?_
   refine RL.q (Y.field rfl field32_1) rfl ?_
   refine RL.store _ rfl rfl RP (by rfl) (by simp) (by rfl) size30 ?_
   refine RL.nil ?_
   refine hK17 _ _ _ ?_
   refine CW.kp [0, 2, 3, 4, 5, 6, 8] rfl ?_
   refine CW.regionGP 13 mix (x := .acc (.slice va i vc) 35 3 i vs) PK ?_
   refine HG.take 0 rfl KR KR KR rfl (Y.field rfl field32_0) rfl ?_
   first | refine HG.take 1 rfl KR KR KR rfl (Y.loadOwnV rfl MM MM (by rfl) flat29) rfl ?_ | refine HG.take 1 rfl KR KR KR rfl (Y.loadOwn rfl MM (by rfl) flat29) rfl ?_ | refine HG.loadOwnSl 1 rfl KR KR KR rfl rfl MM MM (by rfl) flat29 rfl fun a79 c79 hu79 hc79 hl79 => ?_
   refine HG.take 2 rfl KR KR KR rfl (Y.field rfl field32_0) rfl ?_
   first | refine HG.take 3 rfl KR KR KR rfl (Y.loadOwnV rfl MM MM (by rfl) flat29) rfl ?_ | refine HG.take 3 rfl KR KR KR rfl (Y.loadOwn rfl MM (by rfl) flat29) rfl ?_ | refine HG.loadOwnSl 3 rfl KR KR KR rfl rfl MM MM (by rfl) flat29 rfl fun a81 c81 hu81 hc81 hl81 => ?_
   refine HG.take 4 rfl KR KR KR rfl (Y.index 0 rfl rfl rfl AO slice29 SM) rfl ?_
   refine HG.take 5 rfl KR KR KR rfl (Y.field rfl field76_3) rfl ?_
   refine HG.take 6 rfl KR KR KR rfl (Y.loadOwn rfl MM (by rfl) flat58) rfl ?_
   refine HG.take 7 rfl KR KR KR rfl (Y.field rfl field52_0) rfl ?_
   refine HG.take 8 rfl KR KR KR rfl (Y.loadAggV (idK (1 + (i : Int))).vals rfl MM MM (by rfl) agg35) rfl ?_
   refine HG.step 9 rfl KR ?_
   refine RL.buildSlice _ elem58 rfl (by decide) (fill1 rfl (by rfl)) rfl fun b87 => ?_
   refine RL.nil ⟨keep_same SB, ?_⟩
   refine HG.step 10 rfl KR ?_
   refine RL.append elem58 rfl rfl PK (SrcOk.own (sz := 3) (m := 1) MM (by rfl) (IdT.vals_rd (M := M1) (idK (1 + (i : Int)))).one) OM (by unfold lim; omega) rfl fun a88 c88 hc88 => ?_
   refine RL.nil ⟨keep_same SB, ?_⟩
   refine HG.step 11 rfl KR ?_
   refine RL.q (Y.index 0 rfl rfl rfl AO slice29 SM) rfl ?_
   refine RL.nil ⟨keep_same SB, ?_⟩
   refine HG.take 12 rfl KR KR KR rfl (Y.field rfl field76_3) rfl ?_
   refine HG.last 13 rfl ⟨KR, rfl⟩ KR ?_
   refine RL.store _ rfl rfl RP (by rfl) (by simp) (by rfl) size58 ?_
   refine RL.nil ?_
   refine hK9 _ _ _ ?_
   refine CW.kp [0, 2, 3, 4, 5, 6] rfl ?_
   refine CW.region ?_
   refine RL.q (Y.move rfl) rfl ?_
   refine RL.q (Y.add rfl rfl OM) rfl ?_
   refine RL.q (Y.assign rfl) rfl ?_
   refine RL.nil ?_
   refine ⟨tMany l - (i + 1), [(5, _), (6, _)], ?_, (KP [5, 6, 0, 2, 3, 4]), ?_⟩
   · omega
   · refine Turn.kn (Kn.rds (ds := ((tDefs l i).flatMap DefT.enc)) (us := us) MM) fun hrd => ?_
     refine Turn.kn (Kn.rds (ds := ((tIds i).flatMap IdT.enc)) (us := vs) MM) fun hrv => ?_
     refine Turn.front (x := .own b13 76 _) PK ?_
     refine Turn.front (x := .acc (.slice a88 (i + 1) c88) 35 3 (i + 1) _) PK ?_
     refine Turn.addRds (hrv.append (IdT.vals_rd (idK (1 + (i : Int))))) ?_
     refine Turn.front (x := .own b3 32 _) PK ?_
     refine Turn.front (x := .acc (.slice a76 (i + 1) c76) 52 31 (i + 1) _) PK ?_
     refine Turn.addRds (hrd.append hdef) ?_
     exact Turn.drop ⟨[_, _, _, _, _, _], rfl, hs.trans (hsj.trans hs3), i + 1, a76, c76, _, a88, c88, _, rfl, by omega, rfl, by rw [tDefs_succ, tIds_succ] <;> rfl⟩ SB
  obtain rfl : i = tMany l := by omega
  refine CW.know (Kn.rds (ds := (tDefs l (tMany l)).flatMap DefT.enc) (us := us) MM) fun hds => ?_
  refine CW.know (Kn.rds (ds := (tIds (tMany l)).flatMap IdT.enc) (us := vs) MM) fun hvs => ?_
  refine CW.sealAcc (u := .slice va (tMany l) vc) PK hvs (by unfold lim; omega) fun M3 a3 c3 hs3 e3 hc3 hr3 => ?_
  injection e3 with e3a _ e3c
  subst e3a e3c
  refine CW.sealOwn (b := b13) (k := 1) (sz := 6) (ds := ModT.enc ⟨idK 0, sCore, [], tIds (tMany l)⟩) PK (RdL.cons (Rd.i _) (RdL.cons (Rd.i _) (RdL.cons (Rd.i _) (RdL.cons (Rd.str _) (RdL.cons Rd.nilS (RdL.cons (by rw [tIds_len]; exact hr3) (RdL.nil _))))))) rfl (by unfold lim; omega) fun M5 hs5 hr5 => ?_
  refine CW.exit ?_
  refine hK5 _ _ _ ?_
  refine CW.seq fun K18 hK18 => ?_
  refine CW.region ?_
  first | refine RL.q (Y.loadAllR rfl MM MM EL agg32) rfl ?_ | refine RL.q (Y.loadAll rfl MM (by rfl) agg32) rfl ?_ | refine RL.loadPart rfl rfl MM MM (by rfl) (by rfl) agg32 rfl fun us91 hul91 hur91 => ?_
  first | refine RL.storeRds 2 rfl rfl RP MM EL (by first | exact Kn.lenRds MM EL | exact Kn.lenLit rfl) size32 ?_ | refine RL.storeAgg _ rfl rfl RP (by rfl) (by first | (simp; done) | simp [IdT.vals]) (by first | (simp [Value.oneCell']; done) | simp [Value.oneCell', IdT.vals]) size32 ?_
  refine RL.nil ?_
  refine hK18 _ _ _ ?_
  refine CW.kp [2] rfl ?_
  refine CW.ret ?_
  exact CellAt.mk rfl MM (by rfl) agg32 (Turn.front (x := .acc (.slice ua (tMany l) ca) 52 31 (tMany l) us) PK (Turn.drop ⟨ua, ca, us, _, hs.trans (hs3.trans hs5), rfl, rfl, by simpa using hr5, hds.mono (hs3.trans hs5)⟩ SB))

theorem types_ok (w0 : World) (M : Mem) (Γ : List As) (l : List Int) (ul : Value) (hl : Kn w0 M Γ (Rd M (dints l) ul)) (hli : ∀ x ∈ l, InI x) :
    CallOk Tryd.prog w0 M Γ 14 #[ul] (Gives M Γ fun M' v => ∃ us, v = .agg us.toArray ∧ RdL M' (typesP l).enc us) := by
  refine (types_own w0 M Γ l ul hl hli).turn ?_
  rintro v M' Γ' ⟨ua, ca, us, vm, hs, rfl, rfl, hm, hd⟩
  exact Turn.sealAcc (Γ := Γ) (u := .slice ua (tMany l) ca) PK hd (by have := tMany_rng l; unfold lim; omega) (List.Sublist.refl _) fun M2 hs2 hr2 => ⟨hs.trans hs2, rfl, _, rfl, by rw [ProgT.enc_eq]; exact RdL.cons (by simpa [typesP] using Rd.mono hs2 _ _ hm) (RdL.cons (by rw [show (typesP l).defs = tDefs l (tMany l) from rfl, tDefs_len]; exact hr2) (RdL.nil _))⟩
end Go.Proofs.YtanbipbiblikbaaDoor

/- THE WALKS, 23: a value made of numbers. Printed by m04x.py. -/
namespace Go.Proofs.YtanbipbiblikbaaDoor
open Xe

def zeroN : Nat := 0

set_option maxHeartbeats 2000000 in
theorem make_ok (n : Nat) : ∀ (w0 : World) (M : Mem) (Γ : List As) (p : ProgT) (usp : List Value) (t : Ty) (ust : List Value) (l : List Int) (ul : Value) (pos d : Int), wfT p n t → 0 ≤ pos → pos + 4 ^ n ≤ 1099511627776 → 0 ≤ d → d + n ≤ 1099511627776 → (∀ x ∈ l, InI x) →
    Kn w0 M Γ (RdL M p.enc usp) → Kn w0 M Γ (RdL M t.enc ust) → Kn w0 M Γ (Rd M (dints l) ul) →
    CallOk Tryd.prog w0 M Γ 43 #[.agg usp.toArray, .agg ust.toArray, ul, vint pos, vint d] (Gives M Γ fun M' v => ∃ us, v = .tuple #[.agg us.toArray, vint (mkF p l n t pos d).2] ∧ RdL M' (mkF p l n t pos d).1.enc us) := by
  induction n using Nat.strongRecOn
  rename_i n ih
  intro w0 M Γ p usp t ust l ul pos d hwf hpos hpb hd hdb hli hp ht hl
  obtain ⟨n, rfl⟩ : ∃ m, n = m + 1 := by
    cases n with
    | zero => exact hwf.elim
    | succ m => exact ⟨m, rfl⟩
  refine CallOk.kn hp fun hp => ?_
  refine CallOk.kn ht fun ht => ?_
  refine CallOk.kn hl fun hl => ?_
  obtain ⟨al, cl, rfl, hcl, hliml, hlenl⟩ := hl.slice
  rw [Ty.enc_eq] at ht
  obtain ⟨b, hb⟩ : ∃ b : Int, b = 4 ^ n := ⟨_, rfl⟩
  have hb1 : 1 ≤ b := by rw [hb]; exact Int.pow_pos (by decide)
  have hb4 : (4 : Int) ^ (n + 1) = b * 4 := by rw [hb]; exact Int.pow_succ 4 n
  rw [hb4] at hpb
  have hpb2 : pos + 1 + 3 * b ≤ 1099511627776 := by omega
  obtain ⟨c, hce⟩ : ∃ c, c = atL l pos 1048576 := ⟨_, rfl⟩
  have hc := atL_lt l pos 1048576 OM
  rw [← hce] at hc
  have hq : c.tdiv 16 = c / 16 := Int.tdiv_eq_ediv_of_nonneg hc.1
  have hr16 : c.tmod 16 = c % 16 := Int.tmod_eq_emod_of_nonneg hc.1
  have hq3 : (c.tdiv 16).tmod 3 = c / 16 % 3 := by rw [hq, Int.tmod_eq_emod_of_nonneg OM]
  have hq9 : (c.tdiv 16).tmod 9 = c / 16 % 9 := by rw [hq, Int.tmod_eq_emod_of_nonneg OM]
  have hr2 : c.tmod 2 = c % 2 := Int.tmod_eq_emod_of_nonneg hc.1
  have hr3 : c.tmod 3 = c % 3 := Int.tmod_eq_emod_of_nonneg hc.1
  have hpcast : pos + 4 ^ n ≤ 1099511627776 := by rw [← hb]; omega
  refine enterCell2 (f := 43) Tryd.func43 rfl Tryd.ntmps43 rfl rfl fun w1 hw1 => ?_
  refine CW.addRds hp ?_
  refine CW.addRds ht ?_
  refine CW.addRd hl ?_
  refine CW.seq fun K1 hK1 => ?_
  refine CW.region ?_
  refine RL.box _ rfl rfl rfl fun b5 => ?_
  refine RL.box _ rfl rfl rfl fun b6 => ?_
  refine RL.alloc _ zero26 rfl rfl fun b10 => ?_
  refine RL.q (Y.assign rfl) rfl ?_
  refine RL.nil ?_
  refine hK1 _ _ _ ?_
  refine CW.kp [2, 3, 4, 5, 6, 10] rfl ?_
  refine CW.seq fun K2 hK2 => ?_
  refine CW.region ?_
  refine RL.q (Y.move rfl) rfl ?_
  refine RL.q (Y.move rfl) rfl ?_
  refine RL.callv rfl func40 rfl rfl (by exact at_ok _ _ _ l _ pos 1048576 (by exact Kn.rd MM) hli OM) ?_
  refine RL.q (Y.assign rfl) rfl ?_
  refine RL.nil ?_
  refine hK2 _ _ _ ?_
  refine CW.kp [2, 3, 4, 5, 6, 10, 12] rfl ?_
  rw [← hce]
  refine CW.seq fun K3 hK3 => ?_
  refine CW.region ?_
  refine RL.q (Y.move rfl) rfl ?_
  refine RL.q (Y.add rfl rfl OM) rfl ?_
  refine RL.q (Y.assign rfl) rfl ?_
  refine RL.nil ?_
  refine hK3 _ _ _ ?_
  refine CW.kp [2, 3, 4, 5, 6, 10, 12] rfl ?_
  refine CW.seq fun K4 hK4 => ?_
  refine CW.seq fun K5 hK5 => ?_
  refine CW.region ?_
  refine RL.q (Y.field rfl field38_0) rfl ?_
  first | refine RL.q (Y.loadOwnV rfl MM MM (by rfl) flat3) rfl ?_ | refine RL.q (Y.loadOwn rfl MM (by rfl) flat3) rfl ?_ | refine RL.loadOwnSl rfl rfl MM MM (by rfl) flat3 rfl fun a31 c31 hu31 hc31 hl31 => ?_
  refine RL.q (Y.eql rfl rfl) rfl ?_
  refine RL.nil ?_
  refine hK5 _ _ _ ?_
  refine CW.kp [2, 3, 4, 5, 6, 10, 12, 32] rfl ?_
  refine CW.ite rfl (fun h1 => ?_) (fun h1 => ?_)
  ·refine CW.seq fun K6 hK6 => ?_
   refine CW.seq fun K7 hK7 => ?_
   refine CW.region ?_
   refine RL.q (Y.move rfl) rfl ?_
   refine RL.q (Y.rem rfl rfl OM) rfl ?_
   refine RL.q (Y.eql rfl rfl) rfl ?_
   refine RL.nil ?_
   refine hK7 _ _ _ ?_
   refine CW.kp [3, 10, 12, 35] rfl ?_
   refine CW.ite rfl (fun h2 => ?_) (fun h2 => ?_)
   ·refine CW.seq fun K8 hK8 => ?_
    refine CW.region ?_
    refine RL.q (Y.move rfl) rfl ?_
    refine RL.q (Y.quo rfl rfl OM OM) rfl ?_
    refine RL.q (Y.rem rfl rfl OM) rfl ?_
    refine RL.q (Y.sub rfl rfl OM) rfl ?_
    refine RL.q (Y.build [_, _, _] rfl zero26 places26 (by rfl)) rfl ?_
    refine RL.q (Y.move rfl) rfl ?_
    first | refine RL.storeRds 3 rfl rfl RP MM EL (by first | exact Kn.lenRds MM EL | exact Kn.lenLit rfl) size26 ?_ | refine RL.storeAgg _ rfl rfl RP (by rfl) (by first | (simp; done) | simp [IdT.vals]) (by first | (simp [Value.oneCell']; done) | simp [Value.oneCell', IdT.vals]) size26 ?_
    refine RL.q (Y.assign rfl) rfl ?_
    refine RL.nil ?_
    refine hK8 _ _ _ ?_
    refine CW.kp [10, 11] rfl ?_
    refine CW.ret ?_
    have e : mkF p l (n + 1) t pos d = (.mk 0 (1099511627776 - (c.tdiv 16).tmod 3) [], pos + 1) := by rw [mkF, ← hce, if_pos h1, if_pos h2]
    refine ⟨_, rfl, ?_⟩
    exact CellAt.mk rfl MM (by first | rfl | assumption) agg26 (Turn.drop ⟨Sub.refl _, rfl, _, by rw [e], by rw [e]; exact leaf_rd _ _⟩ SB)
   refine CW.skip ?_
   refine hK6 _ _ _ ?_
   refine CW.seq fun K9 hK9 => ?_
   refine CW.seq fun K10 hK10 => ?_
   refine CW.region ?_
   refine RL.q (Y.move rfl) rfl ?_
   refine RL.q (Y.rem rfl rfl OM) rfl ?_
   refine RL.q (Y.eql rfl rfl) rfl ?_
   refine RL.nil ?_
   refine hK10 _ _ _ ?_
   refine CW.kp [3, 10, 12, 44] rfl ?_
   refine CW.ite rfl (fun h3 => ?_) (fun h3 => ?_)
   ·refine CW.seq fun K11 hK11 => ?_
    refine CW.region ?_
    refine RL.q (Y.move rfl) rfl ?_
    refine RL.q (Y.quo rfl rfl OM OM) rfl ?_
    refine RL.q (Y.rem rfl rfl OM) rfl ?_
    refine RL.q (Y.add rfl rfl OM) rfl ?_
    refine RL.q (Y.build [_, _, _] rfl zero26 places26 (by rfl)) rfl ?_
    refine RL.q (Y.move rfl) rfl ?_
    first | refine RL.storeRds 3 rfl rfl RP MM EL (by first | exact Kn.lenRds MM EL | exact Kn.lenLit rfl) size26 ?_ | refine RL.storeAgg _ rfl rfl RP (by rfl) (by first | (simp; done) | simp [IdT.vals]) (by first | (simp [Value.oneCell']; done) | simp [Value.oneCell', IdT.vals]) size26 ?_
    refine RL.q (Y.assign rfl) rfl ?_
    refine RL.nil ?_
    refine hK11 _ _ _ ?_
    refine CW.kp [10, 11] rfl ?_
    refine CW.ret ?_
    have e : mkF p l (n + 1) t pos d = (.mk 0 (-1099511627776 + (c.tdiv 16).tmod 3) [], pos + 1) := by rw [mkF, ← hce, if_pos h1, if_neg h2, if_pos h3]
    refine ⟨_, rfl, ?_⟩
    exact CellAt.mk rfl MM (by first | rfl | assumption) agg26 (Turn.drop ⟨Sub.refl _, rfl, _, by rw [e], by rw [e]; exact leaf_rd _ _⟩ SB)
   refine CW.skip ?_
   refine hK9 _ _ _ ?_
   refine CW.seq fun K12 hK12 => ?_
   refine CW.region ?_
   refine RL.q (Y.move rfl) rfl ?_
   refine RL.q (Y.quo rfl rfl OM OM) rfl ?_
   refine RL.q (Y.rem rfl rfl OM) rfl ?_
   refine RL.q (Y.sub rfl rfl OM) rfl ?_
   refine RL.q (Y.build [_, _, _] rfl zero26 places26 (by rfl)) rfl ?_
   refine RL.q (Y.move rfl) rfl ?_
   first | refine RL.storeRds 3 rfl rfl RP MM EL (by first | exact Kn.lenRds MM EL | exact Kn.lenLit rfl) size26 ?_ | refine RL.storeAgg _ rfl rfl RP (by rfl) (by first | (simp; done) | simp [IdT.vals]) (by first | (simp [Value.oneCell']; done) | simp [Value.oneCell', IdT.vals]) size26 ?_
   refine RL.q (Y.assign rfl) rfl ?_
   refine RL.nil ?_
   refine hK12 _ _ _ ?_
   refine CW.kp [10, 11] rfl ?_
   refine CW.ret ?_
   have e : mkF p l (n + 1) t pos d = (.mk 0 ((c.tdiv 16).tmod 9 - 4) [], pos + 1) := by rw [mkF, ← hce, if_pos h1, if_neg h2, if_neg h3]
   refine ⟨_, rfl, ?_⟩
   exact CellAt.mk rfl MM (by first | rfl | assumption) agg26 (Turn.drop ⟨Sub.refl _, rfl, _, by rw [e], by rw [e]; exact leaf_rd _ _⟩ SB)
  refine CW.skip ?_
  refine hK4 _ _ _ ?_
  refine CW.seq fun K13 hK13 => ?_
  refine CW.seq fun K14 hK14 => ?_
  refine CW.region ?_
  refine RL.q (Y.field rfl field38_0) rfl ?_
  first | refine RL.q (Y.loadOwnV rfl MM MM (by rfl) flat3) rfl ?_ | refine RL.q (Y.loadOwn rfl MM (by rfl) flat3) rfl ?_ | refine RL.loadOwnSl rfl rfl MM MM (by rfl) flat3 rfl fun a58 c58 hu58 hc58 hl58 => ?_
  refine RL.q (Y.eql rfl rfl) rfl ?_
  refine RL.nil ?_
  refine hK14 _ _ _ ?_
  refine CW.kp [2, 3, 4, 5, 6, 10, 12, 59] rfl ?_
  refine CW.ite rfl (fun h4 => ?_) (fun h4 => ?_)
  ·refine CW.seq fun K15 hK15 => ?_
   refine CW.region ?_
   refine RL.q (Y.move rfl) rfl ?_
   refine RL.q (Y.rem rfl rfl OM) rfl ?_
   refine RL.q (Y.build [_, _, _] rfl zero26 places26 (by rfl)) rfl ?_
   refine RL.q (Y.move rfl) rfl ?_
   first | refine RL.storeRds 3 rfl rfl RP MM EL (by first | exact Kn.lenRds MM EL | exact Kn.lenLit rfl) size26 ?_ | refine RL.storeAgg _ rfl rfl RP (by rfl) (by first | (simp; done) | simp [IdT.vals]) (by first | (simp [Value.oneCell']; done) | simp [Value.oneCell', IdT.vals]) size26 ?_
   refine RL.q (Y.assign rfl) rfl ?_
   refine RL.nil ?_
   refine hK15 _ _ _ ?_
   refine CW.kp [10, 11] rfl ?_
   refine CW.ret ?_
   have e : mkF p l (n + 1) t pos d = (.mk 1 (c.tmod 2) [], pos + 1) := by rw [mkF, ← hce, if_neg h1, if_pos h4]
   refine ⟨_, rfl, ?_⟩
   exact CellAt.mk rfl MM (by first | rfl | assumption) agg26 (Turn.drop ⟨Sub.refl _, rfl, _, by rw [e], by rw [e]; exact leaf_rd _ _⟩ SB)
  refine CW.skip ?_
  refine hK13 _ _ _ ?_
  refine CW.seq fun K16 hK16 => ?_
  refine CW.region ?_
  refine RL.q (Y.build [_, _, _] rfl zero26 places26 (by rfl)) rfl ?_
  refine RL.alloc _ zero26 rfl rfl fun b13 => ?_
  first | refine RL.storeRds 3 rfl rfl RP MM EL (by first | exact Kn.lenRds MM EL | exact Kn.lenLit rfl) size26 ?_ | refine RL.storeAgg _ rfl rfl RP (by rfl) (by first | (simp; done) | simp [IdT.vals]) (by first | (simp [Value.oneCell']; done) | simp [Value.oneCell', IdT.vals]) size26 ?_
  refine RL.nil ?_
  refine hK16 _ _ _ ?_
  refine CW.kp [2, 3, 4, 5, 6, 10, 12, 13] rfl ?_
  refine CW.seq fun K17 hK17 => ?_
  refine CW.seq fun K18 hK18 => ?_
  refine CW.region ?_
  refine RL.q (Y.field rfl field38_0) rfl ?_
  first | refine RL.q (Y.loadOwnV rfl MM MM (by rfl) flat3) rfl ?_ | refine RL.q (Y.loadOwn rfl MM (by rfl) flat3) rfl ?_ | refine RL.loadOwnSl rfl rfl MM MM (by rfl) flat3 rfl fun a66 c66 hu66 hc66 hl66 => ?_
  refine RL.q (Y.eql rfl rfl) rfl ?_
  refine RL.nil ?_
  refine hK18 _ _ _ ?_
  refine CW.kp [2, 3, 4, 5, 6, 10, 12, 13, 67] rfl ?_
  refine CW.ite rfl (fun h5 => ?_) (fun h5 => ?_)
  ·obtain ⟨hkl, hwk⟩ := wfT_list hwf h5
   rw [headD_0 hkl] at hwk
   refine CW.seq fun K19 hK19 => ?_
   refine CW.region ?_
   refine RL.q (Y.move rfl) rfl ?_
   refine RL.q (Y.rem rfl rfl OM) rfl ?_
   refine RL.q (Y.assign rfl) rfl ?_
   refine RL.nil ?_
   refine hK19 _ _ _ ?_
   refine CW.kp [2, 3, 4, 5, 6, 10, 13, 14] rfl ?_
   refine CW.seq fun K20 hK20 => ?_
   refine CW.seq fun K21 hK21 => ?_
   refine CW.region ?_
   refine RL.q (Y.move rfl) rfl ?_
   refine RL.q (Y.gtr rfl rfl) rfl ?_
   refine RL.nil ?_
   refine hK21 _ _ _ ?_
   refine CW.kp [2, 3, 4, 5, 6, 10, 13, 14, 71] rfl ?_
   refine CW.ite rfl (fun h6 => ?_) (fun h6 => ?_)
   ·refine CW.region ?_
    refine RL.q (v := vint ((zeroN : Nat) : Int)) (Y.assign rfl) rfl ?_
    refine RL.nil ?_
    refine hK20 _ _ _ ?_
    refine CW.kp [2, 3, 4, 5, 6, 10, 13, 14] rfl ?_
    obtain ⟨many, hmany⟩ : ∃ k, k = zeroN := ⟨_, rfl⟩
    rw [← hmany]
    replace hmany : many = 0 := hmany
    have hml : many = (if 3 < d then 0 else (c.tmod 3).toNat) := by rw [hmany, if_pos h6]
    refine CW.seq fun K22 hK22 => ?_
    refine CW.seq fun K23 hK23 => ?_
    have hm2 : many ≤ 2 := by rw [hml]; split <;> omega
    refine CW.region ?_
    refine RL.q (Y.assign rfl) rfl ?_
    refine RL.nil ?_
    refine hK23 _ _ _ ?_
    refine CW.kp [2, 3, 4, 5, 6, 10, 13, 14, 15] rfl ?_
    refine CW.block ?_
    -- LOOP 1: live [2, 3, 4, 5, 6, 10, 13, 14, 15] changed [3, 15]
    refine CW.kp [3, 15, 2, 4, 5, 6, 10, 13, 14] rfl ?_
    refine CW.front (x := .own b13 26 [vint 4, vint 0, .slice none 0 0]) PK ?_
    refine CW.accNil 26 3 ?_
    refine CW.addRds (RdL.nil _) ?_
    refine CW.loopF (fun mm Lc M1 Γc => ∃ (k : Nat) (dn : List Val) (pk : Int) (ua : Option Addr) (ca : Nat) (us : List Value), mm = many - k ∧ k ≤ many ∧ Lc = [(3, vint pk), (15, vint k)] ∧ Γc = [.rds (dn.flatMap Val.enc) us, .acc (.slice ua k ca) 26 3 k us, .own b13 26 [vint 4, vint 0, .slice ua k ca]] ∧ dn.length = k ∧ pos + 1 ≤ pk ∧ pk ≤ pos + 1 + k * b ∧ mkS (fun u q => mkF p l n u q (d + 1)) (List.replicate many (t.kids.headD ty0)) (pos + 1) = mJ dn (mkS (fun u q => mkF p l n u q (d + 1)) ((List.replicate many (t.kids.headD ty0)).drop k) pk)) (many) [(3, _), (15, _)] [_, _, _] rfl rfl ⟨0, [], pos + 1, none, 0, [], rfl, Nat.zero_le _, rfl, rfl, rfl, by omega, by simp, mJ_nil _⟩ ?_
    rintro mm Lc M1 Γc hs ⟨k, dn, pk, ua, ca, us, rfl, hk, rfl, rfl, hdn, hp1, hp2, hz⟩
    refine CW.seq fun K24 hK24 => ?_
    refine CW.seq fun K25 hK25 => ?_
    refine CW.region ?_
    refine RL.q (Y.move rfl) rfl ?_
    refine RL.q (Y.move rfl) rfl ?_
    refine RL.q (Y.lss rfl rfl) rfl ?_
    refine RL.nil ?_
    refine hK25 _ _ _ ?_
    refine CW.kp [2, 3, 4, 5, 6, 10, 13, 14, 15, 74] rfl ?_
    refine CW.ite rfl (fun h7 => ?_) (fun h7 => ?_)
    ·have hka : k < many := by omega
     have hkb : (k : Int) * b ≤ 2 * b := Int.mul_le_mul_of_nonneg_right OM OM
     refine CW.skip ?_
     refine hK24 _ _ _ ?_
     refine CW.seq fun K26 hK26 => ?_
     refine CW.block ?_
     refine CW.seq fun K27 hK27 => ?_
     refine CW.regionH mix _ _ (fun _ hw => hw) ?_
     first | refine HL.take 0 rfl KR KR KR rfl (Y.loadAllR rfl MM MM EL agg32) rfl ?_ | refine HL.take 0 rfl KR KR KR rfl (Y.loadAll rfl MM (by rfl) agg32) rfl ?_ | refine HL.loadPart 0 rfl KR KR KR rfl rfl MM MM (by rfl) (by rfl) agg32 rfl fun us78 hul78 hur78 => ?_
     refine HL.take 1 rfl KR KR KR rfl (Y.field rfl field38_2) rfl ?_
     first | refine HL.take 2 rfl KR KR KR rfl (Y.loadOwnV rfl MM MM (by rfl) flat36) rfl ?_ | refine HL.take 2 rfl KR KR KR rfl (Y.loadOwn rfl MM (by rfl) flat36) rfl ?_ | refine HL.loadOwnSl 2 rfl KR KR KR rfl rfl MM MM (by rfl) flat36 rfl fun a80 c80 hu80 hc80 hl80 => ?_
     refine HL.take 3 rfl KR KR KR rfl (Y.index 0 rfl rfl OM OM slice36 (fun _ hw => hw.rd_some MM OM)) rfl ?_
     refine HL.loadAgg 4 rfl KR KR KR rfl rfl MM (Eq.trans (flat_take Ty.enc_len _ _ _ (List.getElem?_eq_getElem AO)) (Ty.enc_eq _)) (by rfl) agg38 rfl fun us82 hul82 hur82 => ?_
     refine HL.take 5 rfl KR KR KR rfl (Y.move rfl) rfl ?_
     refine HL.take 6 rfl KR KR KR rfl (Y.move rfl) rfl ?_
     refine HL.take 7 rfl KR KR KR rfl (Y.move rfl) rfl ?_
     refine HL.take 8 rfl KR KR KR rfl (Y.add rfl rfl OM) rfl ?_
     refine HL.step2 9 13 rfl rfl KR ?_ ?_
     ·refine RL.call rfl func43 rfl rfl (by exact ih n OM _ _ _ p usp (t.kids[0]) _ l _ pk (d + 1) hwk OM OM OM OM hli (by exact Kn.rds MM) KK (by exact Kn.rd MM)) ?_
      rintro v87 M87 _ ⟨hs87, rfl, us87, rfl, hr87⟩
      refine RL.addRds hr87 ?_
      have hul87 : us87.length = 3 := hr87.1.trans (Val.enc_len _)
      refine RL.nil ⟨keep_more (hs87) SB, ?_⟩
      refine HL.take 10 rfl KR KR KR rfl (Y.move rfl) rfl ?_
      refine HL.take 11 rfl KR KR KR rfl (Y.extract rfl rfl) rfl ?_
      refine HL.take 12 rfl KR KR KR rfl (Y.extract rfl rfl) rfl ?_
      refine HL.step 13 rfl KR ?_
      refine RL.alloc _ zero26 rfl rfl fun b16 => ?_
      refine RL.nil ⟨keep_more (hs87) SB, ?_⟩
      refine HL.step 14 rfl KR ?_
      first | refine RL.storeRds 3 rfl rfl RP MM EL (by first | exact Kn.lenRds MM EL | exact Kn.lenLit rfl) size26 ?_ | refine RL.storeAgg _ rfl rfl RP (by rfl) (by first | (simp; done) | simp [IdT.vals]) (by first | (simp [Value.oneCell']; done) | simp [Value.oneCell', IdT.vals]) size26 ?_
      refine RL.nil ⟨keep_more (hs87) SB, ?_⟩
      refine HL.take 15 rfl KR KR KR rfl (Y.assign rfl) rfl ?_
      refine HL.done KR ?_
      refine hK27 _ _ _ ?_
      refine CW.kp [2, 4, 5, 6, 10, 13, 14, 15, 16, 17] rfl ?_
      refine CW.seq fun K28 hK28 => ?_
      refine CW.region ?_
      refine RL.q (Y.move rfl) rfl ?_
      refine RL.q (Y.assign rfl) rfl ?_
      refine RL.nil ?_
      refine hK28 _ _ _ ?_
      refine CW.kp [2, 3, 4, 5, 6, 10, 13, 14, 15, 16] rfl ?_
      refine CW.region ?_
      refine RL.q (Y.field rfl field26_2) rfl ?_
      first | refine RL.q (Y.loadOwnV rfl MM MM (by rfl) flat24) rfl ?_ | refine RL.q (Y.loadOwn rfl MM (by rfl) flat24) rfl ?_ | refine RL.loadOwnSl rfl rfl MM MM (by rfl) flat24 rfl fun a92 c92 hu92 hc92 hl92 => ?_
      first | refine RL.q (Y.loadAllR rfl MM MM EL agg26) rfl ?_ | refine RL.q (Y.loadAll rfl MM (by rfl) agg26) rfl ?_ | refine RL.loadPart rfl rfl MM MM (by rfl) (by rfl) agg26 rfl fun us93 hul93 hur93 => ?_
      refine RL.buildSlice us87 elem24 rfl (by decide) (fill1 rfl hul87) rfl fun b94 => ?_
      refine RL.append elem24 rfl rfl PK (SrcOk.own (sz := 3) (m := 1) MM (by simp [hul87]) hr87.one) OM (by unfold lim; omega) rfl fun a95 c95 hc95 => ?_
      refine RL.q (Y.field rfl field26_2) rfl ?_
      refine RL.store _ rfl rfl RP (by rfl) (by simp) (by rfl) size24 ?_
      refine RL.nil ?_
      refine hK26 _ _ _ ?_
      refine CW.kp [2, 3, 4, 5, 6, 10, 13, 14, 15] rfl ?_
      refine CW.region ?_
      refine RL.q (Y.move rfl) rfl ?_
      refine RL.q (Y.add rfl rfl OM) rfl ?_
      refine RL.q (Y.assign rfl) rfl ?_
      refine RL.nil ?_
      refine ⟨many - (k + 1), [(3, _), (15, _)], ?_, (KP [3, 15, 2, 4, 5, 6, 10, 13, 14]), ?_⟩
      · omega
      · refine Turn.kn (Kn.rds (ds := dn.flatMap Val.enc) (us := us) MM) fun hrd => ?_
        refine Turn.front (x := .own b13 26 _) PK ?_
        refine Turn.front (x := .acc (.slice a95 (k + 1) c95) 26 3 (k + 1) (us ++ us87)) PK ?_
        refine Turn.addRds (hrd.append hr87) ?_
        have hps := mkF_pos (l := l) n (t.kids[0]) pk (d + 1) hwk
        rw [← hb] at hps
        have hsc : ((k + 1 : Nat) : Int) * b = k * b + b := by rw [Int.natCast_add, Int.add_mul]; simp
        refine Turn.drop ⟨[_, _, _], rfl, hs.trans hs87, k + 1, dn ++ [(mkF p l n (t.kids[0]) pk (d + 1)).1], (mkF p l n (t.kids[0]) pk (d + 1)).2, a95, c95, us ++ us87, rfl, by omega, rfl, by rw [snoc_flat] <;> rfl, by simp [hdn], by omega, by omega, ?_⟩ SB
        have hst := mJ_step (k := k) (by simp; omega) hz
        rw [← headD_0 hkl]; simpa using hst
     refine RL.alloc _ zero26 rfl rfl fun b16 => ?_
     refine RL.nil ⟨keep_same SB, ?_⟩
     refine HL.step 9 rfl KR ?_
     refine RL.call rfl func43 rfl rfl (by exact ih n OM _ _ _ p usp (t.kids[0]) _ l _ pk (d + 1) hwk OM OM OM OM hli (by exact Kn.rds MM) KK (by exact Kn.rd MM)) ?_
     rintro v87 M87 _ ⟨hs87, rfl, us87, rfl, hr87⟩
     refine RL.addRds hr87 ?_
     have hul87 : us87.length = 3 := hr87.1.trans (Val.enc_len _)
     refine RL.nil ⟨keep_more (hs87) SB, ?_⟩
     refine HL.take 10 rfl KR KR KR rfl (Y.move rfl) rfl ?_
     refine HL.take 11 rfl KR KR KR rfl (Y.extract rfl rfl) rfl ?_
     refine HL.take 12 rfl KR KR KR rfl (Y.extract rfl rfl) rfl ?_
     refine HL.step 14 rfl KR ?_
     first | refine RL.storeRds 3 rfl rfl RP MM EL (by first | exact Kn.lenRds MM EL | exact Kn.lenLit rfl) size26 ?_ | refine RL.storeAgg _ rfl rfl RP (by rfl) (by first | (simp; done) | simp [IdT.vals]) (by first | (simp [Value.oneCell']; done) | simp [Value.oneCell', IdT.vals]) size26 ?_
     refine RL.nil ⟨keep_more (hs87) SB, ?_⟩
     refine HL.take 15 rfl KR KR KR rfl (Y.assign rfl) rfl ?_
     refine HL.done KR ?_
     refine hK27 _ _ _ ?_
     refine CW.kp [2, 4, 5, 6, 10, 13, 14, 15, 16, 17] rfl ?_
     refine CW.seq fun K29 hK29 => ?_
     refine CW.region ?_
     refine RL.q (Y.move rfl) rfl ?_
     refine RL.q (Y.assign rfl) rfl ?_
     refine RL.nil ?_
     refine hK29 _ _ _ ?_
     refine CW.kp [2, 3, 4, 5, 6, 10, 13, 14, 15, 16] rfl ?_
     refine CW.region ?_
     refine RL.q (Y.field rfl field26_2) rfl ?_
     first | refine RL.q (Y.loadOwnV rfl MM MM (by rfl) flat24) rfl ?_ | refine RL.q (Y.loadOwn rfl MM (by rfl) flat24) rfl ?_ | refine RL.loadOwnSl rfl rfl MM MM (by rfl) flat24 rfl fun a92 c92 hu92 hc92 hl92 => ?_
     first | refine RL.q (Y.loadAllR rfl MM MM EL agg26) rfl ?_ | refine RL.q (Y.loadAll rfl MM (by rfl) agg26) rfl ?_ | refine RL.loadPart rfl rfl MM MM (by rfl) (by rfl) agg26 rfl fun us93 hul93 hur93 => ?_
     refine RL.buildSlice us87 elem24 rfl (by decide) (fill1 rfl hul87) rfl fun b94 => ?_
     refine RL.append elem24 rfl rfl PK (SrcOk.own (sz := 3) (m := 1) MM (by simp [hul87]) hr87.one) OM (by unfold lim; omega) rfl fun a95 c95 hc95 => ?_
     refine RL.q (Y.field rfl field26_2) rfl ?_
     refine RL.store _ rfl rfl RP (by rfl) (by simp) (by rfl) size24 ?_
     refine RL.nil ?_
     refine hK26 _ _ _ ?_
     refine CW.kp [2, 3, 4, 5, 6, 10, 13, 14, 15] rfl ?_
     refine CW.region ?_
     refine RL.q (Y.move rfl) rfl ?_
     refine RL.q (Y.add rfl rfl OM) rfl ?_
     refine RL.q (Y.assign rfl) rfl ?_
     refine RL.nil ?_
     refine ⟨many - (k + 1), [(3, _), (15, _)], ?_, (KP [3, 15, 2, 4, 5, 6, 10, 13, 14]), ?_⟩
     · omega
     · refine Turn.kn (Kn.rds (ds := dn.flatMap Val.enc) (us := us) MM) fun hrd => ?_
       refine Turn.front (x := .own b13 26 _) PK ?_
       refine Turn.front (x := .acc (.slice a95 (k + 1) c95) 26 3 (k + 1) (us ++ us87)) PK ?_
       refine Turn.addRds (hrd.append hr87) ?_
       have hps := mkF_pos (l := l) n (t.kids[0]) pk (d + 1) hwk
       rw [← hb] at hps
       have hsc : ((k + 1 : Nat) : Int) * b = k * b + b := by rw [Int.natCast_add, Int.add_mul]; simp
       refine Turn.drop ⟨[_, _, _], rfl, hs.trans hs87, k + 1, dn ++ [(mkF p l n (t.kids[0]) pk (d + 1)).1], (mkF p l n (t.kids[0]) pk (d + 1)).2, a95, c95, us ++ us87, rfl, by omega, rfl, by rw [snoc_flat] <;> rfl, by simp [hdn], by omega, by omega, ?_⟩ SB
       have hst := mJ_step (k := k) (by simp; omega) hz
       rw [← headD_0 hkl]; simpa using hst
    refine CW.exit ?_
    refine hK22 _ _ _ ?_
    refine CW.seq fun K30 hK30 => ?_
    refine CW.region ?_
    first | refine RL.q (Y.loadAllR rfl MM MM EL agg26) rfl ?_ | refine RL.q (Y.loadAll rfl MM (by rfl) agg26) rfl ?_ | refine RL.loadPart rfl rfl MM MM (by rfl) (by rfl) agg26 rfl fun us97 hul97 hur97 => ?_
    refine RL.q (Y.move rfl) rfl ?_
    first | refine RL.storeRds 3 rfl rfl RP MM EL (by first | exact Kn.lenRds MM EL | exact Kn.lenLit rfl) size26 ?_ | refine RL.storeAgg _ rfl rfl RP (by rfl) (by first | (simp; done) | simp [IdT.vals]) (by first | (simp [Value.oneCell']; done) | simp [Value.oneCell', IdT.vals]) size26 ?_
    refine RL.q (Y.assign rfl) rfl ?_
    refine RL.nil ?_
    refine hK30 _ _ _ ?_
    refine CW.kp [10, 11] rfl ?_
    refine CW.ret ?_
    have e : mkF p l (n + 1) t pos d = (.mk 4 0 dn, pk) := by rw [mkF, ← hce, if_neg h1, if_neg h4, if_pos h5, ← hml, mJ_end (by simp; omega) hz]
    refine ⟨_, rfl, ?_⟩
    refine CellAt.mk rfl MM (by first | rfl | assumption) agg26 (Turn.kn (Kn.rds (ds := dn.flatMap Val.enc) (us := us) MM) fun hrd => ?_)
    exact Turn.sealAcc (Γ := Γ) (u := .slice ua k ca) PK hrd (by unfold lim; omega) SB fun M2 hs2 hr2 => ⟨hs.trans hs2, rfl, _, by rw [e], by rw [e]; exact node_rd 4 0 dn (by rw [hdn]; exact hr2)⟩
   obtain ⟨many, hmany⟩ := Int.eq_ofNat_of_zero_le (show 0 ≤ c.tmod 3 by omega)
   rw [hmany]
   have hml : many = (if 3 < d then 0 else (c.tmod 3).toNat) := by rw [if_neg h6, hmany]; rfl
   refine CW.skip ?_
   refine hK20 _ _ _ ?_
   refine CW.seq fun K31 hK31 => ?_
   refine CW.seq fun K32 hK32 => ?_
   have hm2 : many ≤ 2 := by rw [hml]; split <;> omega
   refine CW.region ?_
   refine RL.q (Y.assign rfl) rfl ?_
   refine RL.nil ?_
   refine hK32 _ _ _ ?_
   refine CW.kp [2, 3, 4, 5, 6, 10, 13, 14, 15] rfl ?_
   refine CW.block ?_
   -- LOOP 1: live [2, 3, 4, 5, 6, 10, 13, 14, 15] changed [3, 15]
   refine CW.kp [3, 15, 2, 4, 5, 6, 10, 13, 14] rfl ?_
   refine CW.front (x := .own b13 26 [vint 4, vint 0, .slice none 0 0]) PK ?_
   refine CW.accNil 26 3 ?_
   refine CW.addRds (RdL.nil _) ?_
   refine CW.loopF (fun mm Lc M1 Γc => ∃ (k : Nat) (dn : List Val) (pk : Int) (ua : Option Addr) (ca : Nat) (us : List Value), mm = many - k ∧ k ≤ many ∧ Lc = [(3, vint pk), (15, vint k)] ∧ Γc = [.rds (dn.flatMap Val.enc) us, .acc (.slice ua k ca) 26 3 k us, .own b13 26 [vint 4, vint 0, .slice ua k ca]] ∧ dn.length = k ∧ pos + 1 ≤ pk ∧ pk ≤ pos + 1 + k * b ∧ mkS (fun u q => mkF p l n u q (d + 1)) (List.replicate many (t.kids.headD ty0)) (pos + 1) = mJ dn (mkS (fun u q => mkF p l n u q (d + 1)) ((List.replicate many (t.kids.headD ty0)).drop k) pk)) (many) [(3, _), (15, _)] [_, _, _] rfl rfl ⟨0, [], pos + 1, none, 0, [], rfl, Nat.zero_le _, rfl, rfl, rfl, by omega, by simp, mJ_nil _⟩ ?_
   rintro mm Lc M1 Γc hs ⟨k, dn, pk, ua, ca, us, rfl, hk, rfl, rfl, hdn, hp1, hp2, hz⟩
   refine CW.seq fun K33 hK33 => ?_
   refine CW.seq fun K34 hK34 => ?_
   refine CW.region ?_
   refine RL.q (Y.move rfl) rfl ?_
   refine RL.q (Y.move rfl) rfl ?_
   refine RL.q (Y.lss rfl rfl) rfl ?_
   refine RL.nil ?_
   refine hK34 _ _ _ ?_
   refine CW.kp [2, 3, 4, 5, 6, 10, 13, 14, 15, 74] rfl ?_
   refine CW.ite rfl (fun h7 => ?_) (fun h7 => ?_)
   ·have hka : k < many := by omega
    have hkb : (k : Int) * b ≤ 2 * b := Int.mul_le_mul_of_nonneg_right OM OM
    refine CW.skip ?_
    refine hK33 _ _ _ ?_
    refine CW.seq fun K35 hK35 => ?_
    refine CW.block ?_
    refine CW.seq fun K36 hK36 => ?_
    refine CW.regionH mix _ _ (fun _ hw => hw) ?_
    first | refine HL.take 0 rfl KR KR KR rfl (Y.loadAllR rfl MM MM EL agg32) rfl ?_ | refine HL.take 0 rfl KR KR KR rfl (Y.loadAll rfl MM (by rfl) agg32) rfl ?_ | refine HL.loadPart 0 rfl KR KR KR rfl rfl MM MM (by rfl) (by rfl) agg32 rfl fun us78 hul78 hur78 => ?_
    refine HL.take 1 rfl KR KR KR rfl (Y.field rfl field38_2) rfl ?_
    first | refine HL.take 2 rfl KR KR KR rfl (Y.loadOwnV rfl MM MM (by rfl) flat36) rfl ?_ | refine HL.take 2 rfl KR KR KR rfl (Y.loadOwn rfl MM (by rfl) flat36) rfl ?_ | refine HL.loadOwnSl 2 rfl KR KR KR rfl rfl MM MM (by rfl) flat36 rfl fun a80 c80 hu80 hc80 hl80 => ?_
    refine HL.take 3 rfl KR KR KR rfl (Y.index 0 rfl rfl OM OM slice36 (fun _ hw => hw.rd_some MM OM)) rfl ?_
    refine HL.loadAgg 4 rfl KR KR KR rfl rfl MM (Eq.trans (flat_take Ty.enc_len _ _ _ (List.getElem?_eq_getElem AO)) (Ty.enc_eq _)) (by rfl) agg38 rfl fun us82 hul82 hur82 => ?_
    refine HL.take 5 rfl KR KR KR rfl (Y.move rfl) rfl ?_
    refine HL.take 6 rfl KR KR KR rfl (Y.move rfl) rfl ?_
    refine HL.take 7 rfl KR KR KR rfl (Y.move rfl) rfl ?_
    refine HL.take 8 rfl KR KR KR rfl (Y.add rfl rfl OM) rfl ?_
    refine HL.step2 9 13 rfl rfl KR ?_ ?_
    ·refine RL.call rfl func43 rfl rfl (by exact ih n OM _ _ _ p usp (t.kids[0]) _ l _ pk (d + 1) hwk OM OM OM OM hli (by exact Kn.rds MM) KK (by exact Kn.rd MM)) ?_
     rintro v87 M87 _ ⟨hs87, rfl, us87, rfl, hr87⟩
     refine RL.addRds hr87 ?_
     have hul87 : us87.length = 3 := hr87.1.trans (Val.enc_len _)
     refine RL.nil ⟨keep_more (hs87) SB, ?_⟩
     refine HL.take 10 rfl KR KR KR rfl (Y.move rfl) rfl ?_
     refine HL.take 11 rfl KR KR KR rfl (Y.extract rfl rfl) rfl ?_
     refine HL.take 12 rfl KR KR KR rfl (Y.extract rfl rfl) rfl ?_
     refine HL.step 13 rfl KR ?_
     refine RL.alloc _ zero26 rfl rfl fun b16 => ?_
     refine RL.nil ⟨keep_more (hs87) SB, ?_⟩
     refine HL.step 14 rfl KR ?_
     first | refine RL.storeRds 3 rfl rfl RP MM EL (by first | exact Kn.lenRds MM EL | exact Kn.lenLit rfl) size26 ?_ | refine RL.storeAgg _ rfl rfl RP (by rfl) (by first | (simp; done) | simp [IdT.vals]) (by first | (simp [Value.oneCell']; done) | simp [Value.oneCell', IdT.vals]) size26 ?_
     refine RL.nil ⟨keep_more (hs87) SB, ?_⟩
     refine HL.take 15 rfl KR KR KR rfl (Y.assign rfl) rfl ?_
     refine HL.done KR ?_
     refine hK36 _ _ _ ?_
     refine CW.kp [2, 4, 5, 6, 10, 13, 14, 15, 16, 17] rfl ?_
     refine CW.seq fun K37 hK37 => ?_
     refine CW.region ?_
     refine RL.q (Y.move rfl) rfl ?_
     refine RL.q (Y.assign rfl) rfl ?_
     refine RL.nil ?_
     refine hK37 _ _ _ ?_
     refine CW.kp [2, 3, 4, 5, 6, 10, 13, 14, 15, 16] rfl ?_
     refine CW.region ?_
     refine RL.q (Y.field rfl field26_2) rfl ?_
     first | refine RL.q (Y.loadOwnV rfl MM MM (by rfl) flat24) rfl ?_ | refine RL.q (Y.loadOwn rfl MM (by rfl) flat24) rfl ?_ | refine RL.loadOwnSl rfl rfl MM MM (by rfl) flat24 rfl fun a92 c92 hu92 hc92 hl92 => ?_
     first | refine RL.q (Y.loadAllR rfl MM MM EL agg26) rfl ?_ | refine RL.q (Y.loadAll rfl MM (by rfl) agg26) rfl ?_ | refine RL.loadPart rfl rfl MM MM (by rfl) (by rfl) agg26 rfl fun us93 hul93 hur93 => ?_
     refine RL.buildSlice us87 elem24 rfl (by decide) (fill1 rfl hul87) rfl fun b94 => ?_
     refine RL.append elem24 rfl rfl PK (SrcOk.own (sz := 3) (m := 1) MM (by simp [hul87]) hr87.one) OM (by unfold lim; omega) rfl fun a95 c95 hc95 => ?_
     refine RL.q (Y.field rfl field26_2) rfl ?_
     refine RL.store _ rfl rfl RP (by rfl) (by simp) (by rfl) size24 ?_
     refine RL.nil ?_
     refine hK35 _ _ _ ?_
     refine CW.kp [2, 3, 4, 5, 6, 10, 13, 14, 15] rfl ?_
     refine CW.region ?_
     refine RL.q (Y.move rfl) rfl ?_
     refine RL.q (Y.add rfl rfl OM) rfl ?_
     refine RL.q (Y.assign rfl) rfl ?_
     refine RL.nil ?_
     refine ⟨many - (k + 1), [(3, _), (15, _)], ?_, (KP [3, 15, 2, 4, 5, 6, 10, 13, 14]), ?_⟩
     · omega
     · refine Turn.kn (Kn.rds (ds := dn.flatMap Val.enc) (us := us) MM) fun hrd => ?_
       refine Turn.front (x := .own b13 26 _) PK ?_
       refine Turn.front (x := .acc (.slice a95 (k + 1) c95) 26 3 (k + 1) (us ++ us87)) PK ?_
       refine Turn.addRds (hrd.append hr87) ?_
       have hps := mkF_pos (l := l) n (t.kids[0]) pk (d + 1) hwk
       rw [← hb] at hps
       have hsc : ((k + 1 : Nat) : Int) * b = k * b + b := by rw [Int.natCast_add, Int.add_mul]; simp
       refine Turn.drop ⟨[_, _, _], rfl, hs.trans hs87, k + 1, dn ++ [(mkF p l n (t.kids[0]) pk (d + 1)).1], (mkF p l n (t.kids[0]) pk (d + 1)).2, a95, c95, us ++ us87, rfl, by omega, rfl, by rw [snoc_flat] <;> rfl, by simp [hdn], by omega, by omega, ?_⟩ SB
       have hst := mJ_step (k := k) (by simp; omega) hz
       rw [← headD_0 hkl]; simpa using hst
    refine RL.alloc _ zero26 rfl rfl fun b16 => ?_
    refine RL.nil ⟨keep_same SB, ?_⟩
    refine HL.step 9 rfl KR ?_
    refine RL.call rfl func43 rfl rfl (by exact ih n OM _ _ _ p usp (t.kids[0]) _ l _ pk (d + 1) hwk OM OM OM OM hli (by exact Kn.rds MM) KK (by exact Kn.rd MM)) ?_
    rintro v87 M87 _ ⟨hs87, rfl, us87, rfl, hr87⟩
    refine RL.addRds hr87 ?_
    have hul87 : us87.length = 3 := hr87.1.trans (Val.enc_len _)
    refine RL.nil ⟨keep_more (hs87) SB, ?_⟩
    refine HL.take 10 rfl KR KR KR rfl (Y.move rfl) rfl ?_
    refine HL.take 11 rfl KR KR KR rfl (Y.extract rfl rfl) rfl ?_
    refine HL.take 12 rfl KR KR KR rfl (Y.extract rfl rfl) rfl ?_
    refine HL.step 14 rfl KR ?_
    first | refine RL.storeRds 3 rfl rfl RP MM EL (by first | exact Kn.lenRds MM EL | exact Kn.lenLit rfl) size26 ?_ | refine RL.storeAgg _ rfl rfl RP (by rfl) (by first | (simp; done) | simp [IdT.vals]) (by first | (simp [Value.oneCell']; done) | simp [Value.oneCell', IdT.vals]) size26 ?_
    refine RL.nil ⟨keep_more (hs87) SB, ?_⟩
    refine HL.take 15 rfl KR KR KR rfl (Y.assign rfl) rfl ?_
    refine HL.done KR ?_
    refine hK36 _ _ _ ?_
    refine CW.kp [2, 4, 5, 6, 10, 13, 14, 15, 16, 17] rfl ?_
    refine CW.seq fun K38 hK38 => ?_
    refine CW.region ?_
    refine RL.q (Y.move rfl) rfl ?_
    refine RL.q (Y.assign rfl) rfl ?_
    refine RL.nil ?_
    refine hK38 _ _ _ ?_
    refine CW.kp [2, 3, 4, 5, 6, 10, 13, 14, 15, 16] rfl ?_
    refine CW.region ?_
    refine RL.q (Y.field rfl field26_2) rfl ?_
    first | refine RL.q (Y.loadOwnV rfl MM MM (by rfl) flat24) rfl ?_ | refine RL.q (Y.loadOwn rfl MM (by rfl) flat24) rfl ?_ | refine RL.loadOwnSl rfl rfl MM MM (by rfl) flat24 rfl fun a92 c92 hu92 hc92 hl92 => ?_
    first | refine RL.q (Y.loadAllR rfl MM MM EL agg26) rfl ?_ | refine RL.q (Y.loadAll rfl MM (by rfl) agg26) rfl ?_ | refine RL.loadPart rfl rfl MM MM (by rfl) (by rfl) agg26 rfl fun us93 hul93 hur93 => ?_
    refine RL.buildSlice us87 elem24 rfl (by decide) (fill1 rfl hul87) rfl fun b94 => ?_
    refine RL.append elem24 rfl rfl PK (SrcOk.own (sz := 3) (m := 1) MM (by simp [hul87]) hr87.one) OM (by unfold lim; omega) rfl fun a95 c95 hc95 => ?_
    refine RL.q (Y.field rfl field26_2) rfl ?_
    refine RL.store _ rfl rfl RP (by rfl) (by simp) (by rfl) size24 ?_
    refine RL.nil ?_
    refine hK35 _ _ _ ?_
    refine CW.kp [2, 3, 4, 5, 6, 10, 13, 14, 15] rfl ?_
    refine CW.region ?_
    refine RL.q (Y.move rfl) rfl ?_
    refine RL.q (Y.add rfl rfl OM) rfl ?_
    refine RL.q (Y.assign rfl) rfl ?_
    refine RL.nil ?_
    refine ⟨many - (k + 1), [(3, _), (15, _)], ?_, (KP [3, 15, 2, 4, 5, 6, 10, 13, 14]), ?_⟩
    · omega
    · refine Turn.kn (Kn.rds (ds := dn.flatMap Val.enc) (us := us) MM) fun hrd => ?_
      refine Turn.front (x := .own b13 26 _) PK ?_
      refine Turn.front (x := .acc (.slice a95 (k + 1) c95) 26 3 (k + 1) (us ++ us87)) PK ?_
      refine Turn.addRds (hrd.append hr87) ?_
      have hps := mkF_pos (l := l) n (t.kids[0]) pk (d + 1) hwk
      rw [← hb] at hps
      have hsc : ((k + 1 : Nat) : Int) * b = k * b + b := by rw [Int.natCast_add, Int.add_mul]; simp
      refine Turn.drop ⟨[_, _, _], rfl, hs.trans hs87, k + 1, dn ++ [(mkF p l n (t.kids[0]) pk (d + 1)).1], (mkF p l n (t.kids[0]) pk (d + 1)).2, a95, c95, us ++ us87, rfl, by omega, rfl, by rw [snoc_flat] <;> rfl, by simp [hdn], by omega, by omega, ?_⟩ SB
      have hst := mJ_step (k := k) (by simp; omega) hz
      rw [← headD_0 hkl]; simpa using hst
   refine CW.exit ?_
   refine hK31 _ _ _ ?_
   refine CW.seq fun K39 hK39 => ?_
   refine CW.region ?_
   first | refine RL.q (Y.loadAllR rfl MM MM EL agg26) rfl ?_ | refine RL.q (Y.loadAll rfl MM (by rfl) agg26) rfl ?_ | refine RL.loadPart rfl rfl MM MM (by rfl) (by rfl) agg26 rfl fun us97 hul97 hur97 => ?_
   refine RL.q (Y.move rfl) rfl ?_
   first | refine RL.storeRds 3 rfl rfl RP MM EL (by first | exact Kn.lenRds MM EL | exact Kn.lenLit rfl) size26 ?_ | refine RL.storeAgg _ rfl rfl RP (by rfl) (by first | (simp; done) | simp [IdT.vals]) (by first | (simp [Value.oneCell']; done) | simp [Value.oneCell', IdT.vals]) size26 ?_
   refine RL.q (Y.assign rfl) rfl ?_
   refine RL.nil ?_
   refine hK39 _ _ _ ?_
   refine CW.kp [10, 11] rfl ?_
   refine CW.ret ?_
   have e : mkF p l (n + 1) t pos d = (.mk 4 0 dn, pk) := by rw [mkF, ← hce, if_neg h1, if_neg h4, if_pos h5, ← hml, mJ_end (by simp; omega) hz]
   refine ⟨_, rfl, ?_⟩
   refine CellAt.mk rfl MM (by first | rfl | assumption) agg26 (Turn.kn (Kn.rds (ds := dn.flatMap Val.enc) (us := us) MM) fun hrd => ?_)
   exact Turn.sealAcc (Γ := Γ) (u := .slice ua k ca) PK hrd (by unfold lim; omega) SB fun M2 hs2 hr2 => ⟨hs.trans hs2, rfl, _, by rw [e], by rw [e]; exact node_rd 4 0 dn (by rw [hdn]; exact hr2)⟩
  obtain ⟨h7a, h7b, h7c⟩ := wfT_def hwf h1 h4 h5
  refine CW.skip ?_
  refine hK17 _ _ _ ?_
  refine CW.seq fun K40 hK40 => ?_
  refine CW.region ?_
  first | refine RL.q (Y.loadAllR rfl MM MM EL agg32) rfl ?_ | refine RL.q (Y.loadAll rfl MM (by rfl) agg32) rfl ?_ | refine RL.loadPart rfl rfl MM MM (by rfl) (by rfl) agg32 rfl fun us100 hul100 hur100 => ?_
  refine RL.q (Y.field rfl field38_1) rfl ?_
  first | refine RL.q (Y.loadAggV [_, _, _] rfl MM MM (by rfl) agg35) rfl ?_ | refine RL.q (Y.loadAll rfl MM (by rfl) agg35) rfl ?_
  refine RL.call rfl func58 rfl rfl (by exact rdef_ok _ _ _ p _ t.df (by exact Kn.rds MM)) ?_
  rintro v103 M _ ⟨rfl, rfl, us103, rfl, hr103⟩
  refine RL.addRds hr103 ?_
  have hul103 : us103.length = 31 := hr103.1.trans (DefT.enc_len _)
  refine RL.q (Y.move rfl) rfl ?_
  refine RL.q (Y.extract rfl rfl) rfl ?_
  refine RL.q (Y.extract rfl rfl) rfl ?_
  refine RL.alloc _ zero52 rfl rfl fun b18 => ?_
  first | refine RL.storeRds 31 rfl rfl RP MM EL (by first | exact Kn.lenRds MM EL | exact Kn.lenLit rfl) size52 ?_ | refine RL.storeAgg _ rfl rfl RP (by rfl) (by first | (simp; done) | simp [IdT.vals]) (by first | (simp [Value.oneCell']; done) | simp [Value.oneCell', IdT.vals]) size52 ?_
  refine RL.q (Y.assign rfl) rfl ?_
  refine RL.nil ?_
  refine hK40 _ _ _ ?_
  refine CW.kp [2, 3, 4, 5, 10, 12, 13, 18] rfl ?_
  refine CW.seq fun K41 hK41 => ?_
  refine CW.seq fun K42 hK42 => ?_
  refine CW.region ?_
  refine RL.q (Y.field rfl field52_1) rfl ?_
  first | refine RL.q (Y.loadOwnV rfl MM MM (by rfl) flat3) rfl ?_ | refine RL.q (Y.loadOwn rfl MM (by rfl) flat3) rfl ?_ | refine RL.loadOwnSl rfl rfl MM MM (by rfl) flat3 rfl fun a107 c107 hu107 hc107 hl107 => ?_
  refine RL.q (Y.eql rfl rfl) rfl ?_
  refine RL.nil ?_
  refine hK42 _ _ _ ?_
  refine CW.kp [2, 3, 4, 5, 10, 12, 13, 18, 108] rfl ?_
  refine CW.ite rfl (fun h8 => ?_) (fun h8 => ?_)
  ·have hsl := h7b h8
   have hcm : c.tmod (theDef p t.df).slots.length = c % (theDef p t.df).slots.length := Int.tmod_eq_emod_of_nonneg hc.1
   have hcm1 := Int.emod_lt_of_pos c (show (0 : Int) < (theDef p t.df).slots.length by omega)
   have hcm2 := Int.emod_nonneg c (show ((theDef p t.df).slots.length : Int) ≠ 0 by omega)
   refine CW.seq fun K43 hK43 => ?_
   refine CW.region ?_
   refine RL.q (Y.field rfl field26_0) rfl ?_
   refine RL.store _ rfl rfl RP (by rfl) (by simp) (by rfl) size3 ?_
   refine RL.nil ?_
   refine hK43 _ _ _ ?_
   refine CW.kp [2, 3, 4, 5, 10, 12, 13, 18] rfl ?_
   refine CW.seq fun K44 hK44 => ?_
   refine CW.region ?_
   refine RL.q (Y.move rfl) rfl ?_
   refine RL.q (Y.field rfl field52_4) rfl ?_
   first | refine RL.q (Y.loadOwnV rfl MM MM (by rfl) flat46) rfl ?_ | refine RL.q (Y.loadOwn rfl MM (by rfl) flat46) rfl ?_ | refine RL.loadOwnSl rfl rfl MM MM (by rfl) flat46 rfl fun a112 c112 hu112 hc112 hl112 => ?_
   refine RL.q (Y.len rfl Tryd.underlying46) rfl ?_
   refine RL.q (Y.rem rfl rfl OM) rfl ?_
   refine RL.q (Y.field rfl field26_1) rfl ?_
   refine RL.store _ rfl rfl RP (by rfl) (by simp) (by rfl) size3 ?_
   refine RL.nil ?_
   refine hK44 _ _ _ ?_
   refine CW.kp [2, 3, 4, 5, 10, 13, 18] rfl ?_
   obtain ⟨ix, hix⟩ := Int.eq_ofNat_of_zero_le (show 0 ≤ c.tmod (theDef p t.df).slots.length by omega)
   rw [hix]
   have hixl : ix < (theDef p t.df).slots.length := by omega
   have hgd : (((theDef p t.df).slots.map SlotT.ty).getD ((ix : Nat) : Int).toNat ty0) = ((theDef p t.df).slots[ix]).ty := by simp [hixl]
   refine CW.seq fun K45 hK45 => ?_
   refine CW.regionH mix _ _ (fun _ hw => hw) ?_
   first | refine HL.take 0 rfl KR KR KR rfl (Y.loadAllR rfl MM MM EL agg32) rfl ?_ | refine HL.take 0 rfl KR KR KR rfl (Y.loadAll rfl MM (by rfl) agg32) rfl ?_ | refine HL.loadPart 0 rfl KR KR KR rfl rfl MM MM (by rfl) (by rfl) agg32 rfl fun us117 hul117 hur117 => ?_
   refine HL.take 1 rfl KR KR KR rfl (Y.field rfl field52_4) rfl ?_
   first | refine HL.take 2 rfl KR KR KR rfl (Y.loadOwnV rfl MM MM (by rfl) flat46) rfl ?_ | refine HL.take 2 rfl KR KR KR rfl (Y.loadOwn rfl MM (by rfl) flat46) rfl ?_ | refine HL.loadOwnSl 2 rfl KR KR KR rfl rfl MM MM (by rfl) flat46 rfl fun a119 c119 hu119 hc119 hl119 => ?_
   refine HL.take 3 rfl KR KR KR rfl (Y.field rfl field26_1) rfl ?_
   first | refine HL.take 4 rfl KR KR KR rfl (Y.loadOwnV rfl MM MM (by rfl) flat3) rfl ?_ | refine HL.take 4 rfl KR KR KR rfl (Y.loadOwn rfl MM (by rfl) flat3) rfl ?_ | refine HL.loadOwnSl 4 rfl KR KR KR rfl rfl MM MM (by rfl) flat3 rfl fun a121 c121 hu121 hc121 hl121 => ?_
   refine HL.take 5 rfl KR KR KR rfl (Y.index ix rfl rfl OM OM slice46 (fun _ hw => hw.rd_some MM OM)) rfl ?_
   refine HL.take 6 rfl KR KR KR rfl (Y.field rfl field68_2) rfl ?_
   refine HL.loadAgg 7 rfl KR KR KR rfl rfl MM (Eq.trans (flat_sub SlotT.enc_len _ _ _ (List.getElem?_eq_getElem AO) _ _ (Nat.le_of_ble_eq_true rfl)) (by rw [SlotT.enc_eq] <;> rfl)) (by rfl) agg38 rfl fun us124 hul124 hur124 => ?_
   refine HL.take 8 rfl KR KR KR rfl (Y.move rfl) rfl ?_
   refine HL.take 9 rfl KR KR KR rfl (Y.move rfl) rfl ?_
   refine HL.take 10 rfl KR KR KR rfl (Y.move rfl) rfl ?_
   refine HL.take 11 rfl KR KR KR rfl (Y.add rfl rfl OM) rfl ?_
   refine HL.step2 12 16 rfl rfl KR ?_ ?_
   ·refine RL.call rfl func43 rfl rfl (by exact ih n OM _ _ _ p usp (((theDef p t.df).slots[ix]).ty) _ l _ (pos + 1) (d + 1) (h7c _ (List.getElem_mem hixl)) OM OM OM OM hli (by exact Kn.rds MM) KK (by exact Kn.rd MM)) ?_
    rintro v129 M129 _ ⟨hs129, rfl, us129, rfl, hr129⟩
    refine RL.addRds hr129 ?_
    have hul129 : us129.length = 3 := hr129.1.trans (Val.enc_len _)
    refine RL.nil ⟨keep_more (hs129) SB, ?_⟩
    refine HL.take 13 rfl KR KR KR rfl (Y.move rfl) rfl ?_
    refine HL.take 14 rfl KR KR KR rfl (Y.extract rfl rfl) rfl ?_
    refine HL.take 15 rfl KR KR KR rfl (Y.extract rfl rfl) rfl ?_
    refine HL.step 16 rfl KR ?_
    refine RL.alloc _ zero26 rfl rfl fun b20 => ?_
    refine RL.nil ⟨keep_more (hs129) SB, ?_⟩
    refine HL.step 17 rfl KR ?_
    first | refine RL.storeRds 3 rfl rfl RP MM EL (by first | exact Kn.lenRds MM EL | exact Kn.lenLit rfl) size26 ?_ | refine RL.storeAgg _ rfl rfl RP (by rfl) (by first | (simp; done) | simp [IdT.vals]) (by first | (simp [Value.oneCell']; done) | simp [Value.oneCell', IdT.vals]) size26 ?_
    refine RL.nil ⟨keep_more (hs129) SB, ?_⟩
    refine HL.take 18 rfl KR KR KR rfl (Y.assign rfl) rfl ?_
    refine HL.done KR ?_
    refine hK45 _ _ _ ?_
    refine CW.kp [10, 13, 20, 21] rfl ?_
    refine CW.seq fun K46 hK46 => ?_
    refine CW.region ?_
    first | refine RL.q (Y.loadAllR rfl MM MM EL agg26) rfl ?_ | refine RL.q (Y.loadAll rfl MM (by rfl) agg26) rfl ?_ | refine RL.loadPart rfl rfl MM MM (by rfl) (by rfl) agg26 rfl fun us132 hul132 hur132 => ?_
    refine RL.buildSlice us129 elem24 rfl (by decide) (fill1 rfl hul129) rfl fun b133 => ?_
    refine RL.q (Y.field rfl field26_2) rfl ?_
    refine RL.store _ rfl rfl RP (by rfl) (by simp) (by rfl) size24 ?_
    refine RL.nil ?_
    refine hK46 _ _ _ ?_
    refine CW.kp [10, 13, 21] rfl ?_
    refine CW.sealOwn (b := b133) (k := 1) (sz := 3) (ds := [(mkF p l n (((theDef p t.df).slots[ix]).ty) (pos + 1) (d + 1)).1].flatMap Val.enc) PK (kids1 hr129) (by simp [hul129]) (by unfold lim; omega) fun M28 hs28 hr28 => ?_
    refine CW.seq fun K47 hK47 => ?_
    refine CW.region ?_
    first | refine RL.q (Y.loadAllR rfl MM MM EL agg26) rfl ?_ | refine RL.q (Y.loadAll rfl MM (by rfl) agg26) rfl ?_ | refine RL.loadPart rfl rfl MM MM (by rfl) (by rfl) agg26 rfl fun us135 hul135 hur135 => ?_
    refine RL.q (Y.move rfl) rfl ?_
    first | refine RL.storeRds 3 rfl rfl RP MM EL (by first | exact Kn.lenRds MM EL | exact Kn.lenLit rfl) size26 ?_ | refine RL.storeAgg _ rfl rfl RP (by rfl) (by first | (simp; done) | simp [IdT.vals]) (by first | (simp [Value.oneCell']; done) | simp [Value.oneCell', IdT.vals]) size26 ?_
    refine RL.q (Y.assign rfl) rfl ?_
    refine RL.nil ?_
    refine hK47 _ _ _ ?_
    refine CW.kp [10, 11] rfl ?_
    refine CW.ret ?_
    have e : mkF p l (n + 1) t pos d = (.mk 3 (ix : Int) [(mkF p l n (((theDef p t.df).slots[ix]).ty) (pos + 1) (d + 1)).1], (mkF p l n (((theDef p t.df).slots[ix]).ty) (pos + 1) (d + 1)).2) := by rw [mkF, ← hce, if_neg h1, if_neg h4, if_neg h5, if_pos h8, hix, hgd]
    refine ⟨_, rfl, ?_⟩
    exact CellAt.mk rfl MM (by first | rfl | assumption) agg26 (Turn.drop ⟨(hs129.trans hs28), rfl, _, by rw [e], by rw [e]; exact node_rd 3 (ix : Int) [_] hr28⟩ SB)
   refine RL.alloc _ zero26 rfl rfl fun b20 => ?_
   refine RL.nil ⟨keep_same SB, ?_⟩
   refine HL.step 12 rfl KR ?_
   refine RL.call rfl func43 rfl rfl (by exact ih n OM _ _ _ p usp (((theDef p t.df).slots[ix]).ty) _ l _ (pos + 1) (d + 1) (h7c _ (List.getElem_mem hixl)) OM OM OM OM hli (by exact Kn.rds MM) KK (by exact Kn.rd MM)) ?_
   rintro v129 M129 _ ⟨hs129, rfl, us129, rfl, hr129⟩
   refine RL.addRds hr129 ?_
   have hul129 : us129.length = 3 := hr129.1.trans (Val.enc_len _)
   refine RL.nil ⟨keep_more (hs129) SB, ?_⟩
   refine HL.take 13 rfl KR KR KR rfl (Y.move rfl) rfl ?_
   refine HL.take 14 rfl KR KR KR rfl (Y.extract rfl rfl) rfl ?_
   refine HL.take 15 rfl KR KR KR rfl (Y.extract rfl rfl) rfl ?_
   refine HL.step 17 rfl KR ?_
   first | refine RL.storeRds 3 rfl rfl RP MM EL (by first | exact Kn.lenRds MM EL | exact Kn.lenLit rfl) size26 ?_ | refine RL.storeAgg _ rfl rfl RP (by rfl) (by first | (simp; done) | simp [IdT.vals]) (by first | (simp [Value.oneCell']; done) | simp [Value.oneCell', IdT.vals]) size26 ?_
   refine RL.nil ⟨keep_more (hs129) SB, ?_⟩
   refine HL.take 18 rfl KR KR KR rfl (Y.assign rfl) rfl ?_
   refine HL.done KR ?_
   refine hK45 _ _ _ ?_
   refine CW.kp [10, 13, 20, 21] rfl ?_
   refine CW.seq fun K48 hK48 => ?_
   refine CW.region ?_
   first | refine RL.q (Y.loadAllR rfl MM MM EL agg26) rfl ?_ | refine RL.q (Y.loadAll rfl MM (by rfl) agg26) rfl ?_ | refine RL.loadPart rfl rfl MM MM (by rfl) (by rfl) agg26 rfl fun us132 hul132 hur132 => ?_
   refine RL.buildSlice us129 elem24 rfl (by decide) (fill1 rfl hul129) rfl fun b133 => ?_
   refine RL.q (Y.field rfl field26_2) rfl ?_
   refine RL.store _ rfl rfl RP (by rfl) (by simp) (by rfl) size24 ?_
   refine RL.nil ?_
   refine hK48 _ _ _ ?_
   refine CW.kp [10, 13, 21] rfl ?_
   refine CW.sealOwn (b := b133) (k := 1) (sz := 3) (ds := [(mkF p l n (((theDef p t.df).slots[ix]).ty) (pos + 1) (d + 1)).1].flatMap Val.enc) PK (kids1 hr129) (by simp [hul129]) (by unfold lim; omega) fun M28 hs28 hr28 => ?_
   refine CW.seq fun K49 hK49 => ?_
   refine CW.region ?_
   first | refine RL.q (Y.loadAllR rfl MM MM EL agg26) rfl ?_ | refine RL.q (Y.loadAll rfl MM (by rfl) agg26) rfl ?_ | refine RL.loadPart rfl rfl MM MM (by rfl) (by rfl) agg26 rfl fun us135 hul135 hur135 => ?_
   refine RL.q (Y.move rfl) rfl ?_
   first | refine RL.storeRds 3 rfl rfl RP MM EL (by first | exact Kn.lenRds MM EL | exact Kn.lenLit rfl) size26 ?_ | refine RL.storeAgg _ rfl rfl RP (by rfl) (by first | (simp; done) | simp [IdT.vals]) (by first | (simp [Value.oneCell']; done) | simp [Value.oneCell', IdT.vals]) size26 ?_
   refine RL.q (Y.assign rfl) rfl ?_
   refine RL.nil ?_
   refine hK49 _ _ _ ?_
   refine CW.kp [10, 11] rfl ?_
   refine CW.ret ?_
   have e : mkF p l (n + 1) t pos d = (.mk 3 (ix : Int) [(mkF p l n (((theDef p t.df).slots[ix]).ty) (pos + 1) (d + 1)).1], (mkF p l n (((theDef p t.df).slots[ix]).ty) (pos + 1) (d + 1)).2) := by rw [mkF, ← hce, if_neg h1, if_neg h4, if_neg h5, if_pos h8, hix, hgd]
   refine ⟨_, rfl, ?_⟩
   exact CellAt.mk rfl MM (by first | rfl | assumption) agg26 (Turn.drop ⟨(hs129.trans hs28), rfl, _, by rw [e], by rw [e]; exact node_rd 3 (ix : Int) [_] hr28⟩ SB)
  refine CW.skip ?_
  refine hK41 _ _ _ ?_
  refine CW.seq fun K50 hK50 => ?_
  refine CW.region ?_
  refine RL.q (Y.field rfl field26_0) rfl ?_
  refine RL.store _ rfl rfl RP (by rfl) (by simp) (by rfl) size3 ?_
  refine RL.nil ?_
  refine hK50 _ _ _ ?_
  refine CW.kp [2, 3, 4, 5, 10, 13, 18] rfl ?_
  refine CW.seq fun K51 hK51 => ?_
  refine CW.seq fun K52 hK52 => ?_
  refine CW.region ?_
  refine RL.q (Y.assign rfl) rfl ?_
  refine RL.nil ?_
  refine hK52 _ _ _ ?_
  refine CW.kp [2, 3, 4, 5, 10, 13, 18, 22] rfl ?_
  refine CW.block ?_
  -- LOOP 2: live [2, 3, 4, 5, 10, 13, 18, 22] changed [3, 22]
  refine CW.kp [3, 22, 2, 4, 5, 10, 13, 18] rfl ?_
  refine CW.front (x := .own b13 26 [vint 2, vint 0, .slice none 0 0]) PK ?_
  refine CW.accNil 26 3 ?_
  refine CW.addRds (RdL.nil _) ?_
  refine CW.loopF (fun mm Lc M1 Γc => ∃ (k : Nat) (dn : List Val) (pk : Int) (ua : Option Addr) (ca : Nat) (us : List Value), mm = (theDef p t.df).slots.length - k ∧ k ≤ (theDef p t.df).slots.length ∧ Lc = [(3, vint pk), (22, vint k)] ∧ Γc = [.rds (dn.flatMap Val.enc) us, .acc (.slice ua k ca) 26 3 k us, .own b13 26 [vint 2, vint 0, .slice ua k ca]] ∧ dn.length = k ∧ pos + 1 ≤ pk ∧ pk ≤ pos + 1 + k * b ∧ mkS (fun u q => mkF p l n u q (d + 1)) ((theDef p t.df).slots.map SlotT.ty) (pos + 1) = mJ dn (mkS (fun u q => mkF p l n u q (d + 1)) (((theDef p t.df).slots.map SlotT.ty).drop k) pk)) ((theDef p t.df).slots.length) [(3, _), (22, _)] [_, _, _] rfl rfl ⟨0, [], pos + 1, none, 0, [], rfl, Nat.zero_le _, rfl, rfl, rfl, by omega, by simp, mJ_nil _⟩ ?_
  rintro mm Lc M1 Γc hs ⟨k, dn, pk, ua, ca, us, rfl, hk, rfl, rfl, hdn, hp1, hp2, hz⟩
  refine CW.seq fun K53 hK53 => ?_
  refine CW.seq fun K54 hK54 => ?_
  refine CW.region ?_
  refine RL.q (Y.move rfl) rfl ?_
  refine RL.q (Y.field rfl field52_4) rfl ?_
  first | refine RL.q (Y.loadOwnV rfl MM MM (by rfl) flat46) rfl ?_ | refine RL.q (Y.loadOwn rfl MM (by rfl) flat46) rfl ?_ | refine RL.loadOwnSl rfl rfl MM MM (by rfl) flat46 rfl fun a140 c140 hu140 hc140 hl140 => ?_
  refine RL.q (Y.len rfl Tryd.underlying46) rfl ?_
  refine RL.q (Y.lss rfl rfl) rfl ?_
  refine RL.nil ?_
  refine hK54 _ _ _ ?_
  refine CW.kp [2, 3, 4, 5, 10, 13, 18, 22, 142] rfl ?_
  refine CW.ite rfl (fun h9 => ?_) (fun h9 => ?_)
  ·have hka : k < (theDef p t.df).slots.length := by omega
   have hkb : (k : Int) * b ≤ 2 * b := Int.mul_le_mul_of_nonneg_right OM OM
   refine CW.skip ?_
   refine hK53 _ _ _ ?_
   refine CW.seq fun K55 hK55 => ?_
   refine CW.block ?_
   refine CW.seq fun K56 hK56 => ?_
   refine CW.regionH mix _ _ (fun _ hw => hw) ?_
   first | refine HL.take 0 rfl KR KR KR rfl (Y.loadAllR rfl MM MM EL agg32) rfl ?_ | refine HL.take 0 rfl KR KR KR rfl (Y.loadAll rfl MM (by rfl) agg32) rfl ?_ | refine HL.loadPart 0 rfl KR KR KR rfl rfl MM MM (by rfl) (by rfl) agg32 rfl fun us146 hul146 hur146 => ?_
   refine HL.take 1 rfl KR KR KR rfl (Y.field rfl field52_4) rfl ?_
   first | refine HL.take 2 rfl KR KR KR rfl (Y.loadOwnV rfl MM MM (by rfl) flat46) rfl ?_ | refine HL.take 2 rfl KR KR KR rfl (Y.loadOwn rfl MM (by rfl) flat46) rfl ?_ | refine HL.loadOwnSl 2 rfl KR KR KR rfl rfl MM MM (by rfl) flat46 rfl fun a148 c148 hu148 hc148 hl148 => ?_
   refine HL.take 3 rfl KR KR KR rfl (Y.move rfl) rfl ?_
   refine HL.take 4 rfl KR KR KR rfl (Y.index _ rfl rfl rfl AO slice46 SM) rfl ?_
   refine HL.take 5 rfl KR KR KR rfl (Y.field rfl field68_2) rfl ?_
   refine HL.loadAgg 6 rfl KR KR KR rfl rfl MM (Eq.trans (flat_sub SlotT.enc_len _ _ _ (List.getElem?_eq_getElem AO) _ _ (Nat.le_of_ble_eq_true rfl)) (by rw [SlotT.enc_eq] <;> rfl)) (by rfl) agg38 rfl fun us152 hul152 hur152 => ?_
   refine HL.take 7 rfl KR KR KR rfl (Y.move rfl) rfl ?_
   refine HL.take 8 rfl KR KR KR rfl (Y.move rfl) rfl ?_
   refine HL.take 9 rfl KR KR KR rfl (Y.move rfl) rfl ?_
   refine HL.take 10 rfl KR KR KR rfl (Y.add rfl rfl OM) rfl ?_
   refine HL.step2 11 15 rfl rfl KR ?_ ?_
   ·refine RL.call rfl func43 rfl rfl (by exact ih n OM _ _ _ p usp (((theDef p t.df).slots[k]).ty) _ l _ pk (d + 1) (h7c _ (List.getElem_mem hka)) OM OM OM OM hli (by exact Kn.rds MM) KK (by exact Kn.rd MM)) ?_
    rintro v157 M157 _ ⟨hs157, rfl, us157, rfl, hr157⟩
    refine RL.addRds hr157 ?_
    have hul157 : us157.length = 3 := hr157.1.trans (Val.enc_len _)
    refine RL.nil ⟨keep_more (hs157) SB, ?_⟩
    refine HL.take 12 rfl KR KR KR rfl (Y.move rfl) rfl ?_
    refine HL.take 13 rfl KR KR KR rfl (Y.extract rfl rfl) rfl ?_
    refine HL.take 14 rfl KR KR KR rfl (Y.extract rfl rfl) rfl ?_
    refine HL.step 15 rfl KR ?_
    refine RL.alloc _ zero26 rfl rfl fun b23 => ?_
    refine RL.nil ⟨keep_more (hs157) SB, ?_⟩
    refine HL.step 16 rfl KR ?_
    first | refine RL.storeRds 3 rfl rfl RP MM EL (by first | exact Kn.lenRds MM EL | exact Kn.lenLit rfl) size26 ?_ | refine RL.storeAgg _ rfl rfl RP (by rfl) (by first | (simp; done) | simp [IdT.vals]) (by first | (simp [Value.oneCell']; done) | simp [Value.oneCell', IdT.vals]) size26 ?_
    refine RL.nil ⟨keep_more (hs157) SB, ?_⟩
    refine HL.take 17 rfl KR KR KR rfl (Y.assign rfl) rfl ?_
    refine HL.done KR ?_
    refine hK56 _ _ _ ?_
    refine CW.kp [2, 4, 5, 10, 13, 18, 22, 23, 24] rfl ?_
    refine CW.seq fun K57 hK57 => ?_
    refine CW.region ?_
    refine RL.q (Y.move rfl) rfl ?_
    refine RL.q (Y.assign rfl) rfl ?_
    refine RL.nil ?_
    refine hK57 _ _ _ ?_
    refine CW.kp [2, 3, 4, 5, 10, 13, 18, 22, 23] rfl ?_
    refine CW.region ?_
    refine RL.q (Y.field rfl field26_2) rfl ?_
    first | refine RL.q (Y.loadOwnV rfl MM MM (by rfl) flat24) rfl ?_ | refine RL.q (Y.loadOwn rfl MM (by rfl) flat24) rfl ?_ | refine RL.loadOwnSl rfl rfl MM MM (by rfl) flat24 rfl fun a162 c162 hu162 hc162 hl162 => ?_
    first | refine RL.q (Y.loadAllR rfl MM MM EL agg26) rfl ?_ | refine RL.q (Y.loadAll rfl MM (by rfl) agg26) rfl ?_ | refine RL.loadPart rfl rfl MM MM (by rfl) (by rfl) agg26 rfl fun us163 hul163 hur163 => ?_
    refine RL.buildSlice us157 elem24 rfl (by decide) (fill1 rfl hul157) rfl fun b164 => ?_
    refine RL.append elem24 rfl rfl PK (SrcOk.own (sz := 3) (m := 1) MM (by simp [hul157]) hr157.one) OM (by unfold lim; omega) rfl fun a165 c165 hc165 => ?_
    refine RL.q (Y.field rfl field26_2) rfl ?_
    refine RL.store _ rfl rfl RP (by rfl) (by simp) (by rfl) size24 ?_
    refine RL.nil ?_
    refine hK55 _ _ _ ?_
    refine CW.kp [2, 3, 4, 5, 10, 13, 18, 22] rfl ?_
    refine CW.region ?_
    refine RL.q (Y.move rfl) rfl ?_
    refine RL.q (Y.add rfl rfl OM) rfl ?_
    refine RL.q (Y.assign rfl) rfl ?_
    refine RL.nil ?_
    refine ⟨(theDef p t.df).slots.length - (k + 1), [(3, _), (22, _)], ?_, (KP [3, 22, 2, 4, 5, 10, 13, 18]), ?_⟩
    · omega
    · refine Turn.kn (Kn.rds (ds := dn.flatMap Val.enc) (us := us) MM) fun hrd => ?_
      refine Turn.front (x := .own b13 26 _) PK ?_
      refine Turn.front (x := .acc (.slice a165 (k + 1) c165) 26 3 (k + 1) (us ++ us157)) PK ?_
      refine Turn.addRds (hrd.append hr157) ?_
      have hps := mkF_pos (l := l) n (((theDef p t.df).slots[k]).ty) pk (d + 1) (h7c _ (List.getElem_mem hka))
      rw [← hb] at hps
      have hsc : ((k + 1 : Nat) : Int) * b = k * b + b := by rw [Int.natCast_add, Int.add_mul]; simp
      refine Turn.drop ⟨[_, _, _], rfl, hs.trans hs157, k + 1, dn ++ [(mkF p l n (((theDef p t.df).slots[k]).ty) pk (d + 1)).1], (mkF p l n (((theDef p t.df).slots[k]).ty) pk (d + 1)).2, a165, c165, us ++ us157, rfl, by omega, rfl, by rw [snoc_flat] <;> rfl, by simp [hdn], by omega, by omega, ?_⟩ SB
      have hst := mJ_step (k := k) (by simp; omega) hz
      simpa using hst
   refine RL.alloc _ zero26 rfl rfl fun b23 => ?_
   refine RL.nil ⟨keep_same SB, ?_⟩
   refine HL.step 11 rfl KR ?_
   refine RL.call rfl func43 rfl rfl (by exact ih n OM _ _ _ p usp (((theDef p t.df).slots[k]).ty) _ l _ pk (d + 1) (h7c _ (List.getElem_mem hka)) OM OM OM OM hli (by exact Kn.rds MM) KK (by exact Kn.rd MM)) ?_
   rintro v157 M157 _ ⟨hs157, rfl, us157, rfl, hr157⟩
   refine RL.addRds hr157 ?_
   have hul157 : us157.length = 3 := hr157.1.trans (Val.enc_len _)
   refine RL.nil ⟨keep_more (hs157) SB, ?_⟩
   refine HL.take 12 rfl KR KR KR rfl (Y.move rfl) rfl ?_
   refine HL.take 13 rfl KR KR KR rfl (Y.extract rfl rfl) rfl ?_
   refine HL.take 14 rfl KR KR KR rfl (Y.extract rfl rfl) rfl ?_
   refine HL.step 16 rfl KR ?_
   first | refine RL.storeRds 3 rfl rfl RP MM EL (by first | exact Kn.lenRds MM EL | exact Kn.lenLit rfl) size26 ?_ | refine RL.storeAgg _ rfl rfl RP (by rfl) (by first | (simp; done) | simp [IdT.vals]) (by first | (simp [Value.oneCell']; done) | simp [Value.oneCell', IdT.vals]) size26 ?_
   refine RL.nil ⟨keep_more (hs157) SB, ?_⟩
   refine HL.take 17 rfl KR KR KR rfl (Y.assign rfl) rfl ?_
   refine HL.done KR ?_
   refine hK56 _ _ _ ?_
   refine CW.kp [2, 4, 5, 10, 13, 18, 22, 23, 24] rfl ?_
   refine CW.seq fun K58 hK58 => ?_
   refine CW.region ?_
   refine RL.q (Y.move rfl) rfl ?_
   refine RL.q (Y.assign rfl) rfl ?_
   refine RL.nil ?_
   refine hK58 _ _ _ ?_
   refine CW.kp [2, 3, 4, 5, 10, 13, 18, 22, 23] rfl ?_
   refine CW.region ?_
   refine RL.q (Y.field rfl field26_2) rfl ?_
   first | refine RL.q (Y.loadOwnV rfl MM MM (by rfl) flat24) rfl ?_ | refine RL.q (Y.loadOwn rfl MM (by rfl) flat24) rfl ?_ | refine RL.loadOwnSl rfl rfl MM MM (by rfl) flat24 rfl fun a162 c162 hu162 hc162 hl162 => ?_
   first | refine RL.q (Y.loadAllR rfl MM MM EL agg26) rfl ?_ | refine RL.q (Y.loadAll rfl MM (by rfl) agg26) rfl ?_ | refine RL.loadPart rfl rfl MM MM (by rfl) (by rfl) agg26 rfl fun us163 hul163 hur163 => ?_
   refine RL.buildSlice us157 elem24 rfl (by decide) (fill1 rfl hul157) rfl fun b164 => ?_
   refine RL.append elem24 rfl rfl PK (SrcOk.own (sz := 3) (m := 1) MM (by simp [hul157]) hr157.one) OM (by unfold lim; omega) rfl fun a165 c165 hc165 => ?_
   refine RL.q (Y.field rfl field26_2) rfl ?_
   refine RL.store _ rfl rfl RP (by rfl) (by simp) (by rfl) size24 ?_
   refine RL.nil ?_
   refine hK55 _ _ _ ?_
   refine CW.kp [2, 3, 4, 5, 10, 13, 18, 22] rfl ?_
   refine CW.region ?_
   refine RL.q (Y.move rfl) rfl ?_
   refine RL.q (Y.add rfl rfl OM) rfl ?_
   refine RL.q (Y.assign rfl) rfl ?_
   refine RL.nil ?_
   refine ⟨(theDef p t.df).slots.length - (k + 1), [(3, _), (22, _)], ?_, (KP [3, 22, 2, 4, 5, 10, 13, 18]), ?_⟩
   · omega
   · refine Turn.kn (Kn.rds (ds := dn.flatMap Val.enc) (us := us) MM) fun hrd => ?_
     refine Turn.front (x := .own b13 26 _) PK ?_
     refine Turn.front (x := .acc (.slice a165 (k + 1) c165) 26 3 (k + 1) (us ++ us157)) PK ?_
     refine Turn.addRds (hrd.append hr157) ?_
     have hps := mkF_pos (l := l) n (((theDef p t.df).slots[k]).ty) pk (d + 1) (h7c _ (List.getElem_mem hka))
     rw [← hb] at hps
     have hsc : ((k + 1 : Nat) : Int) * b = k * b + b := by rw [Int.natCast_add, Int.add_mul]; simp
     refine Turn.drop ⟨[_, _, _], rfl, hs.trans hs157, k + 1, dn ++ [(mkF p l n (((theDef p t.df).slots[k]).ty) pk (d + 1)).1], (mkF p l n (((theDef p t.df).slots[k]).ty) pk (d + 1)).2, a165, c165, us ++ us157, rfl, by omega, rfl, by rw [snoc_flat] <;> rfl, by simp [hdn], by omega, by omega, ?_⟩ SB
     have hst := mJ_step (k := k) (by simp; omega) hz
     simpa using hst
  refine CW.exit ?_
  refine hK51 _ _ _ ?_
  refine CW.seq fun K59 hK59 => ?_
  refine CW.region ?_
  first | refine RL.q (Y.loadAllR rfl MM MM EL agg26) rfl ?_ | refine RL.q (Y.loadAll rfl MM (by rfl) agg26) rfl ?_ | refine RL.loadPart rfl rfl MM MM (by rfl) (by rfl) agg26 rfl fun us167 hul167 hur167 => ?_
  refine RL.q (Y.move rfl) rfl ?_
  first | refine RL.storeRds 3 rfl rfl RP MM EL (by first | exact Kn.lenRds MM EL | exact Kn.lenLit rfl) size26 ?_ | refine RL.storeAgg _ rfl rfl RP (by rfl) (by first | (simp; done) | simp [IdT.vals]) (by first | (simp [Value.oneCell']; done) | simp [Value.oneCell', IdT.vals]) size26 ?_
  refine RL.q (Y.assign rfl) rfl ?_
  refine RL.nil ?_
  refine hK59 _ _ _ ?_
  refine CW.kp [10, 11] rfl ?_
  refine CW.ret ?_
  have e : mkF p l (n + 1) t pos d = (.mk 2 0 dn, pk) := by rw [mkF, ← hce, if_neg h1, if_neg h4, if_neg h5, if_neg h8, mJ_end (by simp; omega) hz]
  refine ⟨_, rfl, ?_⟩
  refine CellAt.mk rfl MM (by first | rfl | assumption) agg26 (Turn.kn (Kn.rds (ds := dn.flatMap Val.enc) (us := us) MM) fun hrd => ?_)
  exact Turn.sealAcc (Γ := Γ) (u := .slice ua k ca) PK hrd (by unfold lim; omega) SB fun M2 hs2 hr2 => ⟨hs.trans hs2, rfl, _, by rw [e], by rw [e]; exact node_rd 2 0 dn (by rw [hdn]; exact hr2)⟩
end Go.Proofs.YtanbipbiblikbaaDoor

/- THE WALKS of evaluation, 2: numbers that are drawn, copies, joined lists. Printed by m11b.py. -/
namespace Go.Proofs.YtanbipbiblikbaaDoor
open Xe

theorem number_ok (w0 : World) (M : Mem) (Γ : List As) (n : Int)   (hni : InI n) :
    CallOk Tryd.prog w0 M Γ 10 #[vint n] (Is M Γ (vint (numberF n))) := by
  refine enter (f := 10) Tryd.func10 rfl Tryd.ntmps10 rfl rfl fun w1 hw1 => ?_
  refine CW.seq fun K1 hK1 => ?_
  refine CW.region ?_
  refine RL.q (Y.assign rfl) rfl ?_
  refine RL.nil ?_
  refine hK1 _ _ _ ?_
  refine CW.kp [0] rfl ?_
  refine CW.seq fun K2 hK2 => ?_
  refine CW.seq fun K3 hK3 => ?_
  refine CW.region ?_
  refine RL.q (Y.move rfl) rfl ?_
  refine RL.q (Y.rem rfl rfl OM) rfl ?_
  refine RL.q (Y.eql rfl rfl) rfl ?_
  refine RL.nil ?_
  refine hK3 _ _ _ ?_
  refine CW.kp [0, 5] rfl ?_
  refine CW.ite rfl (fun h1 => ?_) (fun h1 => ?_)
  ·refine CW.seq fun K4 hK4 => ?_
   have har := around_lt n 7 OM
   obtain ⟨kk, hkk⟩ := Int.eq_ofNat_of_zero_le har.1
   have hkl : kk < edgesN.length := by show kk < 7; omega
   refine CW.region ?_
   refine RL.buildSlice (ints edgesN) elem22 rfl (by decide) (fillRow (vs := ints edgesN) (outs := edgesN.map fun z => [vint z]) rfl (by simp)) rfl fun b6 => ?_
   refine RL.q (Y.move rfl) rfl ?_
   refine RL.callv rfl func16 rfl rfl (by exact around_ok _ _ _ _ _ AO AO) ?_
   refine RL.q (Y.index kk rfl rfl (by rw [hkk]) hkl slice22 (fun _ _ => rfl)) rfl ?_
   refine RL.q (Y.loadOwn rfl MM (ints_get (List.getElem?_eq_getElem hkl) (Nat.mul_one _)) flat3) rfl ?_
   refine RL.q (Y.assign rfl) rfl ?_
   refine RL.nil ?_
   refine hK4 _ _ _ ?_
   refine CW.kp [2] rfl ?_
   refine CW.ret ?_
   rw [numberF, if_pos h1, hkk, Int.toNat_natCast, List.getD_eq_getElem?_getD, List.getElem?_eq_getElem hkl]
   exact ⟨_, rfl, Turn.drop ⟨rfl, rfl, rfl⟩ SB⟩
  refine CW.skip ?_
  refine hK2 _ _ _ ?_
  refine CW.seq fun K5 hK5 => ?_
  refine CW.region ?_
  refine RL.q (Y.move rfl) rfl ?_
  refine RL.q (Y.max2 rfl rfl) rfl ?_
  refine RL.q (Y.min2 rfl rfl) rfl ?_
  refine RL.q (Y.assign rfl) rfl ?_
  refine RL.nil ?_
  refine hK5 _ _ _ ?_
  refine CW.kp [2] rfl ?_
  refine CW.ret ?_
  exact ⟨_, rfl, Turn.drop ⟨by rw [numberF, if_neg h1]; rfl, rfl, rfl⟩ SB⟩
end Go.Proofs.YtanbipbiblikbaaDoor

/- THE WALKS of evaluation, 3: copies, joined lists. Printed by m11c.py. -/
namespace Go.Proofs.YtanbipbiblikbaaDoor
open Xe

theorem v_eta (v : Val) : Val.mk v.kind v.n v.kids = v := by cases v; rfl

set_option maxHeartbeats 1000000 in
theorem copies_ok (N : Nat) : ∀ (w0 : World) (M : Mem) (Γ : List As) (l : List Val) (u : Value), (∀ v ∈ l, v.size < N) → N ≤ 1099511627776 → l.length ≤ 1099511627776 → Kn w0 M Γ (Rd M (.sl l.length 3 (l.flatMap Val.enc)) u) →
    CallOk Tryd.prog w0 M Γ 33 #[u] (Gives M Γ fun M' v => Rd M' (.sl l.length 3 (l.flatMap Val.enc)) v) := by
  induction N using Nat.strongRecOn
  rename_i N ih
  intro w0 M Γ l u hsz hN hll hu
  refine CallOk.kn hu fun hu => ?_
  obtain ⟨a1, c1, rfl, hc1, hlim1, hlen1⟩ := hu.slice
  refine enter (f := 33) Tryd.func33 rfl Tryd.ntmps33 rfl rfl fun w1 hw1 => ?_
  refine CW.addRd hu ?_
  refine CW.seq fun K1 hK1 => ?_
  refine CW.region ?_
  refine RL.q (Y.assign rfl) rfl ?_
  refine RL.nil ?_
  refine hK1 _ _ _ ?_
  refine CW.kp [0] rfl ?_
  refine CW.seq fun K2 hK2 => ?_
  refine CW.region ?_
  refine RL.q (Y.assign rfl) rfl ?_
  refine RL.nil ?_
  refine hK2 _ _ _ ?_
  refine CW.kp [0, 3] rfl ?_
  refine CW.seq fun K3 hK3 => ?_
  refine CW.seq fun K4 hK4 => ?_
  refine CW.accNil 26 3 ?_
  refine CW.addRds (RdL.nil _) ?_
  refine CW.region ?_
  refine RL.q (Y.move rfl) rfl ?_
  refine RL.q (Y.len rfl Tryd.underlying24) rfl ?_
  refine RL.q (Y.move rfl) rfl ?_
  refine RL.nil ?_
  refine hK4 _ _ _ ?_
  refine CW.kp [3, 6, 7, 8] rfl ?_
  refine CW.block ?_
  -- LOOP 1: live [3, 6, 7, 8] changed [3, 8]
  refine CW.kp [3, 8, 6, 7] rfl ?_
  refine CW.loopF (fun m Lc M1 Γc => ∃ (k : Nat) (ua : Option Addr) (ca : Nat) (us : List Value), m = l.length - k ∧ k ≤ l.length ∧ Lc = [(3, .slice ua k ca), (8, vint k)] ∧ Γc = [.rds ((l.take k).flatMap Val.enc) us, .acc (.slice ua k ca) 26 3 k us]) l.length [(3, _), (8, _)] [_, _] rfl rfl ⟨0, none, 0, [], rfl, Nat.zero_le _, rfl, rfl⟩ ?_
  rintro m Lc M1 Γc hs ⟨k, ua, ca, us, rfl, hk, rfl, rfl⟩
  refine CW.seq fun K5 hK5 => ?_
  refine CW.region ?_
  refine RL.q (Y.lss rfl rfl) rfl ?_
  refine RL.nil ?_
  refine hK5 _ _ _ ?_
  refine CW.kp [3, 6, 7, 8, 9] rfl ?_
  refine CW.seq fun K6 hK6 => ?_
  refine CW.ite rfl (fun h1 => ?_) (fun h1 => ?_)
  ·have hka : k < l.length := by omega
   have hkz := hsz _ (List.getElem_mem hka)
   have hks := kids_le_size l[k]
   refine CW.skip ?_
   refine hK6 _ _ _ ?_
   refine CW.seq fun K7 hK7 => ?_
   refine CW.block ?_
   refine CW.seq fun K8 hK8 => ?_
   refine CW.region ?_
   refine RL.q (Y.index _ rfl rfl rfl AO slice24 SM) rfl ?_
   refine RL.loadAgg rfl rfl MM (Eq.trans (flat_take Val.enc_len _ _ _ (List.getElem?_eq_getElem AO)) (Val.enc_eq _)) (by rfl) agg26 rfl fun us11 hul11 hur11 => ?_
   refine RL.alloc _ zero26 rfl rfl fun b5 => ?_
   first | refine RL.storeRds 3 rfl rfl RP MM EL (by first | exact Kn.lenRds MM EL | exact Kn.lenLit rfl) size26 ?_ | refine RL.storeAgg _ rfl rfl RP (by rfl) (by first | (simp; done) | simp [IdT.vals]) (by first | (simp [Value.oneCell']; done) | simp [Value.oneCell', IdT.vals]) size26 ?_
   refine RL.nil ?_
   refine hK8 _ _ _ ?_
   refine CW.kp [3, 5, 6, 7, 8] rfl ?_
   obtain ⟨uk, rfl, hkids⟩ := Val.open (v := l[k]) (by rw [Val.enc_eq]; exact hur11)
   obtain ⟨ak, ck, rfl, hck, hlk, _⟩ := hkids.slice
   refine CW.addRd hkids ?_
   refine CW.seq fun K9 hK9 => ?_
   refine CW.region ?_
   refine RL.q (Y.field rfl field26_2) rfl ?_
   first | refine RL.q (Y.loadOwnV rfl MM MM (by rfl) flat24) rfl ?_ | refine RL.q (Y.loadOwn rfl MM (by rfl) flat24) rfl ?_ | refine RL.loadOwnSl rfl rfl MM MM (by rfl) flat24 rfl fun a13 c13 hu13 hc13 hl13 => ?_
   refine RL.call rfl func33 rfl rfl (by exact ih _ hkz _ _ _ (l[k]).kids _ (fun x hx => Val.size_kid hx) OM OM (by exact Kn.rd MM)) ?_
   rintro v14 M14 _ ⟨hs14, rfl, hr14⟩
   obtain ⟨a14, c14, rfl, hc14, hl14, _⟩ := hr14.slice
   refine RL.addRd hr14 ?_
   refine RL.q (Y.field rfl field26_2) rfl ?_
   refine RL.store _ rfl rfl RP (by rfl) (by simp) (by rfl) size24 ?_
   refine RL.nil ?_
   refine hK9 _ _ _ ?_
   refine CW.kp [3, 5, 6, 7, 8] rfl ?_
   refine CW.region ?_
   refine RL.q (Y.move rfl) rfl ?_
   first | refine RL.q (Y.loadAllR rfl MM MM EL agg26) rfl ?_ | refine RL.q (Y.loadAll rfl MM (by rfl) agg26) rfl ?_ | refine RL.loadPart rfl rfl MM MM (by rfl) (by rfl) agg26 rfl fun us17 hul17 hur17 => ?_
   refine RL.buildSlice [vint l[k].kind, vint l[k].n, .slice a14 (l[k]).kids.length c14] elem24 rfl (by decide) (fill1 rfl rfl) rfl fun b18 => ?_
   have hnd := node_rd l[k].kind l[k].n (l[k]).kids hr14
   rw [v_eta] at hnd
   have etk : (l.take (k + 1)).flatMap Val.enc = (l.take k).flatMap Val.enc ++ l[k].enc := by rw [List.take_succ_eq_append_getElem hka, snoc_flat]
   refine RL.append elem24 rfl rfl PK (SrcOk.own (sz := 3) (m := 1) MM (by rfl) hnd.one) OM (by unfold lim; omega) rfl fun a19 c19 hc19 => ?_
   refine RL.q (Y.assign rfl) rfl ?_
   refine RL.nil ?_
   refine hK7 _ _ _ ?_
   refine CW.kp [3, 6, 7, 8] rfl ?_
   refine CW.region ?_
   refine RL.q (Y.add rfl rfl OM) rfl ?_
   refine RL.q (Y.move rfl) rfl ?_
   refine RL.nil ?_
   refine ⟨l.length - (k + 1), [(3, _), (8, _)], ?_, (KP [3, 8, 6, 7]), ?_⟩
   · omega
   · refine Turn.kn (Kn.rds (ds := (l.take k).flatMap Val.enc) (us := us) MM) fun hrd => ?_
     refine Turn.front (x := .acc (.slice a19 (k + 1) c19) 26 3 (k + 1) (us ++ [vint l[k].kind, vint l[k].n, .slice a14 (l[k]).kids.length c14])) PK ?_
     refine Turn.addRds (hrd.append hnd) ?_
     exact Turn.drop ⟨[_, _], rfl, hs.trans hs14, k + 1, a19, c19, us ++ [vint l[k].kind, vint l[k].n, .slice a14 (l[k]).kids.length c14], rfl, by omega, rfl, by rw [etk]⟩ SB
  refine CW.exit ?_
  refine hK3 _ _ _ ?_
  refine CW.seq fun K10 hK10 => ?_
  refine CW.region ?_
  refine RL.q (Y.move rfl) rfl ?_
  refine RL.q (Y.assign rfl) rfl ?_
  refine RL.nil ?_
  refine hK10 _ _ _ ?_
  refine CW.kp [2] rfl ?_
  refine CW.ret ?_
  obtain rfl : k = l.length := by omega
  refine ⟨_, rfl, Turn.kn (Kn.rds (ds := (l.take l.length).flatMap Val.enc) (us := us) MM) fun hrd => ?_⟩
  rw [List.take_length] at hrd
  exact Turn.sealAcc (Γ := Γ) (u := .slice ua l.length ca) PK hrd (by unfold lim; omega) SB fun M2 hs2 hr2 => ⟨hs.trans hs2, rfl, hr2⟩

theorem growV_ok (w0 : World) (M : Mem) (Γ : List As) (n : Nat) (hn : n ≤ 1000000) :
    CallOk Tryd.prog w0 M Γ 71 #[.slice none 0 0, vint n] (fun u M' Γ' => ∃ a c, u = .slice a 0 c ∧ n ≤ c ∧ M' = M ∧ Γ' = .acc (.slice a 0 c) 26 3 0 [] :: Γ) := by
  refine enter (f := 71) Tryd.func71 rfl Tryd.ntmps71 rfl rfl fun w1 hw1 => ?_
  refine CW.seq fun K1 hK1 => ?_
  refine CW.region ?_
  refine RL.q (Y.assign rfl) rfl ?_
  refine RL.nil ?_
  refine hK1 _ _ _ ?_
  refine CW.kp [0, 1] rfl ?_
  refine CW.seq fun K2 hK2 => ?_
  refine CW.seq fun K3 hK3 => ?_
  refine CW.region ?_
  refine RL.q (Y.move rfl) rfl ?_
  refine RL.q (Y.lss rfl rfl) rfl ?_
  refine RL.nil ?_
  refine hK3 _ _ _ ?_
  refine CW.kp [0, 1, 6] rfl ?_
  refine CW.ite rfl (fun h1 => absurd h1 OM) (fun h1 => ?_)
  refine CW.skip ?_
  refine hK2 _ _ _ ?_
  refine CW.seq fun K4 hK4 => ?_
  refine CW.seq fun K5 hK5 => ?_
  refine CW.region ?_
  refine RL.q (Y.move rfl) rfl ?_
  refine RL.q (Y.move rfl) rfl ?_
  refine RL.q (Y.cap rfl Tryd.underlying24) rfl ?_
  refine RL.q (Y.move rfl) rfl ?_
  refine RL.q (Y.len rfl Tryd.underlying24) rfl ?_
  refine RL.q (Y.sub rfl rfl OM) rfl ?_
  refine RL.q (Y.sub rfl rfl OM) rfl ?_
  refine RL.q (Y.assign rfl) rfl ?_
  refine RL.nil ?_
  refine hK5 _ _ _ ?_
  refine CW.kp [0, 1] rfl ?_
  refine CW.seq fun K6 hK6 => ?_
  refine CW.region ?_
  refine RL.q (Y.move rfl) rfl ?_
  refine RL.q (Y.gtr rfl rfl) rfl ?_
  refine RL.nil ?_
  refine hK6 _ _ _ ?_
  refine CW.kp [0, 1, 16] rfl ?_
  refine CW.ite rfl (fun h2 => ?_) (fun h2 => ?_)
  ·refine CW.region ?_
   refine RL.q (Y.move rfl) rfl ?_
   refine RL.q (Y.move rfl) rfl ?_
   refine RL.q (Y.cap rfl Tryd.underlying24) rfl ?_
   refine RL.q (Y.slice0 0 0 rfl ⟨_, rfl, rfl⟩ rfl (by simp) (Nat.le_refl _) (Nat.le_refl _) slice24) rfl ?_
   refine RL.q (Y.move rfl) rfl ?_
   refine RL.appendZeros n elem24 Tryd.underlying3 rfl rfl OM OM OM (by unfold lim; omega) rfl fun b22 c22 us22 hus22 hc22 => ?_
   refine RL.q (Y.move rfl) rfl ?_
   refine RL.q (Y.len rfl Tryd.underlying24) rfl ?_
   refine RL.accTake (k := 0) (Nat.zero_le _) ?_
   refine RL.q (Y.slice0 0 c22 rfl ⟨_, rfl, rfl⟩ rfl (by simp) (Nat.zero_le _) (Nat.le_refl _) slice24) rfl ?_
   refine RL.q (Y.assign rfl) rfl ?_
   refine RL.nil ?_
   refine hK4 _ _ _ ?_
   refine CW.kp [0] rfl ?_
   refine CW.seq fun K7 hK7 => ?_
   refine CW.region ?_
   refine RL.q (Y.move rfl) rfl ?_
   refine RL.q (Y.assign rfl) rfl ?_
   refine RL.nil ?_
   refine hK7 _ _ _ ?_
   refine CW.kp [4] rfl ?_
   refine CW.ret ?_
   exact ⟨_, rfl, Turn.drop ⟨_, _, rfl, by omega, rfl, rfl⟩ SB⟩
  refine CW.accNil 26 3 ?_
  refine CW.skip ?_
  refine hK4 _ _ _ ?_
  refine CW.seq fun K8 hK8 => ?_
  refine CW.region ?_
  refine RL.q (Y.move rfl) rfl ?_
  refine RL.q (Y.assign rfl) rfl ?_
  refine RL.nil ?_
  refine hK8 _ _ _ ?_
  refine CW.kp [4] rfl ?_
  refine CW.ret ?_
  exact ⟨_, rfl, Turn.drop ⟨_, _, rfl, by omega, rfl, rfl⟩ SB⟩

theorem takeV_flat (ls : List (List Val)) (k : Nat) (h : k < ls.length) : (ls.take (k + 1)).flatten = (ls.take k).flatten ++ ls[k] := by rw [List.take_succ_eq_append_getElem h, List.flatten_append, List.flatten_singleton]

set_option maxHeartbeats 1000000 in
theorem concatV_ok (w0 : World) (M : Mem) (Γ : List As) (p : Addr) (us : List Value) (ls : List (List Val)) (hc : CellsK w0 M Γ p us) (hr : RdL M (ls.map fun l => D.sl l.length 3 (l.flatMap Val.enc)) us) (hl : ls.length ≤ 1000) (hls : ls.flatten.length ≤ 1000000) :
    CallOk Tryd.prog w0 M Γ 34 #[.slice (some p) us.length us.length] (fun u M' Γ' => ∃ a c vs, u = .slice a ls.flatten.length c ∧ ls.flatten.length ≤ c ∧ M' = M ∧ RdL M (ls.flatten.flatMap Val.enc) vs ∧ Γ' = .acc (.slice a ls.flatten.length c) 26 3 ls.flatten.length vs :: Γ) := by
  have hul : us.length = ls.length := by rw [hr.1]; simp
  have htk : ∀ k, (ls.take k).flatten.length ≤ 1000000 := fun k => by
    have h := congrArg (fun x => (List.flatten x).length) (List.take_append_drop k ls)
    rw [List.flatten_append, List.length_append] at h
    omega
  refine enter (f := 34) Tryd.func34 rfl Tryd.ntmps34 rfl rfl fun w1 hw1 => ?_
  refine CW.seq fun K1 hK1 => ?_
  refine CW.region ?_
  refine RL.q (Y.assign rfl) rfl ?_
  refine RL.nil ?_
  refine hK1 _ _ _ ?_
  refine CW.kp [0] rfl ?_
  refine CW.seq fun K2 hK2 => ?_
  refine CW.region ?_
  refine RL.q (Y.assign rfl) rfl ?_
  refine RL.nil ?_
  refine hK2 _ _ _ ?_
  refine CW.kp [0, 3] rfl ?_
  refine CW.seq fun K3 hK3 => ?_
  refine CW.seq fun K4 hK4 => ?_
  refine CW.region ?_
  refine RL.q (Y.move rfl) rfl ?_
  refine RL.q (Y.len rfl Tryd.underlying56) rfl ?_
  refine RL.q (Y.move rfl) rfl ?_
  refine RL.nil ?_
  refine hK4 _ _ _ ?_
  refine CW.kp [0, 3, 9, 10, 11] rfl ?_
  refine CW.block ?_
  -- LOOP 1: live [0, 3, 9, 10, 11] changed [3, 11]
  refine CW.kp [3, 11, 0, 9, 10] rfl ?_
  refine CW.loopF (fun m Lc M1 Γc => ∃ k : Nat, m = us.length - k ∧ k ≤ us.length ∧ Lc = [(3, vint ((ls.take k).flatten.length : Nat)), (11, vint k)] ∧ Γc = [] ∧ M1 = M) (us.length) [(3, _), (11, _)] _ rfl rfl ⟨0, rfl, Nat.zero_le _, rfl, rfl, rfl⟩ ?_
  rintro m Lc M Γc hs ⟨k, rfl, hk, rfl, rfl, rfl⟩
  refine CW.seq fun K5 hK5 => ?_
  refine CW.region ?_
  refine RL.q (Y.lss rfl rfl) rfl ?_
  refine RL.nil ?_
  refine hK5 _ _ _ ?_
  refine CW.kp [0, 3, 9, 10, 11, 12] rfl ?_
  refine CW.seq fun K6 hK6 => ?_
  refine CW.ite rfl (fun h1 => ?_) (fun h1 => ?_)
  ·have hka : k < us.length := by omega
   have hkl : k < ls.length := by omega
   have hrk : Rd M (.sl ls[k].length 3 (ls[k].flatMap Val.enc)) us[k] := hr.2 k _ _ (by simp [hkl]) (List.getElem?_eq_getElem hka)
   obtain ⟨ak, ck, huk, hck, hlk, _⟩ := hrk.slice
   have hgk : us[k]? = some (.slice ak ls[k].length ck) := by rw [List.getElem?_eq_getElem hka, huk]
   have htk1 := htk k
   have htk2 := htk (k + 1)
   rw [List.take_succ_eq_append_getElem hkl, List.flatten_append, List.length_append, List.flatten_singleton] at htk2
   refine CW.skip ?_
   refine hK6 _ _ _ ?_
   refine CW.seq fun K7 hK7 => ?_
   refine CW.block ?_
   refine CW.seq fun K8 hK8 => ?_
   refine CW.region ?_
   refine RL.q (Y.index k rfl rfl rfl hka slice56 (fun _ _ => rfl)) rfl ?_
   refine RL.q (Y.load (v := .slice ak ls[k].length ck) rfl flat24 (fun w hw => by rw [Nat.mul_one]; exact (hc.mono (fun _ h => h.sub SB)) w hw k _ hgk)) rfl ?_
   refine RL.q (Y.assign rfl) rfl ?_
   refine RL.nil ?_
   refine hK8 _ _ _ ?_
   refine CW.kp [0, 3, 5, 9, 10, 11] rfl ?_
   refine CW.seq fun K9 hK9 => ?_
   refine CW.region ?_
   refine RL.q (Y.move rfl) rfl ?_
   refine RL.q (Y.move rfl) rfl ?_
   refine RL.q (Y.len rfl Tryd.underlying24) rfl ?_
   refine RL.q (Y.add rfl rfl OM) rfl ?_
   refine RL.q (Y.assign rfl) rfl ?_
   refine RL.nil ?_
   refine hK9 _ _ _ ?_
   refine CW.kp [0, 3, 9, 10, 11] rfl ?_
   refine CW.seq fun K10 hK10 => ?_
   refine CW.region ?_
   refine RL.q (Y.move rfl) rfl ?_
   refine RL.q (Y.lss rfl rfl) rfl ?_
   refine RL.nil ?_
   refine hK10 _ _ _ ?_
   refine CW.kp [0, 3, 9, 10, 11, 20] rfl ?_
   refine CW.ite rfl (fun h2 => absurd h2 OM) (fun h2 => ?_)
   refine CW.skip ?_
   refine hK7 _ _ _ ?_
   refine CW.region ?_
   refine RL.q (Y.add rfl rfl OM) rfl ?_
   refine RL.q (Y.move rfl) rfl ?_
   refine RL.nil ?_
   refine ⟨us.length - (k + 1), [(3, _), (11, _)], ?_, (KP [3, 11, 0, 9, 10]), ?_⟩
   · omega
   · exact Turn.drop ⟨[], rfl, hs, k + 1, rfl, by omega, by rw [takeV_flat ls k hkl, List.length_append] <;> rfl, rfl, rfl⟩ SB
  refine CW.exit ?_
  refine hK3 _ _ _ ?_
  refine CW.seq fun K11 hK11 => ?_
  obtain rfl : k = us.length := by omega
  rw [show ls.take us.length = ls from by rw [hul, List.take_length]]
  refine CW.region ?_
  refine RL.q (Y.move rfl) rfl ?_
  refine RL.call rfl func71 rfl rfl (by exact growV_ok _ _ _ ls.flatten.length hls) ?_
  rintro v24 M _ ⟨a24, c24, rfl, hc24, rfl, rfl⟩
  refine RL.q (Y.assign rfl) rfl ?_
  refine RL.nil ?_
  refine hK11 _ _ _ ?_
  refine CW.kp [0, 6] rfl ?_
  refine CW.seq fun K12 hK12 => ?_
  refine CW.seq fun K13 hK13 => ?_
  refine CW.region ?_
  refine RL.q (Y.move rfl) rfl ?_
  refine RL.q (Y.len rfl Tryd.underlying56) rfl ?_
  refine RL.q (Y.move rfl) rfl ?_
  refine RL.nil ?_
  refine hK13 _ _ _ ?_
  refine CW.kp [6, 25, 26, 27] rfl ?_
  refine CW.block ?_
  -- LOOP 2: live [6, 25, 26, 27] changed [6, 27]
  refine CW.kp [6, 27, 25, 26] rfl ?_
  refine CW.front (x := .acc (.slice a24 0 c24) 26 3 0 []) PK ?_
  refine CW.loopF (fun m Lc M1 Γc => ∃ (k : Nat) (ua : Option Addr) (ca : Nat) (vs : List Value), m = us.length - k ∧ k ≤ us.length ∧ Lc = [(6, .slice ua (ls.take k).flatten.length ca), (27, vint k)] ∧ Γc = [.acc (.slice ua (ls.take k).flatten.length ca) 26 3 (ls.take k).flatten.length vs] ∧ M1 = M ∧ (ls.take k).flatten.length ≤ ca ∧ RdL M ((ls.take k).flatten.flatMap Val.enc) vs) us.length [(6, _), (27, _)] [_] rfl rfl ⟨0, a24, c24, [], rfl, Nat.zero_le _, rfl, rfl, rfl, Nat.zero_le _, RdL.nil _⟩ ?_
  rintro m Lc M Γc hs2 ⟨k, ua, ca, vs, rfl, hk, rfl, rfl, rfl, hca, hvr⟩
  refine CW.seq fun K14 hK14 => ?_
  refine CW.region ?_
  refine RL.q (Y.lss rfl rfl) rfl ?_
  refine RL.nil ?_
  refine hK14 _ _ _ ?_
  refine CW.kp [6, 25, 26, 27, 28] rfl ?_
  refine CW.seq fun K15 hK15 => ?_
  refine CW.ite rfl (fun h3 => ?_) (fun h3 => ?_)
  ·have hka : k < us.length := by omega
   have hkl : k < ls.length := by omega
   have hrk : Rd M (.sl ls[k].length 3 (ls[k].flatMap Val.enc)) us[k] := hr.2 k _ _ (by simp [hkl]) (List.getElem?_eq_getElem hka)
   obtain ⟨ak, ck, huk, hck, hlk, _⟩ := hrk.slice
   have hgk : us[k]? = some (.slice ak ls[k].length ck) := by rw [List.getElem?_eq_getElem hka, huk]
   have htk1 := htk k
   have htk2 := htk (k + 1)
   rw [List.take_succ_eq_append_getElem hkl, List.flatten_append, List.length_append, List.flatten_singleton] at htk2
   rw [huk] at hrk
   refine CW.addRd hrk ?_
   refine CW.skip ?_
   refine hK15 _ _ _ ?_
   refine CW.seq fun K16 hK16 => ?_
   refine CW.block ?_
   refine CW.seq fun K17 hK17 => ?_
   refine CW.region ?_
   refine RL.q (Y.index k rfl rfl rfl hka slice56 (fun _ _ => rfl)) rfl ?_
   refine RL.q (Y.load (v := .slice ak ls[k].length ck) rfl flat24 (fun w hw => by rw [Nat.mul_one]; exact (hc.mono (fun _ h => h.sub SB)) w hw k _ hgk)) rfl ?_
   refine RL.q (Y.assign rfl) rfl ?_
   refine RL.nil ?_
   refine hK17 _ _ _ ?_
   refine CW.kp [6, 8, 25, 26, 27] rfl ?_
   refine CW.region ?_
   refine RL.q (Y.move rfl) rfl ?_
   refine RL.q (Y.move rfl) rfl ?_
   refine RL.appendRd elem24 rfl rfl PK MM OM (by unfold lim; omega) rfl fun a33 c33 n33 hc33 hn33 => ?_
   refine RL.q (Y.assign rfl) rfl ?_
   refine RL.nil ?_
   refine hK16 _ _ _ ?_
   refine CW.kp [6, 25, 26, 27] rfl ?_
   refine CW.region ?_
   refine RL.q (Y.add rfl rfl OM) rfl ?_
   refine RL.q (Y.move rfl) rfl ?_
   refine RL.nil ?_
   have e33 : (ls.take (k + 1)).flatten.length = (ls.take k).flatten.length + ls[k].length := by rw [takeV_flat ls k hkl, List.length_append]
   refine ⟨us.length - (k + 1), [(6, _), (27, _)], ?_, (KP [6, 27, 25, 26]), ?_⟩
   · omega
   · refine Turn.drop (Γ' := [.acc (.slice a33 ((ls.take k).flatten.length + ls[k].length) c33) 26 3 ((ls.take k).flatten.length + ls[k].length) (vs ++ n33)] ++ _) ⟨_, rfl, hs2, k + 1, a33, c33, vs ++ n33, rfl, by omega, by rw [e33] <;> rfl, by rw [e33], rfl, by omega, ?_⟩ SB
     rw [takeV_flat ls k hkl, List.flatMap_append]
     exact hvr.append hn33
  refine CW.exit ?_
  refine hK12 _ _ _ ?_
  refine CW.seq fun K18 hK18 => ?_
  refine CW.region ?_
  refine RL.q (Y.move rfl) rfl ?_
  refine RL.q (Y.assign rfl) rfl ?_
  refine RL.nil ?_
  refine hK18 _ _ _ ?_
  refine CW.kp [2] rfl ?_
  refine CW.ret ?_
  obtain rfl : k = us.length := by omega
  rw [show ls.take us.length = ls from by rw [hul, List.take_length]] at hca hvr ⊢
  exact ⟨_, rfl, Turn.drop ⟨_, _, vs, rfl, hca, rfl, hvr, rfl⟩ SB⟩
end Go.Proofs.YtanbipbiblikbaaDoor

/- OPERATIONS of two values and of one, plain. -/
namespace Xe
open Go
theorem truthV_rd {M : Mem} {p : Prop} [Decidable p] (b : Bool) (h : b = true ↔ p) : RdL M (truthV p).enc [vint 1, vint (if b = true then 1 else 0), .slice none 0 0] := by
  unfold truthV
  by_cases hp : p
  · rw [if_pos hp, if_pos (h.2 hp)]
    exact leaf_rd 1 1
  · rw [if_neg hp, if_neg (fun hb => hp (h.1 hb))]
    exact leaf_rd 1 0
/-- The functions of numbers, in the program's table. -/
def NumsM (M : Mem) : Prop := ∀ k, k < 5 → cellM M (adr (some ⟨0, 0, none⟩) k) = some (.func (.func (132 + k)) #[] #[])
theorem NumsM.mono {M M' : Mem} (h : Sub M M') (hn : NumsM M) : NumsM M' := fun k hk => cellM_mono h (hn k hk)
end Xe

/- THE WALKS of evaluation, 4: operations, by the program. Printed by m11d.py. -/
namespace Go.Proofs.YtanbipbiblikbaaDoor
open Xe

theorem arr70 : arrB Tryd.prog 70 5 40 1 = true := by kernel_rfl

theorem func132 : funcB Tryd.prog 132 = true := by kernel_rfl

theorem func133 : funcB Tryd.prog 133 = true := by kernel_rfl

theorem func134 : funcB Tryd.prog 134 = true := by kernel_rfl

theorem func136 : funcB Tryd.prog 136 = true := by kernel_rfl

theorem numF_ok (k : Nat) (hk : k < 5) : funcB Tryd.prog (132 + k) = true := by
  have : k = 0 ∨ k = 1 ∨ k = 2 ∨ k = 3 ∨ k = 4 := by omega
  rcases this with rfl | rfl | rfl | rfl | rfl
  · exact func132
  · exact func133
  · exact func134
  · exact func135
  · exact func136
theorem num_of (k : Nat) (hk : k < 5) (w0 : World) (M : Mem) (Γ : List As) (a b : Int) (ha : InR a) (hb : InR b) : CallOk Tryd.prog w0 M Γ (132 + k) #[vint a, vint b] (Is M Γ (vint (numI k a b))) := by
  have : k = 0 ∨ k = 1 ∨ k = 2 ∨ k = 3 ∨ k = 4 := by omega
  rcases this with rfl | rfl | rfl | rfl | rfl
  · exact add_ok w0 M Γ a b ha hb
  · exact sub_ok w0 M Γ a b ha hb
  · exact times_ok w0 M Γ a b ha hb
  · exact divide_ok w0 M Γ a b ha hb
  · exact rest_ok w0 M Γ a b ha hb

set_option maxHeartbeats 2000000 in
theorem op2_ok (w0 : World) (M : Mem) (Γ : List As) (n : Int) (l : List Val) (ul : Value) (r : Val) (hl : Kn w0 M Γ (Rd M (.sl l.length 3 (l.flatMap Val.enc)) ul)) (hnm : NumsM M) (hl2 : l.length = 2) (hz0 : (l[0]'OM).size ≤ 100000) (hz1 : (l[1]'OM).size ≤ 100000) (hr : op2V n (l[0]'OM) (l[1]'OM) = some r) :
    CallOk Tryd.prog w0 M Γ 12 #[vint n, ul] (Gives M Γ fun M' v => ∃ us, v = .agg us.toArray ∧ RdL M' r.enc us) := by
  refine CallOk.kn hl fun hl => ?_
  obtain ⟨al, cl, rfl, hcl, hliml, hlenl⟩ := hl.slice
  have hk0 := kids_le_size l[0]
  have hk1 := kids_le_size l[1]
  refine enterCell (f := 12) Tryd.func12 rfl Tryd.ntmps12 rfl rfl fun w1 hw1 => ?_
  refine CW.addRd hl ?_
  refine CW.seq fun K1 hK1 => ?_
  refine CW.region ?_
  refine RL.alloc _ zero26 rfl rfl fun b4 => ?_
  refine RL.nil ?_
  refine hK1 _ _ _ ?_
  refine CW.kp [0, 1, 4] rfl ?_
  refine CW.seq fun K2 hK2 => ?_
  refine CW.seq fun K3 hK3 => ?_
  refine CW.regionM1 17 (.bool (decide (0 ≤ n ∧ n < 5))) ?_ ?_
  ·refine RL.q (Y.move rfl) rfl ?_
   refine RL.qs (Y.geq rfl rfl) rfl (fun g8 => ?_) (fun g8 => ?_)
   ·refine RL.q (Y.move rfl) rfl ?_
    refine RL.qg WG (Y.move rfl) rfl ?_
    refine RL.qgs WG (Y.lss rfl rfl) rfl (fun g11 => ?_) (fun g11 => ?_)
    ·refine RL.q (Y.pickT rfl rfl) rfl ?_
     refine RL.q (Y.move rfl) rfl ?_
     refine RL.qg WG (Y.move rfl) rfl ?_
     refine RL.qg WG (Y.len rfl Tryd.underlying24) rfl ?_
     refine RL.qg WG (Y.eql rfl rfl) rfl ?_
     refine RL.q (Y.pickT rfl rfl) rfl ?_
     refine RL.nil ?_
     exact ⟨gl rfl (bmerge (by first | omega | (simp; done) | (simp; omega))), (by repeat (first | exact Keep.nil _ | refine Keep.cons _ rfl ?_)), fun _ hw => hw.sub SB⟩
    refine RL.q (Y.pickT rfl rfl) rfl ?_
    refine RL.q (Y.move rfl) rfl ?_
    refine RL.no WG rfl ?_
    refine RL.no WG rfl ?_
    refine RL.no WG rfl ?_
    refine RL.q (Y.pickF rfl rfl) rfl ?_
    refine RL.nil ?_
    exact ⟨gl rfl (bmerge (by first | omega | (simp; done) | (simp; omega))), (by repeat (first | exact Keep.nil _ | refine Keep.cons _ rfl ?_)), fun _ hw => hw.sub SB⟩
   refine RL.q (Y.move rfl) rfl ?_
   refine RL.no WG rfl ?_
   refine RL.no WG rfl ?_
   refine RL.q (Y.pickF rfl rfl) rfl ?_
   refine RL.q (Y.move rfl) rfl ?_
   refine RL.no WG rfl ?_
   refine RL.no WG rfl ?_
   refine RL.no WG rfl ?_
   refine RL.q (Y.pickF rfl rfl) rfl ?_
   refine RL.nil ?_
   exact ⟨gl rfl (bmerge (by first | omega | (simp; done) | (simp; omega))), (by repeat (first | exact Keep.nil _ | refine Keep.cons _ rfl ?_)), fun _ hw => hw.sub SB⟩
  refine hK3 _ _ _ ?_
  refine CW.ite rfl (fun h1 => ?_) (fun h1 => ?_)
  ·obtain ⟨kk, rfl⟩ := Int.eq_ofNat_of_zero_le (show 0 ≤ n by omega)
   have hkk : kk < 5 := by omega
   rw [op2V, if_pos ⟨by omega, by omega⟩] at hr
   obtain ⟨hin, hr⟩ : (InR l[0].n ∧ InR l[1].n) ∧ some (Val.mk 0 (numI kk l[0].n l[1].n) []) = some r := by
     split at hr
     · exact ⟨by assumption, hr⟩
     · cases hr
   obtain rfl := Option.some.inj hr
   refine CW.seq fun K4 hK4 => ?_
   refine CW.regionHP mix (x := .own _ _ _) PK ?_
   refine HL.take 0 rfl KR KR KR rfl (Y.move rfl) rfl ?_
   refine HL.take 1 rfl KR KR KR rfl (Y.indexArr (a := some ⟨0, 0, none⟩) (q := 0) kk rfl rfl rfl hkk arr70) rfl ?_
   refine HL.take 2 rfl KR KR KR rfl (Y.loadC rfl (by simpa using hnm kk hkk) flat40) rfl ?_
   refine HL.take 3 rfl KR KR KR rfl (Y.move rfl) rfl ?_
   refine HL.take 4 rfl KR KR KR rfl (Y.index 0 rfl rfl rfl AO slice24 SM) rfl ?_
   refine HL.take 5 rfl KR KR KR rfl (Y.field rfl field26_1) rfl ?_
   first | refine HL.take 6 rfl KR KR KR rfl (Y.loadRd rfl MM (flat_get Val.enc_len _ _ _ (List.getElem?_eq_getElem AO) _ _ (by rw [Val.enc_eq] <;> rfl)) flat3) rfl ?_ | refine HL.loadSl 6 rfl KR KR KR rfl rfl MM (flat_get Val.enc_len _ _ _ (List.getElem?_eq_getElem AO) _ _ (by rw [Val.enc_eq] <;> rfl)) flat3 rfl fun a24 c24 hc24 hl24 => ?_
   refine HL.take 7 rfl KR KR KR rfl (Y.move rfl) rfl ?_
   refine HL.take 8 rfl KR KR KR rfl (Y.index 1 rfl rfl rfl AO slice24 SM) rfl ?_
   refine HL.take 9 rfl KR KR KR rfl (Y.field rfl field26_1) rfl ?_
   first | refine HL.take 10 rfl KR KR KR rfl (Y.loadRd rfl MM (flat_get Val.enc_len _ _ _ (List.getElem?_eq_getElem AO) _ _ (by rw [Val.enc_eq] <;> rfl)) flat3) rfl ?_ | refine HL.loadSl 10 rfl KR KR KR rfl rfl MM (flat_get Val.enc_len _ _ _ (List.getElem?_eq_getElem AO) _ _ (by rw [Val.enc_eq] <;> rfl)) flat3 rfl fun a28 c28 hc28 hl28 => ?_
   refine HL.step 11 rfl KR ?_
   refine RL.callfv rfl (numF_ok kk hkk) rfl rfl rfl (by simpa using num_of kk hkk _ _ _ l[0].n l[1].n hin.1 hin.2) ?_
   refine RL.nil ⟨keep_same SB, ?_⟩
   refine HL.take 12 rfl KR KR KR rfl (Y.build [_, _, _] rfl zero26 places26 (by rfl)) rfl ?_
   refine HL.step 13 rfl KR ?_
   first | refine RL.storeRds 3 rfl rfl RP MM EL (by first | exact Kn.lenRds MM EL | exact Kn.lenLit rfl) size26 ?_ | refine RL.storeAgg _ rfl rfl RP (by rfl) (by first | (simp; done) | simp [IdT.vals]) (by first | (simp [Value.oneCell']; done) | simp [Value.oneCell', IdT.vals]) size26 ?_
   refine RL.nil ⟨keep_same SB, ?_⟩
   refine HL.done KR ?_
   refine hK4 _ _ _ ?_
   refine CW.kp [4] rfl ?_
   refine CW.ret ?_
   refine CellAt.mk rfl MM (by rfl) agg26 (Turn.drop ⟨Sub.refl _, rfl, _, rfl, ?_⟩ SB)
   exact leaf_rd _ _
  refine CW.skip ?_
  refine hK2 _ _ _ ?_
  refine CW.seq fun K5 hK5 => ?_
  refine CW.block ?_
  refine CW.seq fun K6 hK6 => ?_
  refine CW.regionM1 31 (.bool (decide (n = 9 ∧ l.length = 1))) ?_ ?_
  ·refine RL.q (Y.move rfl) rfl ?_
   refine RL.qs (Y.eql rfl rfl) rfl (fun g33 => ?_) (fun g33 => ?_)
   ·refine RL.q (Y.move rfl) rfl ?_
    refine RL.qg WG (Y.move rfl) rfl ?_
    refine RL.qg WG (Y.len rfl Tryd.underlying24) rfl ?_
    refine RL.qg WG (Y.eql rfl rfl) rfl ?_
    refine RL.q (Y.pickT rfl rfl) rfl ?_
    refine RL.q (Y.assign rfl) rfl ?_
    refine RL.nil ?_
    exact ⟨gl rfl (bmerge (by first | omega | (simp; done) | (simp; omega))), (by repeat (first | exact Keep.nil _ | refine Keep.cons _ rfl ?_)), fun _ hw => hw.sub SB⟩
   refine RL.q (Y.move rfl) rfl ?_
   refine RL.no WG rfl ?_
   refine RL.no WG rfl ?_
   refine RL.no WG rfl ?_
   refine RL.q (Y.pickF rfl rfl) rfl ?_
   refine RL.q (Y.assign rfl) rfl ?_
   refine RL.nil ?_
   exact ⟨gl rfl (bmerge (by first | omega | (simp; done) | (simp; omega))), (by repeat (first | exact Keep.nil _ | refine Keep.cons _ rfl ?_)), fun _ hw => hw.sub SB⟩
  refine hK6 _ _ _ ?_
  refine CW.ite rfl (fun h2 => absurd h2 OM) (fun h2 => ?_)
  refine CW.seq fun K7 hK7 => ?_
  refine CW.regionM1 45 (.bool (decide (n = 11 ∧ l.length = 1))) ?_ ?_
  ·refine RL.q (Y.move rfl) rfl ?_
   refine RL.qs (Y.eql rfl rfl) rfl (fun g47 => ?_) (fun g47 => ?_)
   ·refine RL.q (Y.move rfl) rfl ?_
    refine RL.qg WG (Y.move rfl) rfl ?_
    refine RL.qg WG (Y.len rfl Tryd.underlying24) rfl ?_
    refine RL.qg WG (Y.eql rfl rfl) rfl ?_
    refine RL.q (Y.pickT rfl rfl) rfl ?_
    refine RL.q (Y.assign rfl) rfl ?_
    refine RL.nil ?_
    exact ⟨gl rfl (bmerge (by first | omega | (simp; done) | (simp; omega))), (by repeat (first | exact Keep.nil _ | refine Keep.cons _ rfl ?_)), fun _ hw => hw.sub SB⟩
   refine RL.q (Y.move rfl) rfl ?_
   refine RL.no WG rfl ?_
   refine RL.no WG rfl ?_
   refine RL.no WG rfl ?_
   refine RL.q (Y.pickF rfl rfl) rfl ?_
   refine RL.q (Y.assign rfl) rfl ?_
   refine RL.nil ?_
   exact ⟨gl rfl (bmerge (by first | omega | (simp; done) | (simp; omega))), (by repeat (first | exact Keep.nil _ | refine Keep.cons _ rfl ?_)), fun _ hw => hw.sub SB⟩
  refine hK7 _ _ _ ?_
  refine CW.ite rfl (fun h3 => absurd h3 OM) (fun h3 => ?_)
  refine CW.seq fun K8 hK8 => ?_
  refine CW.region ?_
  refine RL.q (Y.move rfl) rfl ?_
  refine RL.q (Y.len rfl Tryd.underlying24) rfl ?_
  refine RL.q (Y.neq rfl rfl) rfl ?_
  refine RL.q (Y.assign rfl) rfl ?_
  refine RL.nil ?_
  refine hK8 _ _ _ ?_
  refine CW.kp [0, 1, 4, 59] rfl ?_
  refine CW.ite rfl (fun h4 => absurd h4 OM) (fun h4 => ?_)
  refine CW.skip ?_
  refine hK5 _ _ _ ?_
  refine CW.seq fun K9 hK9 => ?_
  refine CW.regionH mix _ _ (fun _ hw => hw) ?_
  refine HL.take 0 rfl KR KR KR rfl (Y.move rfl) rfl ?_
  refine HL.take 1 rfl KR KR KR rfl (Y.index 0 rfl rfl rfl AO slice24 SM) rfl ?_
  refine HL.loadAgg 2 rfl KR KR KR rfl rfl MM (Eq.trans (flat_take Val.enc_len _ _ _ (List.getElem?_eq_getElem AO)) (Val.enc_eq _)) (by rfl) agg26 rfl fun us66 hul66 hur66 => ?_
  refine HL.take 3 rfl KR KR KR rfl (Y.move rfl) rfl ?_
  refine HL.take 4 rfl KR KR KR rfl (Y.index 1 rfl rfl rfl AO slice24 SM) rfl ?_
  refine HL.loadAgg 5 rfl KR KR KR rfl rfl MM (Eq.trans (flat_take Val.enc_len _ _ _ (List.getElem?_eq_getElem AO)) (Val.enc_eq _)) (by rfl) agg26 rfl fun us69 hul69 hur69 => ?_
  refine HL.step2 6 7 rfl rfl KR ?_ ?_
  ·refine RL.alloc _ zero26 rfl rfl fun b5 => ?_
   refine RL.nil ⟨keep_same SB, ?_⟩
   refine HL.step 7 rfl KR ?_
   refine RL.alloc _ zero26 rfl rfl fun b6 => ?_
   refine RL.nil ⟨keep_same SB, ?_⟩
   refine HL.step 8 rfl KR ?_
   first | refine RL.storeRds 3 rfl rfl RP MM EL (by first | exact Kn.lenRds MM EL | exact Kn.lenLit rfl) size26 ?_ | refine RL.storeAgg _ rfl rfl RP (by rfl) (by first | (simp; done) | simp [IdT.vals]) (by first | (simp [Value.oneCell']; done) | simp [Value.oneCell', IdT.vals]) size26 ?_
   refine RL.nil ⟨keep_same SB, ?_⟩
   refine HL.step 9 rfl KR ?_
   first | refine RL.storeRds 3 rfl rfl RP MM EL (by first | exact Kn.lenRds MM EL | exact Kn.lenLit rfl) size26 ?_ | refine RL.storeAgg _ rfl rfl RP (by rfl) (by first | (simp; done) | simp [IdT.vals]) (by first | (simp [Value.oneCell']; done) | simp [Value.oneCell', IdT.vals]) size26 ?_
   refine RL.nil ⟨keep_same SB, ?_⟩
   refine HL.done KR ?_
   refine hK9 _ _ _ ?_
   refine CW.kp [0, 4, 5, 6] rfl ?_
   refine CW.seq fun K10 hK10 => ?_
   refine CW.seq fun K11 hK11 => ?_
   refine CW.region ?_
   refine RL.q (Y.move rfl) rfl ?_
   refine RL.nil ?_
   refine hK11 _ _ _ ?_
   refine CW.kp [4, 5, 6, 70] rfl ?_
   refine CW.block ?_
   refine CW.seq fun K12 hK12 => ?_
   refine CW.region ?_
   refine RL.q (Y.eql rfl rfl) rfl ?_
   refine RL.q (Y.assign rfl) rfl ?_
   refine RL.nil ?_
   refine hK12 _ _ _ ?_
   refine CW.kp [4, 5, 6, 70, 71] rfl ?_
   refine CW.ite rfl (fun h5 => ?_) (fun h5 => ?_)
   ·refine CW.seq fun K13 hK13 => ?_
    refine CW.region ?_
    refine RL.q (Y.field rfl field26_1) rfl ?_
    first | refine RL.q (Y.loadOwnV rfl MM MM (by rfl) flat3) rfl ?_ | refine RL.q (Y.loadOwn rfl MM (by rfl) flat3) rfl ?_ | refine RL.loadOwnSl rfl rfl MM MM (by rfl) flat3 rfl fun a74 c74 hu74 hc74 hl74 => ?_
    refine RL.q (Y.field rfl field26_1) rfl ?_
    first | refine RL.q (Y.loadOwnV rfl MM MM (by rfl) flat3) rfl ?_ | refine RL.q (Y.loadOwn rfl MM (by rfl) flat3) rfl ?_ | refine RL.loadOwnSl rfl rfl MM MM (by rfl) flat3 rfl fun a76 c76 hu76 hc76 hl76 => ?_
    refine RL.q (Y.lss rfl rfl) rfl ?_
    refine RL.callv rfl func31 rfl rfl (by exact etruth_ok _ _ _ _) ?_
    first | refine RL.storeRds 3 rfl rfl RP MM EL (by first | exact Kn.lenRds MM EL | exact Kn.lenLit rfl) size26 ?_ | refine RL.storeAgg _ rfl rfl RP (by rfl) (by first | (simp; done) | simp [IdT.vals]) (by first | (simp [Value.oneCell']; done) | simp [Value.oneCell', IdT.vals]) size26 ?_
    refine RL.nil ?_
    refine hK13 _ _ _ ?_
    refine CW.kp [4] rfl ?_
    refine CW.ret ?_
    rw [op2V, if_neg h1, if_pos h5] at hr
    obtain rfl := Option.some.inj hr
    refine CellAt.mk rfl MM (by rfl) agg26 (Turn.drop ⟨Sub.refl _, rfl, _, rfl, ?_⟩ SB)
    exact truthV_rd _ (by first | exact decide_eq_true_iff | (simp only [decide_eq_true_eq]; omega) | (simp only [true_iff]; omega) | (simp only [Bool.false_eq_true, false_iff]; omega))
   refine CW.seq fun K14 hK14 => ?_
   refine CW.region ?_
   refine RL.q (Y.eql rfl rfl) rfl ?_
   refine RL.q (Y.assign rfl) rfl ?_
   refine RL.nil ?_
   refine hK14 _ _ _ ?_
   refine CW.kp [4, 5, 6, 70, 79] rfl ?_
   refine CW.ite rfl (fun h6 => ?_) (fun h6 => ?_)
   ·refine CW.seq fun K15 hK15 => ?_
    refine CW.region ?_
    first | refine RL.q (Y.loadAllR rfl MM MM EL agg26) rfl ?_ | refine RL.q (Y.loadAll rfl MM (by rfl) agg26) rfl ?_ | refine RL.loadPart rfl rfl MM MM (by rfl) (by rfl) agg26 rfl fun us81 hul81 hur81 => ?_
    first | refine RL.q (Y.loadAllR rfl MM MM EL agg26) rfl ?_ | refine RL.q (Y.loadAll rfl MM (by rfl) agg26) rfl ?_ | refine RL.loadPart rfl rfl MM MM (by rfl) (by rfl) agg26 rfl fun us82 hul82 hur82 => ?_
    refine RL.callv rfl func32 rfl rfl (by exact cmpV_ok _ _ _ _ _ _ _ _ rfl KK KK) ?_
    refine RL.q (Y.eql rfl rfl) rfl ?_
    refine RL.callv rfl func31 rfl rfl (by exact etruth_ok _ _ _ _) ?_
    first | refine RL.storeRds 3 rfl rfl RP MM EL (by first | exact Kn.lenRds MM EL | exact Kn.lenLit rfl) size26 ?_ | refine RL.storeAgg _ rfl rfl RP (by rfl) (by first | (simp; done) | simp [IdT.vals]) (by first | (simp [Value.oneCell']; done) | simp [Value.oneCell', IdT.vals]) size26 ?_
    refine RL.nil ?_
    refine hK15 _ _ _ ?_
    refine CW.kp [4] rfl ?_
    refine CW.ret ?_
    rw [op2V, if_neg h1, if_neg h5, if_pos h6] at hr
    obtain rfl := Option.some.inj hr
    refine CellAt.mk rfl MM (by rfl) agg26 (Turn.drop ⟨Sub.refl _, rfl, _, rfl, ?_⟩ SB)
    exact truthV_rd _ (by first | exact decide_eq_true_iff | (simp only [decide_eq_true_eq]; omega) | (simp only [true_iff]; omega) | (simp only [Bool.false_eq_true, false_iff]; omega))
   refine CW.seq fun K16 hK16 => ?_
   refine CW.region ?_
   refine RL.q (Y.eql rfl rfl) rfl ?_
   refine RL.q (Y.assign rfl) rfl ?_
   refine RL.nil ?_
   refine hK16 _ _ _ ?_
   refine CW.kp [4, 5, 6, 70, 86] rfl ?_
   refine CW.ite rfl (fun h7 => ?_) (fun h7 => ?_)
   ·refine CW.seq fun K17 hK17 => ?_
    refine CW.region ?_
    refine RL.q (Y.field rfl field26_1) rfl ?_
    first | refine RL.q (Y.loadOwnV rfl MM MM (by rfl) flat3) rfl ?_ | refine RL.q (Y.loadOwn rfl MM (by rfl) flat3) rfl ?_ | refine RL.loadOwnSl rfl rfl MM MM (by rfl) flat3 rfl fun a89 c89 hu89 hc89 hl89 => ?_
    refine RL.qs (Y.neq rfl rfl) rfl (fun g90 => ?_) (fun g90 => ?_)
    ·refine RL.q (Y.move rfl) rfl ?_
     refine RL.qg WG (Y.field rfl field26_1) rfl ?_
     first | refine RL.qg WG (Y.loadOwnV rfl MM MM (by rfl) flat3) rfl ?_ | refine RL.qg WG (Y.loadOwn rfl MM (by rfl) flat3) rfl ?_ | refine RL.loadOwnSl WG rfl MM MM (by rfl) flat3 rfl fun a93 c93 hu93 hc93 hl93 => ?_
     refine RL.qg WG (Y.neq rfl rfl) rfl ?_
     refine RL.q (Y.pickT rfl rfl) rfl ?_
     refine RL.callv rfl func31 rfl rfl (by exact etruth_ok _ _ _ _) ?_
     first | refine RL.storeRds 3 rfl rfl RP MM EL (by first | exact Kn.lenRds MM EL | exact Kn.lenLit rfl) size26 ?_ | refine RL.storeAgg _ rfl rfl RP (by rfl) (by first | (simp; done) | simp [IdT.vals]) (by first | (simp [Value.oneCell']; done) | simp [Value.oneCell', IdT.vals]) size26 ?_
     refine RL.nil ?_
     refine hK17 _ _ _ ?_
     refine CW.kp [4] rfl ?_
     refine CW.ret ?_
     rw [op2V, if_neg h1, if_neg h5, if_neg h6, if_pos h7] at hr
     obtain rfl := Option.some.inj hr
     refine CellAt.mk rfl MM (by rfl) agg26 (Turn.drop ⟨Sub.refl _, rfl, _, rfl, ?_⟩ SB)
     exact truthV_rd _ (by first | exact decide_eq_true_iff | (simp only [decide_eq_true_eq]; omega) | (simp only [true_iff]; omega) | (simp only [Bool.false_eq_true, false_iff]; omega))
    refine RL.q (Y.move rfl) rfl ?_
    refine RL.no WG rfl ?_
    refine RL.no WG rfl ?_
    refine RL.no WG rfl ?_
    refine RL.q (Y.pickF rfl rfl) rfl ?_
    refine RL.callv rfl func31 rfl rfl (by exact etruth_ok _ _ _ _) ?_
    first | refine RL.storeRds 3 rfl rfl RP MM EL (by first | exact Kn.lenRds MM EL | exact Kn.lenLit rfl) size26 ?_ | refine RL.storeAgg _ rfl rfl RP (by rfl) (by first | (simp; done) | simp [IdT.vals]) (by first | (simp [Value.oneCell']; done) | simp [Value.oneCell', IdT.vals]) size26 ?_
    refine RL.nil ?_
    refine hK17 _ _ _ ?_
    refine CW.kp [4] rfl ?_
    refine CW.ret ?_
    rw [op2V, if_neg h1, if_neg h5, if_neg h6, if_pos h7] at hr
    obtain rfl := Option.some.inj hr
    refine CellAt.mk rfl MM (by rfl) agg26 (Turn.drop ⟨Sub.refl _, rfl, _, rfl, ?_⟩ SB)
    exact truthV_rd _ (by first | exact decide_eq_true_iff | (simp only [decide_eq_true_eq]; omega) | (simp only [true_iff]; omega) | (simp only [Bool.false_eq_true, false_iff]; omega))
   refine CW.seq fun K18 hK18 => ?_
   refine CW.region ?_
   refine RL.q (Y.eql rfl rfl) rfl ?_
   refine RL.q (Y.assign rfl) rfl ?_
   refine RL.nil ?_
   refine hK18 _ _ _ ?_
   refine CW.kp [4, 5, 6, 70, 97] rfl ?_
   refine CW.ite rfl (fun h8 => ?_) (fun h8 => ?_)
   ·refine CW.seq fun K19 hK19 => ?_
    refine CW.region ?_
    refine RL.q (Y.field rfl field26_1) rfl ?_
    first | refine RL.q (Y.loadOwnV rfl MM MM (by rfl) flat3) rfl ?_ | refine RL.q (Y.loadOwn rfl MM (by rfl) flat3) rfl ?_ | refine RL.loadOwnSl rfl rfl MM MM (by rfl) flat3 rfl fun a100 c100 hu100 hc100 hl100 => ?_
    refine RL.qs (Y.neq rfl rfl) rfl (fun g101 => ?_) (fun g101 => ?_)
    ·refine RL.q (Y.move rfl) rfl ?_
     refine RL.no WG rfl ?_
     refine RL.no WG rfl ?_
     refine RL.no WG rfl ?_
     refine RL.q (Y.pickT rfl rfl) rfl ?_
     refine RL.callv rfl func31 rfl rfl (by exact etruth_ok _ _ _ _) ?_
     first | refine RL.storeRds 3 rfl rfl RP MM EL (by first | exact Kn.lenRds MM EL | exact Kn.lenLit rfl) size26 ?_ | refine RL.storeAgg _ rfl rfl RP (by rfl) (by first | (simp; done) | simp [IdT.vals]) (by first | (simp [Value.oneCell']; done) | simp [Value.oneCell', IdT.vals]) size26 ?_
     refine RL.nil ?_
     refine hK19 _ _ _ ?_
     refine CW.kp [4] rfl ?_
     refine CW.ret ?_
     rw [op2V, if_neg h1, if_neg h5, if_neg h6, if_neg h7, if_pos h8] at hr
     obtain rfl := Option.some.inj hr
     refine CellAt.mk rfl MM (by rfl) agg26 (Turn.drop ⟨Sub.refl _, rfl, _, rfl, ?_⟩ SB)
     exact truthV_rd _ (by first | exact decide_eq_true_iff | (simp only [decide_eq_true_eq]; omega) | (simp only [true_iff]; omega) | (simp only [Bool.false_eq_true, false_iff]; omega))
    refine RL.q (Y.move rfl) rfl ?_
    refine RL.qg WG (Y.field rfl field26_1) rfl ?_
    first | refine RL.qg WG (Y.loadOwnV rfl MM MM (by rfl) flat3) rfl ?_ | refine RL.qg WG (Y.loadOwn rfl MM (by rfl) flat3) rfl ?_ | refine RL.loadOwnSl WG rfl MM MM (by rfl) flat3 rfl fun a104 c104 hu104 hc104 hl104 => ?_
    refine RL.qg WG (Y.neq rfl rfl) rfl ?_
    refine RL.q (Y.pickF rfl rfl) rfl ?_
    refine RL.callv rfl func31 rfl rfl (by exact etruth_ok _ _ _ _) ?_
    first | refine RL.storeRds 3 rfl rfl RP MM EL (by first | exact Kn.lenRds MM EL | exact Kn.lenLit rfl) size26 ?_ | refine RL.storeAgg _ rfl rfl RP (by rfl) (by first | (simp; done) | simp [IdT.vals]) (by first | (simp [Value.oneCell']; done) | simp [Value.oneCell', IdT.vals]) size26 ?_
    refine RL.nil ?_
    refine hK19 _ _ _ ?_
    refine CW.kp [4] rfl ?_
    refine CW.ret ?_
    rw [op2V, if_neg h1, if_neg h5, if_neg h6, if_neg h7, if_pos h8] at hr
    obtain rfl := Option.some.inj hr
    refine CellAt.mk rfl MM (by rfl) agg26 (Turn.drop ⟨Sub.refl _, rfl, _, rfl, ?_⟩ SB)
    exact truthV_rd _ (by first | exact decide_eq_true_iff | (simp only [decide_eq_true_eq]; omega) | (simp only [true_iff]; omega) | (simp only [Bool.false_eq_true, false_iff]; omega))
   refine CW.seq fun K20 hK20 => ?_
   refine CW.region ?_
   refine RL.q (Y.eql rfl rfl) rfl ?_
   refine RL.q (Y.assign rfl) rfl ?_
   refine RL.nil ?_
   refine hK20 _ _ _ ?_
   refine CW.kp [4, 5, 6, 108] rfl ?_
   refine CW.ite rfl (fun h9 => ?_) (fun h9 => ?_)
   ·refine CW.seq fun K21 hK21 => ?_
    refine CW.region ?_
    refine RL.q (Y.field rfl field26_2) rfl ?_
    first | refine RL.q (Y.loadOwnV rfl MM MM (by rfl) flat24) rfl ?_ | refine RL.q (Y.loadOwn rfl MM (by rfl) flat24) rfl ?_ | refine RL.loadOwnSl rfl rfl MM MM (by rfl) flat24 rfl fun a111 c111 hu111 hc111 hl111 => ?_
    refine RL.q (Y.field rfl field26_2) rfl ?_
    first | refine RL.q (Y.loadOwnV rfl MM MM (by rfl) flat24) rfl ?_ | refine RL.q (Y.loadOwn rfl MM (by rfl) flat24) rfl ?_ | refine RL.loadOwnSl rfl rfl MM MM (by rfl) flat24 rfl fun a113 c113 hu113 hc113 hl113 => ?_
    refine RL.buildSlice [.slice a111 l[0].kids.length c111, .slice a113 l[1].kids.length c113] elem56 rfl (by decide) (fill2 rfl rfl rfl rfl) rfl fun b114 => ?_
    obtain ⟨js, hjs⟩ : ∃ js, js = l[0].kids ++ l[1].kids := ⟨_, rfl⟩
    have hjf : [l[0].kids, l[1].kids].flatten = js := by simp [hjs]
    have hjl : js.length = l[0].kids.length + l[1].kids.length := by rw [hjs, List.length_append]
    refine RL.call rfl func34 rfl rfl (by exact concatV_ok _ _ _ _ [.slice a111 l[0].kids.length c111, .slice a113 l[1].kids.length c113] [l[0].kids, l[1].kids] (CellsK.own MM) (RdL.cons (hur66.2 2 _ _ rfl hu111) (RdL.cons (hur69.2 2 _ _ rfl hu113) (RdL.nil _))) (by simp) (by rw [hjf]; omega)) ?_
    rintro v115 M _ ⟨a115, c115, vs, rfl, hc115, rfl, hvs, rfl⟩
    rw [hjf] at hc115 hvs ⊢
    refine RL.sealAcc (u := .slice a115 js.length c115) PK hvs (by unfold lim; omega) fun M3 a3 c3 hs3 e3 hc3 hr3 => ?_
    injection e3 with e3a _ e3c
    subst e3a e3c
    refine RL.call rfl func33 rfl rfl (by exact copies_ok 100000 _ _ _ js _ (fun v hv => by rw [hjs] at hv; rcases List.mem_append.1 hv with h | h <;> (have := Val.size_kid h; omega)) OM OM (by exact Kn.rd MM)) ?_
    rintro v116 M116 _ ⟨hs116, rfl, hr116⟩
    obtain ⟨a116, c116, rfl, hc116, hl116, _⟩ := hr116.slice
    refine RL.addRd hr116 ?_
    refine RL.q (Y.build [_, _, _] rfl zero26 places26 (by rfl)) rfl ?_
    first | refine RL.storeRds 3 rfl rfl RP MM EL (by first | exact Kn.lenRds MM EL | exact Kn.lenLit rfl) size26 ?_ | refine RL.storeAgg _ rfl rfl RP (by rfl) (by first | (simp; done) | simp [IdT.vals]) (by first | (simp [Value.oneCell']; done) | simp [Value.oneCell', IdT.vals]) size26 ?_
    refine RL.nil ?_
    refine hK21 _ _ _ ?_
    refine CW.kp [4] rfl ?_
    refine CW.ret ?_
    rw [op2V, if_neg h1, if_neg h5, if_neg h6, if_neg h7, if_neg h8, if_pos h9, ← hjs] at hr
    obtain rfl := Option.some.inj hr
    exact CellAt.mk rfl MM (by rfl) agg26 (Turn.drop ⟨hs3.trans hs116, rfl, _, rfl, node_rd 4 0 js hr116⟩ SB)
   refine CW.skip ?_
   refine hK10 _ _ _ ?_
   refine CW.seq fun K22 hK22 => ?_
   refine CW.region ?_
   refine RL.q (Y.build [_, _, _] rfl zero26 places26 (by rfl)) rfl ?_
   first | refine RL.storeRds 3 rfl rfl RP MM EL (by first | exact Kn.lenRds MM EL | exact Kn.lenLit rfl) size26 ?_ | refine RL.storeAgg _ rfl rfl RP (by rfl) (by first | (simp; done) | simp [IdT.vals]) (by first | (simp [Value.oneCell']; done) | simp [Value.oneCell', IdT.vals]) size26 ?_
   refine RL.nil ?_
   refine hK22 _ _ _ ?_
   refine CW.kp [4] rfl ?_
   refine CW.ret ?_
   rw [op2V, if_neg h1, if_neg h5, if_neg h6, if_neg h7, if_neg h8, if_neg h9] at hr
   obtain rfl := Option.some.inj hr
   refine CellAt.mk rfl MM (by rfl) agg26 (Turn.drop ⟨Sub.refl _, rfl, _, rfl, ?_⟩ SB)
   exact leaf_rd 0 0
  refine RL.alloc _ zero26 rfl rfl fun b6 => ?_
  refine RL.nil ⟨keep_same SB, ?_⟩
  refine HL.step 6 rfl KR ?_
  refine RL.alloc _ zero26 rfl rfl fun b5 => ?_
  refine RL.nil ⟨keep_same SB, ?_⟩
  refine HL.step 8 rfl KR ?_
  first | refine RL.storeRds 3 rfl rfl RP MM EL (by first | exact Kn.lenRds MM EL | exact Kn.lenLit rfl) size26 ?_ | refine RL.storeAgg _ rfl rfl RP (by rfl) (by first | (simp; done) | simp [IdT.vals]) (by first | (simp [Value.oneCell']; done) | simp [Value.oneCell', IdT.vals]) size26 ?_
  refine RL.nil ⟨keep_same SB, ?_⟩
  refine HL.step 9 rfl KR ?_
  first | refine RL.storeRds 3 rfl rfl RP MM EL (by first | exact Kn.lenRds MM EL | exact Kn.lenLit rfl) size26 ?_ | refine RL.storeAgg _ rfl rfl RP (by rfl) (by first | (simp; done) | simp [IdT.vals]) (by first | (simp [Value.oneCell']; done) | simp [Value.oneCell', IdT.vals]) size26 ?_
  refine RL.nil ⟨keep_same SB, ?_⟩
  refine HL.done KR ?_
  refine hK9 _ _ _ ?_
  refine CW.kp [0, 4, 5, 6] rfl ?_
  refine CW.seq fun K23 hK23 => ?_
  refine CW.seq fun K24 hK24 => ?_
  refine CW.region ?_
  refine RL.q (Y.move rfl) rfl ?_
  refine RL.nil ?_
  refine hK24 _ _ _ ?_
  refine CW.kp [4, 5, 6, 70] rfl ?_
  refine CW.block ?_
  refine CW.seq fun K25 hK25 => ?_
  refine CW.region ?_
  refine RL.q (Y.eql rfl rfl) rfl ?_
  refine RL.q (Y.assign rfl) rfl ?_
  refine RL.nil ?_
  refine hK25 _ _ _ ?_
  refine CW.kp [4, 5, 6, 70, 71] rfl ?_
  refine CW.ite rfl (fun h5 => ?_) (fun h5 => ?_)
  ·refine CW.seq fun K26 hK26 => ?_
   refine CW.region ?_
   refine RL.q (Y.field rfl field26_1) rfl ?_
   first | refine RL.q (Y.loadOwnV rfl MM MM (by rfl) flat3) rfl ?_ | refine RL.q (Y.loadOwn rfl MM (by rfl) flat3) rfl ?_ | refine RL.loadOwnSl rfl rfl MM MM (by rfl) flat3 rfl fun a74 c74 hu74 hc74 hl74 => ?_
   refine RL.q (Y.field rfl field26_1) rfl ?_
   first | refine RL.q (Y.loadOwnV rfl MM MM (by rfl) flat3) rfl ?_ | refine RL.q (Y.loadOwn rfl MM (by rfl) flat3) rfl ?_ | refine RL.loadOwnSl rfl rfl MM MM (by rfl) flat3 rfl fun a76 c76 hu76 hc76 hl76 => ?_
   refine RL.q (Y.lss rfl rfl) rfl ?_
   refine RL.callv rfl func31 rfl rfl (by exact etruth_ok _ _ _ _) ?_
   first | refine RL.storeRds 3 rfl rfl RP MM EL (by first | exact Kn.lenRds MM EL | exact Kn.lenLit rfl) size26 ?_ | refine RL.storeAgg _ rfl rfl RP (by rfl) (by first | (simp; done) | simp [IdT.vals]) (by first | (simp [Value.oneCell']; done) | simp [Value.oneCell', IdT.vals]) size26 ?_
   refine RL.nil ?_
   refine hK26 _ _ _ ?_
   refine CW.kp [4] rfl ?_
   refine CW.ret ?_
   rw [op2V, if_neg h1, if_pos h5] at hr
   obtain rfl := Option.some.inj hr
   refine CellAt.mk rfl MM (by rfl) agg26 (Turn.drop ⟨Sub.refl _, rfl, _, rfl, ?_⟩ SB)
   exact truthV_rd _ (by first | exact decide_eq_true_iff | (simp only [decide_eq_true_eq]; omega) | (simp only [true_iff]; omega) | (simp only [Bool.false_eq_true, false_iff]; omega))
  refine CW.seq fun K27 hK27 => ?_
  refine CW.region ?_
  refine RL.q (Y.eql rfl rfl) rfl ?_
  refine RL.q (Y.assign rfl) rfl ?_
  refine RL.nil ?_
  refine hK27 _ _ _ ?_
  refine CW.kp [4, 5, 6, 70, 79] rfl ?_
  refine CW.ite rfl (fun h6 => ?_) (fun h6 => ?_)
  ·refine CW.seq fun K28 hK28 => ?_
   refine CW.region ?_
   first | refine RL.q (Y.loadAllR rfl MM MM EL agg26) rfl ?_ | refine RL.q (Y.loadAll rfl MM (by rfl) agg26) rfl ?_ | refine RL.loadPart rfl rfl MM MM (by rfl) (by rfl) agg26 rfl fun us81 hul81 hur81 => ?_
   first | refine RL.q (Y.loadAllR rfl MM MM EL agg26) rfl ?_ | refine RL.q (Y.loadAll rfl MM (by rfl) agg26) rfl ?_ | refine RL.loadPart rfl rfl MM MM (by rfl) (by rfl) agg26 rfl fun us82 hul82 hur82 => ?_
   refine RL.callv rfl func32 rfl rfl (by exact cmpV_ok _ _ _ _ _ _ _ _ rfl KK KK) ?_
   refine RL.q (Y.eql rfl rfl) rfl ?_
   refine RL.callv rfl func31 rfl rfl (by exact etruth_ok _ _ _ _) ?_
   first | refine RL.storeRds 3 rfl rfl RP MM EL (by first | exact Kn.lenRds MM EL | exact Kn.lenLit rfl) size26 ?_ | refine RL.storeAgg _ rfl rfl RP (by rfl) (by first | (simp; done) | simp [IdT.vals]) (by first | (simp [Value.oneCell']; done) | simp [Value.oneCell', IdT.vals]) size26 ?_
   refine RL.nil ?_
   refine hK28 _ _ _ ?_
   refine CW.kp [4] rfl ?_
   refine CW.ret ?_
   rw [op2V, if_neg h1, if_neg h5, if_pos h6] at hr
   obtain rfl := Option.some.inj hr
   refine CellAt.mk rfl MM (by rfl) agg26 (Turn.drop ⟨Sub.refl _, rfl, _, rfl, ?_⟩ SB)
   exact truthV_rd _ (by first | exact decide_eq_true_iff | (simp only [decide_eq_true_eq]; omega) | (simp only [true_iff]; omega) | (simp only [Bool.false_eq_true, false_iff]; omega))
  refine CW.seq fun K29 hK29 => ?_
  refine CW.region ?_
  refine RL.q (Y.eql rfl rfl) rfl ?_
  refine RL.q (Y.assign rfl) rfl ?_
  refine RL.nil ?_
  refine hK29 _ _ _ ?_
  refine CW.kp [4, 5, 6, 70, 86] rfl ?_
  refine CW.ite rfl (fun h7 => ?_) (fun h7 => ?_)
  ·refine CW.seq fun K30 hK30 => ?_
   refine CW.region ?_
   refine RL.q (Y.field rfl field26_1) rfl ?_
   first | refine RL.q (Y.loadOwnV rfl MM MM (by rfl) flat3) rfl ?_ | refine RL.q (Y.loadOwn rfl MM (by rfl) flat3) rfl ?_ | refine RL.loadOwnSl rfl rfl MM MM (by rfl) flat3 rfl fun a89 c89 hu89 hc89 hl89 => ?_
   refine RL.qs (Y.neq rfl rfl) rfl (fun g90 => ?_) (fun g90 => ?_)
   ·refine RL.q (Y.move rfl) rfl ?_
    refine RL.qg WG (Y.field rfl field26_1) rfl ?_
    first | refine RL.qg WG (Y.loadOwnV rfl MM MM (by rfl) flat3) rfl ?_ | refine RL.qg WG (Y.loadOwn rfl MM (by rfl) flat3) rfl ?_ | refine RL.loadOwnSl WG rfl MM MM (by rfl) flat3 rfl fun a93 c93 hu93 hc93 hl93 => ?_
    refine RL.qg WG (Y.neq rfl rfl) rfl ?_
    refine RL.q (Y.pickT rfl rfl) rfl ?_
    refine RL.callv rfl func31 rfl rfl (by exact etruth_ok _ _ _ _) ?_
    first | refine RL.storeRds 3 rfl rfl RP MM EL (by first | exact Kn.lenRds MM EL | exact Kn.lenLit rfl) size26 ?_ | refine RL.storeAgg _ rfl rfl RP (by rfl) (by first | (simp; done) | simp [IdT.vals]) (by first | (simp [Value.oneCell']; done) | simp [Value.oneCell', IdT.vals]) size26 ?_
    refine RL.nil ?_
    refine hK30 _ _ _ ?_
    refine CW.kp [4] rfl ?_
    refine CW.ret ?_
    rw [op2V, if_neg h1, if_neg h5, if_neg h6, if_pos h7] at hr
    obtain rfl := Option.some.inj hr
    refine CellAt.mk rfl MM (by rfl) agg26 (Turn.drop ⟨Sub.refl _, rfl, _, rfl, ?_⟩ SB)
    exact truthV_rd _ (by first | exact decide_eq_true_iff | (simp only [decide_eq_true_eq]; omega) | (simp only [true_iff]; omega) | (simp only [Bool.false_eq_true, false_iff]; omega))
   refine RL.q (Y.move rfl) rfl ?_
   refine RL.no WG rfl ?_
   refine RL.no WG rfl ?_
   refine RL.no WG rfl ?_
   refine RL.q (Y.pickF rfl rfl) rfl ?_
   refine RL.callv rfl func31 rfl rfl (by exact etruth_ok _ _ _ _) ?_
   first | refine RL.storeRds 3 rfl rfl RP MM EL (by first | exact Kn.lenRds MM EL | exact Kn.lenLit rfl) size26 ?_ | refine RL.storeAgg _ rfl rfl RP (by rfl) (by first | (simp; done) | simp [IdT.vals]) (by first | (simp [Value.oneCell']; done) | simp [Value.oneCell', IdT.vals]) size26 ?_
   refine RL.nil ?_
   refine hK30 _ _ _ ?_
   refine CW.kp [4] rfl ?_
   refine CW.ret ?_
   rw [op2V, if_neg h1, if_neg h5, if_neg h6, if_pos h7] at hr
   obtain rfl := Option.some.inj hr
   refine CellAt.mk rfl MM (by rfl) agg26 (Turn.drop ⟨Sub.refl _, rfl, _, rfl, ?_⟩ SB)
   exact truthV_rd _ (by first | exact decide_eq_true_iff | (simp only [decide_eq_true_eq]; omega) | (simp only [true_iff]; omega) | (simp only [Bool.false_eq_true, false_iff]; omega))
  refine CW.seq fun K31 hK31 => ?_
  refine CW.region ?_
  refine RL.q (Y.eql rfl rfl) rfl ?_
  refine RL.q (Y.assign rfl) rfl ?_
  refine RL.nil ?_
  refine hK31 _ _ _ ?_
  refine CW.kp [4, 5, 6, 70, 97] rfl ?_
  refine CW.ite rfl (fun h8 => ?_) (fun h8 => ?_)
  ·refine CW.seq fun K32 hK32 => ?_
   refine CW.region ?_
   refine RL.q (Y.field rfl field26_1) rfl ?_
   first | refine RL.q (Y.loadOwnV rfl MM MM (by rfl) flat3) rfl ?_ | refine RL.q (Y.loadOwn rfl MM (by rfl) flat3) rfl ?_ | refine RL.loadOwnSl rfl rfl MM MM (by rfl) flat3 rfl fun a100 c100 hu100 hc100 hl100 => ?_
   refine RL.qs (Y.neq rfl rfl) rfl (fun g101 => ?_) (fun g101 => ?_)
   ·refine RL.q (Y.move rfl) rfl ?_
    refine RL.no WG rfl ?_
    refine RL.no WG rfl ?_
    refine RL.no WG rfl ?_
    refine RL.q (Y.pickT rfl rfl) rfl ?_
    refine RL.callv rfl func31 rfl rfl (by exact etruth_ok _ _ _ _) ?_
    first | refine RL.storeRds 3 rfl rfl RP MM EL (by first | exact Kn.lenRds MM EL | exact Kn.lenLit rfl) size26 ?_ | refine RL.storeAgg _ rfl rfl RP (by rfl) (by first | (simp; done) | simp [IdT.vals]) (by first | (simp [Value.oneCell']; done) | simp [Value.oneCell', IdT.vals]) size26 ?_
    refine RL.nil ?_
    refine hK32 _ _ _ ?_
    refine CW.kp [4] rfl ?_
    refine CW.ret ?_
    rw [op2V, if_neg h1, if_neg h5, if_neg h6, if_neg h7, if_pos h8] at hr
    obtain rfl := Option.some.inj hr
    refine CellAt.mk rfl MM (by rfl) agg26 (Turn.drop ⟨Sub.refl _, rfl, _, rfl, ?_⟩ SB)
    exact truthV_rd _ (by first | exact decide_eq_true_iff | (simp only [decide_eq_true_eq]; omega) | (simp only [true_iff]; omega) | (simp only [Bool.false_eq_true, false_iff]; omega))
   refine RL.q (Y.move rfl) rfl ?_
   refine RL.qg WG (Y.field rfl field26_1) rfl ?_
   first | refine RL.qg WG (Y.loadOwnV rfl MM MM (by rfl) flat3) rfl ?_ | refine RL.qg WG (Y.loadOwn rfl MM (by rfl) flat3) rfl ?_ | refine RL.loadOwnSl WG rfl MM MM (by rfl) flat3 rfl fun a104 c104 hu104 hc104 hl104 => ?_
   refine RL.qg WG (Y.neq rfl rfl) rfl ?_
   refine RL.q (Y.pickF rfl rfl) rfl ?_
   refine RL.callv rfl func31 rfl rfl (by exact etruth_ok _ _ _ _) ?_
   first | refine RL.storeRds 3 rfl rfl RP MM EL (by first | exact Kn.lenRds MM EL | exact Kn.lenLit rfl) size26 ?_ | refine RL.storeAgg _ rfl rfl RP (by rfl) (by first | (simp; done) | simp [IdT.vals]) (by first | (simp [Value.oneCell']; done) | simp [Value.oneCell', IdT.vals]) size26 ?_
   refine RL.nil ?_
   refine hK32 _ _ _ ?_
   refine CW.kp [4] rfl ?_
   refine CW.ret ?_
   rw [op2V, if_neg h1, if_neg h5, if_neg h6, if_neg h7, if_pos h8] at hr
   obtain rfl := Option.some.inj hr
   refine CellAt.mk rfl MM (by rfl) agg26 (Turn.drop ⟨Sub.refl _, rfl, _, rfl, ?_⟩ SB)
   exact truthV_rd _ (by first | exact decide_eq_true_iff | (simp only [decide_eq_true_eq]; omega) | (simp only [true_iff]; omega) | (simp only [Bool.false_eq_true, false_iff]; omega))
  refine CW.seq fun K33 hK33 => ?_
  refine CW.region ?_
  refine RL.q (Y.eql rfl rfl) rfl ?_
  refine RL.q (Y.assign rfl) rfl ?_
  refine RL.nil ?_
  refine hK33 _ _ _ ?_
  refine CW.kp [4, 5, 6, 108] rfl ?_
  refine CW.ite rfl (fun h9 => ?_) (fun h9 => ?_)
  ·refine CW.seq fun K34 hK34 => ?_
   refine CW.region ?_
   refine RL.q (Y.field rfl field26_2) rfl ?_
   first | refine RL.q (Y.loadOwnV rfl MM MM (by rfl) flat24) rfl ?_ | refine RL.q (Y.loadOwn rfl MM (by rfl) flat24) rfl ?_ | refine RL.loadOwnSl rfl rfl MM MM (by rfl) flat24 rfl fun a111 c111 hu111 hc111 hl111 => ?_
   refine RL.q (Y.field rfl field26_2) rfl ?_
   first | refine RL.q (Y.loadOwnV rfl MM MM (by rfl) flat24) rfl ?_ | refine RL.q (Y.loadOwn rfl MM (by rfl) flat24) rfl ?_ | refine RL.loadOwnSl rfl rfl MM MM (by rfl) flat24 rfl fun a113 c113 hu113 hc113 hl113 => ?_
   refine RL.buildSlice [.slice a111 l[0].kids.length c111, .slice a113 l[1].kids.length c113] elem56 rfl (by decide) (fill2 rfl rfl rfl rfl) rfl fun b114 => ?_
   obtain ⟨js, hjs⟩ : ∃ js, js = l[0].kids ++ l[1].kids := ⟨_, rfl⟩
   have hjf : [l[0].kids, l[1].kids].flatten = js := by simp [hjs]
   have hjl : js.length = l[0].kids.length + l[1].kids.length := by rw [hjs, List.length_append]
   refine RL.call rfl func34 rfl rfl (by exact concatV_ok _ _ _ _ [.slice a111 l[0].kids.length c111, .slice a113 l[1].kids.length c113] [l[0].kids, l[1].kids] (CellsK.own MM) (RdL.cons (hur66.2 2 _ _ rfl hu111) (RdL.cons (hur69.2 2 _ _ rfl hu113) (RdL.nil _))) (by simp) (by rw [hjf]; omega)) ?_
   rintro v115 M _ ⟨a115, c115, vs, rfl, hc115, rfl, hvs, rfl⟩
   rw [hjf] at hc115 hvs ⊢
   refine RL.sealAcc (u := .slice a115 js.length c115) PK hvs (by unfold lim; omega) fun M3 a3 c3 hs3 e3 hc3 hr3 => ?_
   injection e3 with e3a _ e3c
   subst e3a e3c
   refine RL.call rfl func33 rfl rfl (by exact copies_ok 100000 _ _ _ js _ (fun v hv => by rw [hjs] at hv; rcases List.mem_append.1 hv with h | h <;> (have := Val.size_kid h; omega)) OM OM (by exact Kn.rd MM)) ?_
   rintro v116 M116 _ ⟨hs116, rfl, hr116⟩
   obtain ⟨a116, c116, rfl, hc116, hl116, _⟩ := hr116.slice
   refine RL.addRd hr116 ?_
   refine RL.q (Y.build [_, _, _] rfl zero26 places26 (by rfl)) rfl ?_
   first | refine RL.storeRds 3 rfl rfl RP MM EL (by first | exact Kn.lenRds MM EL | exact Kn.lenLit rfl) size26 ?_ | refine RL.storeAgg _ rfl rfl RP (by rfl) (by first | (simp; done) | simp [IdT.vals]) (by first | (simp [Value.oneCell']; done) | simp [Value.oneCell', IdT.vals]) size26 ?_
   refine RL.nil ?_
   refine hK34 _ _ _ ?_
   refine CW.kp [4] rfl ?_
   refine CW.ret ?_
   rw [op2V, if_neg h1, if_neg h5, if_neg h6, if_neg h7, if_neg h8, if_pos h9, ← hjs] at hr
   obtain rfl := Option.some.inj hr
   exact CellAt.mk rfl MM (by rfl) agg26 (Turn.drop ⟨hs3.trans hs116, rfl, _, rfl, node_rd 4 0 js hr116⟩ SB)
  refine CW.skip ?_
  refine hK23 _ _ _ ?_
  refine CW.seq fun K35 hK35 => ?_
  refine CW.region ?_
  refine RL.q (Y.build [_, _, _] rfl zero26 places26 (by rfl)) rfl ?_
  first | refine RL.storeRds 3 rfl rfl RP MM EL (by first | exact Kn.lenRds MM EL | exact Kn.lenLit rfl) size26 ?_ | refine RL.storeAgg _ rfl rfl RP (by rfl) (by first | (simp; done) | simp [IdT.vals]) (by first | (simp [Value.oneCell']; done) | simp [Value.oneCell', IdT.vals]) size26 ?_
  refine RL.nil ?_
  refine hK35 _ _ _ ?_
  refine CW.kp [4] rfl ?_
  refine CW.ret ?_
  rw [op2V, if_neg h1, if_neg h5, if_neg h6, if_neg h7, if_neg h8, if_neg h9] at hr
  obtain rfl := Option.some.inj hr
  refine CellAt.mk rfl MM (by rfl) agg26 (Turn.drop ⟨Sub.refl _, rfl, _, rfl, ?_⟩ SB)
  exact leaf_rd 0 0

theorem opV_two {n : Int} {l : List Val} {r : Val} (h : l.length = 2) (hr : opV n l = some r) : op2V n (l[0]'OM) (l[1]'OM) = some r := by
  match l, h with
  | [x, y], _ => exact hr
theorem opV_one {n : Int} {l : List Val} {r : Val} (h : l.length = 1) (hr : opV n l = some r) : (n = 9 ∨ n = 11) ∧ op1V n (l[0]'OM) = r := by
  match l, h with
  | [x], _ =>
    rw [opV] at hr
    split at hr
    · exact ⟨by assumption, Option.some.inj hr⟩
    · cases hr
theorem opV_len {n : Int} {l : List Val} {r : Val} (hr : opV n l = some r) : l.length = 1 ∨ l.length = 2 := by
  match l with
  | [] => cases hr
  | [x] => exact .inl rfl
  | [x, y] => exact .inr rfl
  | _ :: _ :: _ :: _ => cases hr
end Go.Proofs.YtanbipbiblikbaaDoor
