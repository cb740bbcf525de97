/- THE ORDER OF VALUES. No program in sight. -/
import Derived.Test.YtfgkhhfkodlbpaaPure4
namespace Xe
open Go
theorem cmpI_neg (a b : Int) : cmpI a b = -cmpI b a := by unfold cmpI; split <;> split <;> omega
theorem cmpI_eq0 {a b : Int} (h : cmpI a b = 0) : a = b := by unfold cmpI at h; split at h <;> (try split at h) <;> omega
theorem cmpI_lt_iff {a b : Int} : cmpI a b < 0 ↔ a < b := by unfold cmpI; split <;> (try split) <;> omega
/-- One test, then the other. -/
def lx (a b : Int) : Int := if a ≠ 0 then a else b
theorem lx_eq0 {a b : Int} (h : lx a b = 0) : a = 0 ∧ b = 0 := by unfold lx at h; split at h <;> omega
theorem lx_neg (a b : Int) : lx (-a) (-b) = -lx a b := by unfold lx; split <;> split <;> omega
theorem lx_lt {a b : Int} (h : lx a b < 0) : a < 0 ∨ (a = 0 ∧ b < 0) := by unfold lx at h; split at h <;> omega
theorem lx_neg_of {a b : Int} (h : a < 0 ∨ (a = 0 ∧ b < 0)) : lx a b < 0 := by unfold lx; split <;> omega
theorem cmpV_lx (a b : Val) : cmpV a b = lx (cmpI a.kind b.kind) (lx (cmpI a.n b.n) (lx (cmpI a.kids.length b.kids.length) (cmpVs a.kids b.kids))) := by rw [cmpV_eq]; rfl
theorem cmpVs_cons (x y : Val) (xs ys : List Val) : cmpVs (x :: xs) (y :: ys) = lx (cmpV x y) (cmpVs xs ys) := by rw [cmpVs]; rfl
mutual
theorem cmpV_self : ∀ a : Val, cmpV a a = 0
  | .mk k n l => by rw [cmpV_lx]; simp only [Val.kind, Val.n, Val.kids, cmpI_self, cmpVs_self l, lx]; simp
theorem cmpVs_self : ∀ l : List Val, cmpVs l l = 0
  | [] => by rw [cmpVs]
  | x :: xs => by rw [cmpVs_cons, cmpV_self x, cmpVs_self xs]; rfl
end
mutual
theorem cmpV_eq0 : ∀ a b : Val, cmpV a b = 0 → a = b
  | .mk k n l, .mk k' n' l', h => by
    rw [cmpV_lx] at h
    obtain ⟨h1, h⟩ := lx_eq0 h
    obtain ⟨h2, h⟩ := lx_eq0 h
    obtain ⟨_, h⟩ := lx_eq0 h
    have e1 := cmpI_eq0 h1
    have e2 := cmpI_eq0 h2
    have e3 := cmpVs_eq0 l l' h
    simp only [Val.kind, Val.n] at e1 e2
    rw [e1, e2, e3]
theorem cmpVs_eq0 : ∀ a b : List Val, cmpVs a b = 0 → a = b
  | [], [], _ => rfl
  | [], _ :: _, h => by rw [cmpVs] at h; omega
  | _ :: _, [], h => by rw [cmpVs] at h; omega
  | x :: xs, y :: ys, h => by
    rw [cmpVs_cons] at h
    obtain ⟨h1, h2⟩ := lx_eq0 h
    rw [cmpV_eq0 x y h1, cmpVs_eq0 xs ys h2]
end
mutual
theorem cmpV_neg : ∀ a b : Val, cmpV a b = -cmpV b a
  | .mk k n l, .mk k' n' l' => by
    rw [cmpV_lx, cmpV_lx (.mk k' n' l')]
    simp only [Val.kind, Val.n, Val.kids]
    rw [cmpI_neg k, cmpI_neg n, cmpI_neg (l.length : Int), cmpVs_neg l l', lx_neg, lx_neg, lx_neg]
theorem cmpVs_neg : ∀ a b : List Val, cmpVs a b = -cmpVs b a
  | [], [] => by rw [cmpVs]; rfl
  | [], _ :: _ => by rw [cmpVs, cmpVs]
  | _ :: _, [] => by rw [cmpVs, cmpVs]; rfl
  | x :: xs, y :: ys => by rw [cmpVs_cons, cmpVs_cons, cmpV_neg x y, cmpVs_neg xs ys, lx_neg]
end
mutual
theorem cmpV_tr : ∀ a b c : Val, cmpV a b < 0 → cmpV b c < 0 → cmpV a c < 0
  | .mk k n l, .mk k' n' l', .mk k2 n2 l2, h, h' => by
    rw [cmpV_lx] at h h' ⊢
    simp only [Val.kind, Val.n, Val.kids] at h h' ⊢
    have tI : ∀ {x y z : Int}, cmpI x y < 0 → cmpI y z < 0 → cmpI x z < 0 := fun h1 h2 => cmpI_lt_iff.2 (Int.lt_trans (cmpI_lt_iff.1 h1) (cmpI_lt_iff.1 h2))
    refine lx_neg_of ?_
    rcases lx_lt h with h1 | ⟨h1, h⟩
    · rcases lx_lt h' with h2 | ⟨h2, _⟩
      · exact .inl (tI h1 h2)
      · rw [← cmpI_eq0 h2]; exact .inl h1
    rw [cmpI_eq0 h1]
    rcases lx_lt h' with h2 | ⟨h2, h'⟩
    · exact .inl h2
    refine .inr ⟨h2, lx_neg_of ?_⟩
    rcases lx_lt h with h1 | ⟨h1, h⟩
    · rcases lx_lt h' with h2 | ⟨h2, _⟩
      · exact .inl (tI h1 h2)
      · rw [← cmpI_eq0 h2]; exact .inl h1
    rw [cmpI_eq0 h1]
    rcases lx_lt h' with h2 | ⟨h2, h'⟩
    · exact .inl h2
    refine .inr ⟨h2, lx_neg_of ?_⟩
    rcases lx_lt h with h1 | ⟨h1, h⟩
    · rcases lx_lt h' with h2 | ⟨h2, _⟩
      · exact .inl (tI h1 h2)
      · rw [← cmpI_eq0 h2]; exact .inl h1
    rw [cmpI_eq0 h1]
    rcases lx_lt h' with h2 | ⟨h2, h'⟩
    · exact .inl h2
    exact .inr ⟨h2, cmpVs_tr l l' l2 h h'⟩
theorem cmpVs_tr : ∀ a b c : List Val, cmpVs a b < 0 → cmpVs b c < 0 → cmpVs a c < 0
  | [], [], _, h, _ => by rw [cmpVs] at h; omega
  | [], _ :: _, [], _, h' => by rw [cmpVs] at h'; omega
  | [], _ :: _, _ :: _, _, _ => by rw [cmpVs]; omega
  | _ :: _, [], _, h, _ => by rw [cmpVs] at h; omega
  | _ :: _, _ :: _, [], _, h' => by rw [cmpVs] at h'; omega
  | x :: xs, y :: ys, z :: zs, h, h' => by
    rw [cmpVs_cons] at h h' ⊢
    refine lx_neg_of ?_
    rcases lx_lt h with h1 | ⟨h1, h⟩
    · rcases lx_lt h' with h2 | ⟨h2, _⟩
      · exact .inl (cmpV_tr x y z h1 h2)
      · rw [← cmpV_eq0 y z h2]; exact .inl h1
    rw [cmpV_eq0 x y h1]
    rcases lx_lt h' with h2 | ⟨h2, h'⟩
    · exact .inl h2
    exact .inr ⟨h2, cmpVs_tr xs ys zs h h'⟩
end
theorem cmpV_trans {a b c : Val} (h : cmpV a b ≤ 0) (h' : cmpV b c ≤ 0) : cmpV a c ≤ 0 := by
  rcases Int.lt_or_eq_of_le h with h1 | h1
  · rcases Int.lt_or_eq_of_le h' with h2 | h2
    · exact Int.le_of_lt (cmpV_tr a b c h1 h2)
    · rw [← cmpV_eq0 b c h2]; exact h
  · rw [cmpV_eq0 a b h1]; exact h'
end Xe
