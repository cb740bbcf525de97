/- VALUES WITH ONE PLACE TURNED. No program in sight. -/
import Derived.Test.YtfgkhhfkodlbpaaPure12
namespace Xe
open Go
def spoilAt (v : Val) (how wth : Int) : Val :=
  if around how 5 = 0 then .mk wth v.n v.kids else if around how 5 = 1 then .mk v.kind wth v.kids else if around how 5 = 2 then .mk v.kind (v.n + 1) v.kids
  else if around how 5 = 3 then .mk v.kind v.n (v.kids ++ [.mk (around wth 5) 0 []]) else .mk v.kind v.n (v.kids.drop 1)
mutual
def spoil (how wth : Int) : Val → Int → Val
  | .mk k n l, a => if 0 < a then (match spoilL how wth l a with
    | some l' => .mk k n l'
    | none => spoilAt (.mk k n l) how wth) else spoilAt (.mk k n l) how wth
def spoilL (how wth : Int) : List Val → Int → Option (List Val)
  | [], _ => none
  | x :: xs, a => if a ≤ x.size then some (spoil how wth x (a - 1) :: xs) else (spoilL how wth xs (a - x.size)).map (x :: ·)
end
theorem spoil_eq (how wth : Int) (v : Val) (a : Int) : spoil how wth v a = if 0 < a then (match spoilL how wth v.kids a with
    | some l' => .mk v.kind v.n l'
    | none => spoilAt v how wth) else spoilAt v how wth := by cases v; rw [spoil]; rfl
theorem spoilL_nil (how wth : Int) (l : List Val) (a : Int) : spoilL how wth l a = (spoilL how wth (l.drop 0) a).map (l.take 0 ++ ·) := by simp
theorem spoilL_step {how wth : Int} {l : List Val} {a ak : Int} {k : Nat} (hk : k < l.length) (h : spoilL how wth l a = (spoilL how wth (l.drop k) ak).map (l.take k ++ ·)) (hn : ¬ ak ≤ l[k].size) :
    spoilL how wth l a = (spoilL how wth (l.drop (k + 1)) (ak - l[k].size)).map (l.take (k + 1) ++ ·) := by
  have e : ((fun x => l.take k ++ x) ∘ (fun x => l[k] :: x)) = (fun x => l.take (k + 1) ++ x) := funext fun x => by
    rw [List.take_succ_eq_append_getElem hk, List.append_assoc]; rfl
  rw [h, List.drop_eq_getElem_cons hk, spoilL, if_neg hn, Option.map_map, e]
theorem spoilL_hit {how wth : Int} {l : List Val} {a ak : Int} {k : Nat} (hk : k < l.length) (h : spoilL how wth l a = (spoilL how wth (l.drop k) ak).map (l.take k ++ ·)) (hn : ak ≤ l[k].size) :
    spoilL how wth l a = some (l.take k ++ ([spoil how wth l[k] (ak - 1)] ++ l.drop (k + 1))) := by
  rw [h, List.drop_eq_getElem_cons hk, spoilL, if_pos hn]; rfl
theorem spoilL_miss {how wth : Int} {l : List Val} {a ak : Int} {k : Nat} (hk : l.length ≤ k) (h : spoilL how wth l a = (spoilL how wth (l.drop k) ak).map (l.take k ++ ·)) : spoilL how wth l a = none := by
  rw [h, List.drop_of_length_le hk, spoilL]; rfl
/-- Numbers that may grow by one. -/
inductive Val.Sm : Val → Prop
  | mk {v : Val} : -4611686018427387904 ≤ v.n ∧ v.n ≤ 4611686018427387904 → (∀ k ∈ v.kids, Val.Sm k) → Val.Sm v
theorem Val.Sm.n {v : Val} (h : v.Sm) : -4611686018427387904 ≤ v.n ∧ v.n ≤ 4611686018427387904 := by cases h with | mk a b => exact a
theorem Val.Sm.kid {v k : Val} (h : v.Sm) (hk : k ∈ v.kids) : k.Sm := by cases h with | mk a b => exact b k hk
theorem Val.open {M : Mem} {v : Val} {us : List Value} (h : RdL M v.enc us) : ∃ u, us = [vint v.kind, vint v.n, u] ∧ Rd M (.sl v.kids.length 3 (v.kids.flatMap Val.enc)) u := by
  rw [Val.enc_eq] at h
  obtain ⟨v0, t0, rfl, r0, h⟩ := h.uncons
  obtain ⟨v1, t1, rfl, r1, h⟩ := h.uncons
  obtain ⟨v2, t2, rfl, r2, h⟩ := h.uncons
  obtain rfl := h.unnil
  obtain rfl := r0.int_eq
  obtain rfl := r1.int_eq
  exact ⟨v2, rfl, r2⟩
end Xe
