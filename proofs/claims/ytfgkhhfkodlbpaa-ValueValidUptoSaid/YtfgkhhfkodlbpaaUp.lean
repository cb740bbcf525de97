/- ARGUMENTS OF BOUNDED BULK: what the bound gives. -/
import Derived.Test.YtfgkhhfkodlbpaaRows
import Derived.Test.YtfgkhhfkodlbpaaArg
import Derived.Test.YtfgkhhfkodlbpaaPureB
namespace Go.Proofs.Ytfgkhhfkodlbpaa
open Xe
set_option maxRecDepth 20000
theorem bulkAll_sum {H : Type} : ∀ l : List (DataW H), Rows.uptoBulkAll l = (l.map Rows.uptoBulk).sum
  | [] => by simp [Rows.uptoBulkAll]
  | d :: ds => by rw [Rows.uptoBulkAll, bulkAll_sum ds, List.map_cons, List.sum_cons]
theorem bulk_ok {H : Type} : BulkOk (H := H) Rows.uptoBulk :=
  ⟨fun l => by cases l <;> simp [Rows.uptoBulk], by simp [Rows.uptoBulk], fun els sp => by rw [Rows.uptoBulk, bulkAll_sum els]; omega, fun ps => by rw [Rows.uptoBulk, bulkAll_sum ps]; omega⟩
theorem bulk_small {H : Type} (ds : List (DataW H)) (h : Rows.uptoSmall H ds = true) : ∀ d ∈ ds, Rows.uptoBulk d ≤ 1048576 := fun d hd => by
  have h1 : Rows.uptoBulkAll ds ≤ 1048576 := of_decide_eq_true h
  rw [bulkAll_sum] at h1
  have := le_sum Rows.uptoBulk hd
  omega
theorem _root_.Xe.ArgsB.split {P : Program} {M : Mem} {b : Nat} {t : TypeId} {ts : List TypeId} {vs : List Value} (h : ArgsB P M b (t :: ts) vs) : ∃ v vs', vs = v :: vs' ∧ ArgsW P M [t] [v] ∧ ArgsB P M b ts vs' := by
  obtain ⟨n, ds, us, v, vs', rfl, h1, h2, h3, h4, h5⟩ := h.inv
  exact ⟨v, vs', rfl, .cons n ds us h1 h2 h3 .nil, h5⟩
section
variable {M : Mem} {ts : List TypeId} {vs : List Value} {b : Nat}
theorem argB_ints (h : ArgsB Try.prog M b (22 :: ts) vs) : ∃ (l : List Int) (v : Value) (vs' : List Value), vs = v :: vs' ∧ Rd M (dints l) v ∧ (∀ x ∈ l, InI x) ∧ ArgsB Try.prog M b ts vs' := by
  obtain ⟨v, vs', rfl, h1, h2⟩ := h.split
  obtain ⟨l, u, w, e, k1, k2, _⟩ := arg_ints h1
  obtain ⟨rfl, _⟩ := List.cons.inj e
  exact ⟨l, _, vs', rfl, k1, k2, h2⟩
theorem argB_int (h : ArgsB Try.prog M b (3 :: ts) vs) : ∃ (z : Int) (vs' : List Value), vs = vint z :: vs' ∧ InI z ∧ ArgsB Try.prog M b ts vs' := by
  obtain ⟨v, vs', rfl, h1, h2⟩ := h.split
  obtain ⟨z, w, e, k1, _⟩ := arg_int h1
  obtain ⟨rfl, _⟩ := List.cons.inj e
  exact ⟨z, vs', rfl, k1, h2⟩
theorem argB_ty (h : ArgsB Try.prog M b (31 :: ts) vs) : ∃ (t : Ty) (us vs' : List Value), vs = .agg us.toArray :: vs' ∧ RdL M t.enc us ∧ ArgsB Try.prog M b ts vs' := by
  obtain ⟨v, vs', rfl, h1, h2⟩ := h.split
  obtain ⟨t, us, w, e, k1, _⟩ := arg_ty h1
  obtain ⟨rfl, _⟩ := List.cons.inj e
  exact ⟨t, us, vs', rfl, k1, h2⟩
theorem argB_val (h : ArgsB Try.prog M b (53 :: ts) vs) : ∃ (t : Val) (us vs' : List Value), vs = .agg us.toArray :: vs' ∧ RdL M t.enc us ∧ t.Ok ∧ t.size ≤ b ∧ ArgsB Try.prog M b ts vs' := by
  obtain ⟨n, ds, us, v, vs', rfl, h1, h2, h3, h4, h5⟩ := h.inv
  obtain ⟨p, rfl, hp⟩ := val_of _ _ h2
  simp only [SlotOf, Try.underlying53] at h3
  subst h3
  exact ⟨p, us, vs', rfl, h1, hp, Nat.le_trans (Val.size_bulk p) h4, h5⟩
end
end Go.Proofs.Ytfgkhhfkodlbpaa
