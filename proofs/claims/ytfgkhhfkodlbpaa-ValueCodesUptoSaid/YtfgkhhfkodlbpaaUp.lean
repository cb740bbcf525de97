/- ARGUMENTS OF BOUNDED BULK: what the bound gives. -/
import Derived.Test.YtfgkhhfkodlbpaaRows
import Derived.Test.YtfgkhhfkodlbpaaArg
import Derived.Test.YtfgkhhfkodlbpaaPureB
namespace Go.Proofs.Ytfgkhhfkodlbpaa
open Xe
set_option maxRecDepth 20000
theorem bulkAll_sum {H : Type} : ∀ l : List (DataW H), Rows.uptoBulkAll l = (l.map Rows.uptoBulk).sum
  | [] => by simp [Rows.uptoBulkAll]
  | d :: ds => by rw [Rows.uptoBulkAll, bulkAll_sum ds, List.map_cons, List.sum_cons]
theorem bulk_ok {H : Type} : BulkOk (H := H) Rows.uptoBulk :=
  ⟨fun l => by cases l <;> simp [Rows.uptoBulk], by simp [Rows.uptoBulk], fun els sp => by rw [Rows.uptoBulk, bulkAll_sum els]; omega, fun ps => by rw [Rows.uptoBulk, bulkAll_sum ps]; omega⟩
theorem bulk_small {H : Type} (ds : List (DataW H)) (h : Rows.uptoSmall H ds = true) : ∀ d ∈ ds, Rows.uptoBulk d ≤ 1048576 := fun d hd => by
  have h1 : Rows.uptoBulkAll ds ≤ 1048576 := of_decide_eq_true h
  rw [bulkAll_sum] at h1
  have := le_sum Rows.uptoBulk hd
  omega
theorem _root_.Xe.ArgsB.split {P : Program} {M : Mem} {b : Nat} {t : TypeId} {ts : List TypeId} {vs : List Value} (h : ArgsB P M b (t :: ts) vs) : ∃ v vs', vs = v :: vs' ∧ ArgsW P M [t] [v] ∧ ArgsB P M b ts vs' := by
  obtain ⟨n, ds, us, v, vs', rfl, h1, h2, h3, h4, h5⟩ := h.inv
  exact ⟨v, vs', rfl, .cons n ds us h1 h2 h3 .nil, h5⟩
theorem w5 : Y.intB Try.prog 5 .u8 = true := by kernel_rfl
theorem w69 : slcB Try.prog 69 5 1 = true := by kernel_rfl
theorem u8_of {z : Int} (h : (Lit.int .u8 z).wf = true) : 0 ≤ z ∧ z < 256 := by
  simp only [Lit.wf, Bool.and_eq_true, decide_eq_true_eq] at h
  have h1 : IntKind.u8.min = 0 := by decide
  have h2 : IntKind.u8.max = 255 := by decide
  omega
theorem byte_of {n : Nat} {ds : List D} (h : WT Try.prog n 5 ds) : ∃ k : Nat, ds = [dbyte k] ∧ k < 256 := by
  have hu := Y.intB_spec w5
  cases n with
  | zero => exact h.elim
  | succ m =>
    simp only [WT, hu] at h
    obtain ⟨z, rfl, hz⟩ := h
    obtain ⟨h1, h2⟩ := u8_of hz
    obtain ⟨k, rfl⟩ := Int.eq_ofNat_of_zero_le h1
    exact ⟨k, rfl, by omega⟩
theorem bytes_of {n : Nat} {ds : List D} (h : WT Try.prog n 69 ds) : ∃ l : List Nat, ds = [dbytes l] ∧ ∀ x ∈ l, x < 256 := by
  obtain ⟨m, rfl, els, rfl, _, he⟩ := h.elems w69
  obtain ⟨l, e1, e2, e3⟩ := elems_of (enc := fun z => [dbyte z]) (Q := fun z => z < 256) fun x hx => byte_of (he x hx)
  exact ⟨l, by rw [e1, e2, dbytes, List.map_eq_flatMap], e3⟩
section
variable {M : Mem} {ts : List TypeId} {vs : List Value} {b : Nat}
theorem argB_ints (h : ArgsB Try.prog M b (22 :: ts) vs) : ∃ (l : List Int) (v : Value) (vs' : List Value), vs = v :: vs' ∧ Rd M (dints l) v ∧ (∀ x ∈ l, InI x) ∧ ArgsB Try.prog M b ts vs' := by
  obtain ⟨v, vs', rfl, h1, h2⟩ := h.split
  obtain ⟨l, u, w, e, k1, k2, _⟩ := arg_ints h1
  obtain ⟨rfl, _⟩ := List.cons.inj e
  exact ⟨l, _, vs', rfl, k1, k2, h2⟩
theorem argB_int (h : ArgsB Try.prog M b (3 :: ts) vs) : ∃ (z : Int) (vs' : List Value), vs = vint z :: vs' ∧ InI z ∧ ArgsB Try.prog M b ts vs' := by
  obtain ⟨v, vs', rfl, h1, h2⟩ := h.split
  obtain ⟨z, w, e, k1, _⟩ := arg_int h1
  obtain ⟨rfl, _⟩ := List.cons.inj e
  exact ⟨z, vs', rfl, k1, h2⟩
theorem argB_ty (h : ArgsB Try.prog M b (31 :: ts) vs) : ∃ (t : Ty) (us vs' : List Value), vs = .agg us.toArray :: vs' ∧ RdL M t.enc us ∧ ArgsB Try.prog M b ts vs' := by
  obtain ⟨v, vs', rfl, h1, h2⟩ := h.split
  obtain ⟨t, us, w, e, k1, _⟩ := arg_ty h1
  obtain ⟨rfl, _⟩ := List.cons.inj e
  exact ⟨t, us, vs', rfl, k1, h2⟩
theorem argB_val (h : ArgsB Try.prog M b (53 :: ts) vs) : ∃ (t : Val) (us vs' : List Value), vs = .agg us.toArray :: vs' ∧ RdL M t.enc us ∧ t.Ok ∧ t.size ≤ b ∧ ArgsB Try.prog M b ts vs' := by
  obtain ⟨n, ds, us, v, vs', rfl, h1, h2, h3, h4, h5⟩ := h.inv
  obtain ⟨p, rfl, hp⟩ := val_of _ _ h2
  simp only [SlotOf, Try.underlying53] at h3
  subst h3
  exact ⟨p, us, vs', rfl, h1, hp, Nat.le_trans (Val.size_bulk p) h4, h5⟩
theorem argB_byte (h : ArgsB Try.prog M b (5 :: ts) vs) : ∃ (k : Nat) (vs' : List Value), vs = vbyte k :: vs' ∧ k < 256 ∧ ArgsB Try.prog M b ts vs' := by
  obtain ⟨n, ds, us, v, vs', rfl, h1, h2, h3, h4, h5⟩ := h.inv
  obtain ⟨k, rfl, hk⟩ := byte_of h2
  simp only [SlotOf, Try.underlying5] at h3
  subst h3
  have h6 := h1.2 0 _ _ rfl rfl
  simp only [dbyte, Rd] at h6
  rw [h6.1]
  exact ⟨k, vs', rfl, hk, h5⟩
theorem argB_bytes (h : ArgsB Try.prog M b (69 :: ts) vs) : ∃ (l : List Nat) (v : Value) (vs' : List Value), vs = v :: vs' ∧ Rd M (dbytes l) v ∧ (∀ x ∈ l, x < 256) ∧ ArgsB Try.prog M b ts vs' := by
  obtain ⟨n, ds, us, v, vs', rfl, h1, h2, h3, h4, h5⟩ := h.inv
  obtain ⟨l, rfl, hl⟩ := bytes_of h2
  simp only [SlotOf, Try.underlying69] at h3
  subst h3
  exact ⟨l, v, vs', rfl, h1.2 0 _ _ rfl rfl, hl, h5⟩
end
end Go.Proofs.Ytfgkhhfkodlbpaa
