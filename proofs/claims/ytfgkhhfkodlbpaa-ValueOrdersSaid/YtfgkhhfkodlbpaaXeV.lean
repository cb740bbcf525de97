/-
  THE ENGINE, PART V: what values of a type read as, struct by struct. No program in sight.
-/
import Derived.Test.YtfgkhhfkodlbpaaXeU
namespace Xe
open Go

/-- Readings of such types, one behind the other. -/
def WTs (P : Program) (n : Nat) : List TypeId → List D → Prop
  | [], ds => ds = []
  | t :: ts, ds => ∃ a b, ds = a ++ b ∧ WT P n t a ∧ WTs P n ts b
def strB (P : Program) (t : TypeId) (tys : List TypeId) : Bool := match P.underlying t with
  | some (.struct fs) => contigB P 0 fs.toList (P.cellsOf t) && decide (fs.toList.map (·.type) = tys)
  | _ => false
def slcB (P : Program) (t e sz : Nat) : Bool := match P.underlying t with
  | some (.slice e') => Nat.beq e' e && Nat.beq (P.cellsOf e) sz
  | _ => false
def txtB (P : Program) (t : TypeId) : Bool := match P.underlying t with
  | some .string => true
  | _ => false
theorem WTs.of_fields {P : Program} {n : Nat} : ∀ (fs : List Field) (off tot : Nat) (ds : List D), contigB P off fs tot = true → ds.length + off = tot →
    (∀ f ∈ fs, WT P n f.type ((ds.drop (f.offset - off)).take (P.cellsOf f.type))) → WTs P n (fs.map (·.type)) ds
  | [], off, tot, ds, h, hl, _ => by
    have := Nat.eq_of_beq_eq_true h
    exact List.eq_nil_of_length_eq_zero (by omega)
  | f :: fs, off, tot, ds, h, hl, hf => by
    simp only [contigB, Bool.and_eq_true] at h
    have h0 := Nat.eq_of_beq_eq_true h.1
    have hle := contig_le h.2
    have hs : P.cellsOf f.type ≤ ds.length := by omega
    refine ⟨ds.take (P.cellsOf f.type), ds.drop (P.cellsOf f.type), (List.take_append_drop _ _).symm, ?_, WTs.of_fields fs (off + P.cellsOf f.type) tot _ h.2 (by rw [List.length_drop]; omega) fun g hg => ?_⟩
    · have := hf f (List.mem_cons_self ..)
      rwa [h0, Nat.sub_self, List.drop_zero] at this
    · have h1 := hf g (List.mem_cons_of_mem _ hg)
      have h2 := hle.2 g hg
      rw [List.drop_drop, show P.cellsOf f.type + (g.offset - (off + P.cellsOf f.type)) = g.offset - off from by omega]
      exact h1
section
variable {P : Program} {n : Nat} {t : TypeId} {ds : List D}
theorem WT.fields {tys : List TypeId} (h : WT P n t ds) (hs : strB P t tys = true) : ∃ m, n = m + 1 ∧ WTs P m tys ds := by
  cases n with
  | zero => exact h.elim
  | succ m =>
    unfold strB at hs
    split at hs
    · rename_i fs hu
      rw [Bool.and_eq_true, decide_eq_true_eq] at hs
      simp only [WT, hu] at h
      obtain ⟨hc, rfl⟩ := hs
      exact ⟨m, rfl, WTs.of_fields fs.toList 0 _ ds hc (by rw [h.1]; rfl) fun f hf => by simpa using h.2 f hf⟩
    · cases hs
theorem WT.elems {e sz : Nat} (h : WT P n t ds) (hs : slcB P t e sz = true) : ∃ m, n = m + 1 ∧ ∃ els : List (List D), ds = [.sl els.length sz els.flatten] ∧ els.length ≤ lim ∧ ∀ x ∈ els, WT P m e x := by
  cases n with
  | zero => exact h.elim
  | succ m =>
    unfold slcB at hs
    split at hs
    · rename_i e' hu
      rw [Bool.and_eq_true] at hs
      obtain rfl := Nat.eq_of_beq_eq_true hs.1
      obtain rfl := Nat.eq_of_beq_eq_true hs.2
      simp only [WT, hu] at h
      exact ⟨m, rfl, h⟩
    · cases hs
theorem WT.int (h : WT P n t ds) (hs : Y.intB P t .i64 = true) : ∃ z, ds = [dint z] ∧ InI z := by
  have hu := Y.intB_spec hs
  cases n with
  | zero => exact h.elim
  | succ m =>
    simp only [WT, hu] at h
    obtain ⟨z, rfl, hz⟩ := h
    exact ⟨z, rfl, inI_of hz⟩
theorem WT.text (h : WT P n t ds) (hs : txtB P t = true) : ∃ s, ds = [dstr s] := by
  cases n with
  | zero => exact h.elim
  | succ m =>
    unfold txtB at hs
    split at hs
    · rename_i hu
      simp only [WT, hu] at h
      obtain ⟨s, rfl, _⟩ := h
      exact ⟨s, rfl⟩
    · cases hs
end
theorem elems_of {α : Type} {enc : α → List D} {Q : α → Prop} : ∀ {els : List (List D)}, (∀ x ∈ els, ∃ a, x = enc a ∧ Q a) → ∃ l : List α, els.length = l.length ∧ els.flatten = l.flatMap enc ∧ ∀ a ∈ l, Q a
  | [], _ => ⟨[], rfl, rfl, fun a h => by cases h⟩
  | x :: xs, h => by
    obtain ⟨a, rfl, hq⟩ := h x (List.mem_cons_self ..)
    obtain ⟨l, h1, h2, h3⟩ := elems_of fun y hy => h y (List.mem_cons_of_mem _ hy)
    refine ⟨a :: l, by simp [h1], by simp [h2], fun b hb => ?_⟩
    rcases List.mem_cons.1 hb with rfl | hb
    · exact hq
    · exact h3 b hb
end Xe
