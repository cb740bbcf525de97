/- TYPES PUT INTO A ROW; the first definition of the made program. No program in sight. -/
import Derived.Test.YtfgkhhfkodlbpaaPure10
namespace Xe
open Go
def nest : Nat → Ty
  | 0 => ty0
  | k + 1 => listT (nest k)
theorem ty0_rd {M : Mem} : RdL M ty0.enc [vint 0, vint 0, vint 0, vint 0, .slice none 0 0] := by
  rw [Ty.enc_eq]
  exact RdL.cons (Rd.i _) (RdL.cons (Rd.i _) (RdL.cons (Rd.i _) (RdL.cons (Rd.i _) (RdL.cons Rd.nilS (RdL.nil _)))))
theorem tDefs_head (l : List Int) : (typesP l).defs[0]'(by rw [show (typesP l).defs = tDefs l (tMany l) from rfl, tDefs_len]; exact (tMany_rng l).1) = tDef l 0 := by
  simp [typesP, tDefs]
theorem types_def1 (l : List Int) : hasDef (typesP l) (idK 1) ∧ theDef (typesP l) (idK 1) = tDef l 0 := by
  have h := theDef_hit (p := typesP l) (id := idK 1) (k := 0) (by rw [show (typesP l).defs = tDefs l (tMany l) from rfl, tDefs_len]; exact (tMany_rng l).1) (fun j _ h => absurd h (Nat.not_lt_zero _)) (by rw [tDefs_head]; rfl)
  rw [tDefs_head] at h
  exact h
theorem types_has1 (l : List Int) : decide (hasDef (typesP l) (idK 1)) = true := decide_eq_true (types_def1 l).1
/-- The parts of a row, one behind the other. -/
def partsK : Nat → List Value → List (Nat × List Value)
  | _, [] => []
  | k, v :: vs => (k, cellsL v) :: partsK (k + 1) vs
theorem fillFrom {sz : Nat} : ∀ (vs : List Value) (outs : List (List Value)) (k : Nat) (pre rest : List Value), vs.map cellsL = outs → (∀ o ∈ outs, o.length = sz) → pre.length = k * sz → rest.length = outs.length * sz →
    fillL (fun i => some (i * sz, sz)) (pre ++ rest) (partsK k vs) = some (pre ++ outs.flatten)
  | [], _, k, pre, rest, rfl, _, _, hr => by
    have : rest = [] := List.eq_nil_of_length_eq_zero (by simpa using hr)
    simp [partsK, fillL, this]
  | v :: vs, _, k, pre, rest, rfl, ho, hp, hr => by
    have h1 : (cellsL v).length = sz := ho _ (by simp)
    have h2 : rest.length = sz + (vs.map cellsL).length * sz := by rw [hr]; simp [Nat.succ_mul]; omega
    have e : splice (pre ++ rest) (k * sz) (cellsL v) = (pre ++ cellsL v) ++ rest.drop sz := by
      simp only [splice, h1, ← hp]
      rw [List.take_left', List.drop_append, List.drop_of_length_le (by omega)]
      · simp
      · rfl
    simp only [partsK, fillL]
    rw [if_pos ⟨h1, by rw [List.length_append]; omega⟩, e]
    rw [fillFrom vs (vs.map cellsL) (k + 1) (pre ++ cellsL v) (rest.drop sz) rfl (fun o h => ho o (by simp at h ⊢; exact .inr h)) (by rw [List.length_append, hp, h1, Nat.succ_mul]) (by rw [List.length_drop]; omega)]
    simp
theorem fillRow {sz : Nat} {vs : List Value} {outs : List (List Value)} (h : vs.map cellsL = outs) (ho : ∀ o ∈ outs, o.length = sz) : ∀ zs : List Value, zs.length = outs.length * sz → fillL (fun i => some (i * sz, sz)) zs (partsK 0 vs) = some outs.flatten := fun zs hz => by
  have := fillFrom vs outs 0 [] zs h ho (by simp) hz
  simpa using this
end Xe
