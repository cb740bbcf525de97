/- THE PLAIN FUNCTIONS of the generator of programs and values. No program in sight. -/
import Derived.Test.YtfgkhhfkodlbpaaPure5
namespace Xe
open Go
def vnum (n : Int) : Val := .mk 0 n []
def idK (n : Int) : IdT := ⟨0, 1 + n.tdiv 32, n.tmod 32⟩
def ofT (i : IdT) : Ty := .mk 3 i []
def listT (t : Ty) : Ty := .mk 2 id0 [t]
/-- A type made of a number. -/
def pickTy (n : Int) (defs : Int) : Ty :=
  if around n (4 + 2 * defs) = 1 then .mk 1 id0 []
  else if around n (4 + 2 * defs) = 2 then listT ty0
  else if 4 ≤ around n (4 + 2 * defs) then
    (if around (n.tdiv 64) 5 = 1 then listT (ofT (idK (1 + (around n (4 + 2 * defs) - 4).tdiv 2))) else ofT (idK (1 + (around n (4 + 2 * defs) - 4).tdiv 2)))
  else ty0
theorem tdiv_InI {z : Int} (h : InI z) (m : Int) (hm : 1 ≤ m) : InI (z.tdiv m) := by
  unfold InI at h ⊢
  by_cases h0 : 0 ≤ z
  · rw [Int.tdiv_eq_ediv_of_nonneg h0]
    have h1 := Int.ediv_nonneg h0 (show 0 ≤ m by omega)
    have h2 := Int.ediv_le_self m h0
    omega
  · have e : z.tdiv m = -((-z) / m) := by
      rw [← Int.tdiv_eq_ediv_of_nonneg (by omega), Int.neg_tdiv]; omega
    have h1 := Int.ediv_nonneg (show 0 ≤ -z by omega) (show 0 ≤ m by omega)
    have h2 := Int.ediv_le_self m (show 0 ≤ -z by omega)
    rw [e]; omega
end Xe
