/-
  THE ENGINE, PART Y: whole numbers divided; bytes subtracted. No program in sight.
-/
import Derived.Test.YtfgkhhfkodlbpaaXe4
namespace Xe
open Go
section
variable {P : Program} {w0 : World} {L : Lm} {M : Mem} {Γ : List As} {d : Option Nat} {ty : TypeId} {pos : String} {af : Array Edge} {g : Option (Nat × Bool)}
namespace Y
theorem remN {x y : Operand} {m k : Nat} {t : TypeId} (hx : evL L x = some (vint (m : Nat))) (hy : evL L y = some (vint (k : Nat))) (h0 : 0 < k) :
    Yq P w0 L M Γ ⟨d, .binOp .rem t x y t, ty, pos, af, g⟩ (vint ((m % k : Nat) : Int)) := by
  have h := Y.rem (P := P) (w0 := w0) (M := M) (Γ := Γ) (d := d) (ty := ty) (pos := pos) (af := af) (g := g) (t := t) hx hy (by omega)
  rw [Int.tmod_eq_emod_of_nonneg (by omega), ← Int.natCast_emod] at h
  exact h
theorem quoN {x y : Operand} {m k : Nat} {t : TypeId} (hx : evL L x = some (vint (m : Nat))) (hy : evL L y = some (vint (k : Nat))) (h0 : 0 < k) (hm : m < 9223372036854775808) :
    Yq P w0 L M Γ ⟨d, .binOp .quo t x y t, ty, pos, af, g⟩ (vint ((m / k : Nat) : Int)) := by
  have e : (m : Int).tdiv k = ((m / k : Nat) : Int) := by rw [Int.tdiv_eq_ediv_of_nonneg (by omega), ← Int.natCast_ediv]
  have hl : m / k ≤ m := Nat.div_le_self m k
  have h := Y.quo (P := P) (w0 := w0) (M := M) (Γ := Γ) (d := d) (ty := ty) (pos := pos) (af := af) (g := g) (t := t) hx hy (by omega) (by rw [e]; generalize m / k = q at hl; omega)
  rw [e] at h
  exact h
theorem sub8 {x y : Operand} {m k : Nat} {t : TypeId} (hx : evL L x = some (vbyte m)) (hy : evL L y = some (vbyte k)) (hk : k ≤ m) (hm : m < 256) :
    Yq P w0 L M Γ ⟨d, .binOp .sub t x y t, ty, pos, af, g⟩ (vbyte (m - k)) := fun n a w ha _ => by
  have hw : IntKind.u8.wrap ((m : Int) - k) = ((m - k : Nat) : Int) := by rw [wrap_u8]; omega
  have h1 : a.eval x = .int .u8 (m : Int) := ha.ev hx
  have h2 : a.eval y = .int .u8 (k : Int) := ha.ev hy
  simp [execOp, h1, h2, eqGuard, Go.binOp, Op.intArith, hw, vbyte]
end Y
end
end Xe
