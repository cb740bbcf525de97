/- WHAT THE SMALL EXAMPLE MEANS. No program in sight. -/
import Derived.Test.YtfgkhhfkodlbpaaPure9
import Derived.KernelRfl
namespace Xe
open Go
def tyA : Ty := ofT (idK 1)
def tyB : Ty := ofT (idK 2)
def tyC : Ty := ofT (idK 3)
def valP : Val := .mk 2 0 [vnum 1, vnum (-2)]
def valA : Val := .mk 3 1 [valP]
def valB : Val := .mk 3 1 [vnum 1]
def valC : Val := .mk 4 0 [vnum 3, vnum 0]
def valD : Val := .mk 4 0 [vnum 9]
def valE : Val := .mk 4 0 [vnum 1, vnum 1]
def valF : Val := .mk 2 0 [vnum 0, vnum 0]
def valG : Val := .mk 4 0 [vnum 5]
def valH : Val := .mk 3 0 [vnum 0]
def valI : Val := .mk 1 1 []
abbrev codeG : List Nat := [129, 4, 128, 129, 1, 128, 129, 5, 128]
theorem zA1 : (zeroV exP tyA).1 = valF := by kernel_rfl
theorem zA2 : (zeroV exP tyA).2.1 = 0 := by kernel_rfl
theorem zB1 : (zeroV exP tyB).1 = valH := by kernel_rfl
theorem zB2 : (zeroV exP tyB).2.1 = 0 := by kernel_rfl
theorem dG1 : (decV codeG).1 = valG := by kernel_rfl
theorem dG2 : (decV codeG).2.1 = 9 := by kernel_rfl
theorem dG3 : (decV codeG).2.2 = 0 := by kernel_rfl
theorem dB1 : theDef exP (idK 2) = dShape := by kernel_rfl
theorem dB2 : decide (hasDef exP (idK 2)) = true := by kernel_rfl
theorem vB : decide (validT exP tyB) = true := by kernel_rfl
theorem vC : decide (validT exP tyC) = false := by kernel_rfl
theorem sBB : decide (tyB = tyB) = true := by simp
theorem sBA : decide (tyB = tyA) = false := by simp [tyA, tyB, ofT, idK]
theorem c1 : cmpV (vnum 2) valI = -1 := by kernel_rfl
theorem c2 : cmpV valD valE = -1 := by kernel_rfl
theorem c3 : cmpV valE valD = 1 := by kernel_rfl
theorem eA : decide (cmpV valF valF = 0) = true := by kernel_rfl
theorem eB : decide (cmpV valH valH = 0) = true := by kernel_rfl
theorem wA : decide (validV exP tyB valA) = true := by kernel_rfl
theorem wB : decide (validV exP tyB valB) = false := by kernel_rfl
theorem sA : valA.size = 4 := by kernel_rfl
theorem encI_0 : encI 0 = [128] := by rw [encI, show nd (mag 0) = 0 from nd_eq (by decide) (by decide)]; rfl
theorem encI_1 : encI 1 = [129, 1] := by rw [encI, show nd (mag 1) = 1 from nd_eq (by decide) (by decide)]; rfl
theorem encI_4 : encI 4 = [129, 4] := by rw [encI, show nd (mag 4) = 1 from nd_eq (by decide) (by decide)]; rfl
theorem encI_5 : encI 5 = [129, 5] := by rw [encI, show nd (mag 5) = 1 from nd_eq (by decide) (by decide)]; rfl
theorem encG : encV valG = codeG := by
  simp only [valG, vnum, encV, encVs, List.length_cons, List.length_nil]
  simp [encI_0, encI_1, encI_4, encI_5]

/-! ### The cells of the examples -/
abbrev nvs (n : Int) : List Value := [vint 0, vint n, .slice none 0 0]
theorem leaf_rd {M : Mem} (k n : Int) : RdL M (Val.mk k n []).enc [vint k, vint n, .slice none 0 0] := by
  rw [Val.enc_eq]
  exact RdL.cons (Rd.i _) (RdL.cons (Rd.i _) (RdL.cons Rd.nilS (RdL.nil _)))
theorem node_rd {M : Mem} (k n : Int) (l : List Val) {u : Value} (h : Rd M (.sl l.length 3 (l.flatMap Val.enc)) u) : RdL M (Val.mk k n l).enc [vint k, vint n, u] := by
  rw [Val.enc_eq]
  exact RdL.cons (Rd.i _) (RdL.cons (Rd.i _) (RdL.cons h (RdL.nil _)))
theorem kids1 {M : Mem} {v : Val} {us : List Value} (h : RdL M v.enc us) : RdL M ([v].flatMap Val.enc) us := by simpa using h
theorem kids2 {M : Mem} {v w : Val} {us xs : List Value} (h : RdL M v.enc us) (k : RdL M w.enc xs) : RdL M ([v, w].flatMap Val.enc) (us ++ xs) := by simpa using h.append k
theorem ty_rd {M : Mem} (i : IdT) : RdL M (ofT i).enc [vint 3, vint i.shop, vint i.seq, vint i.index, .slice none 0 0] := by
  rw [Ty.enc_eq]
  exact RdL.cons (Rd.i _) (RdL.cons (Rd.i _) (RdL.cons (Rd.i _) (RdL.cons (Rd.i _) (RdL.cons Rd.nilS (RdL.nil _)))))
theorem InI_small {n : Int} (h : -1000 ≤ n ∧ n ≤ 1000) : InI n := by unfold InI; omega
theorem okN (n : Int) (h : -1000 ≤ n ∧ n ≤ 1000) : (vnum n).Ok := .mk (InI_small (show -1000 ≤ (0 : Int) ∧ (0 : Int) ≤ 1000 by decide)) (InI_small h) (by simp [vnum, Val.kids])
theorem okP : valP.Ok := .mk (InI_small (by decide)) (InI_small (by decide)) (by
  intro k hk
  simp only [valP, Val.kids, List.mem_cons, List.not_mem_nil, or_false] at hk
  rcases hk with rfl | rfl <;> exact okN _ (by decide))
theorem okA : valA.Ok := .mk (InI_small (by decide)) (InI_small (by decide)) (by
  intro k hk
  simp only [valA, Val.kids, List.mem_cons, List.not_mem_nil, or_false] at hk
  rcases hk with rfl
  exact okP)
theorem okC : valC.Ok := .mk (InI_small (by decide)) (InI_small (by decide)) (by
  intro k hk
  simp only [valC, Val.kids, List.mem_cons, List.not_mem_nil, or_false] at hk
  rcases hk with rfl | rfl <;> exact okN _ (by decide))
theorem okG : valG.Ok := .mk (InI_small (by decide)) (InI_small (by decide)) (by
  intro k hk
  simp only [valG, Val.kids, List.mem_cons, List.not_mem_nil, or_false] at hk
  rcases hk with rfl
  exact okN _ (by decide))
theorem wtA : w64 valA.wt = 4 := by kernel_rfl
theorem wtC : w64 valC.wt = 5 := by kernel_rfl
theorem szA : w64 (valA.size : Nat) = 4 := by kernel_rfl
theorem fill9s {v0 v1 v2 v3 v4 v5 v6 v7 v8 : Value} (h0 : cellsL v0 = [v0]) (h1 : cellsL v1 = [v1]) (h2 : cellsL v2 = [v2]) (h3 : cellsL v3 = [v3]) (h4 : cellsL v4 = [v4]) (h5 : cellsL v5 = [v5]) (h6 : cellsL v6 = [v6]) (h7 : cellsL v7 = [v7]) (h8 : cellsL v8 = [v8]) :
    ∀ zs : List Value, zs.length = 9 * 1 → fillL (fun i => some (i * 1, 1)) zs ([(0, v0), (1, v1), (2, v2), (3, v3), (4, v4), (5, v5), (6, v6), (7, v7), (8, v8)].map fun p => (p.1, cellsL p.2)) = some [v0, v1, v2, v3, v4, v5, v6, v7, v8] := fun zs hz => by
  match zs, hz with
  | [a, b, c, d, e, f, g, h, i], _ => simp [fillL, splice, h0, h1, h2, h3, h4, h5, h6, h7, h8]
end Xe
