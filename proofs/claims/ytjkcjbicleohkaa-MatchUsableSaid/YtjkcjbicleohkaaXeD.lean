/-
  THE ENGINE, PART D: the quiet operations, one lemma each. No program in sight.
-/
import Derived.Test.YtjkcjbicleohkaaXeC
namespace Xe
open Go

/-! ### Facts on types, as closed words -/

def flatB (P : Program) (t : TypeId) : Bool := match P.underlying t with
  | some (.struct _) => false
  | some (.array ..) => false
  | none => false
  | _ => true
def aggB (P : Program) (t : TypeId) (sz : Nat) : Bool := (match P.underlying t with
  | some (.struct _) => true
  | some (.array ..) => true
  | _ => false) && (match P.info? t with
  | some i => Nat.beq i.size sz
  | none => false)
def sizeB (P : Program) (t : TypeId) (sz : Nat) : Bool := match P.info? t with
  | some i => Nat.beq i.size sz
  | none => false
def sliceB (P : Program) (t e sz : Nat) : Bool := (match P.underlying t with
  | some (.slice e') => Nat.beq e' e
  | _ => false) && sizeB P e sz
def fieldB (P : Program) (s i off : Nat) : Bool := match P.underlying s with
  | some (.struct fs) => match fs[i]? with
    | some f => Nat.beq f.offset off && (match P.info? f.type with
      | some j => Nat.blt 0 j.size
      | none => false)
    | none => false
  | _ => false
def funcB (P : Program) (f : FuncId) : Bool := match P.funcs[f]? with
  | some fn => !(fn.name == "runtime.NumGoroutine") && fn.body.isSome
  | none => false

section
variable {P : Program} {w : World}
theorem run_flat {t : TypeId} (h : flatB P t = true) : (isAgg t).run P w = .ok false w := by
  unfold flatB at h
  unfold isAgg
  cases hu : P.underlying t with
  | none => simp [hu] at h
  | some d =>
    simp only [Sem.run_bind, run_underlying hu, Result.andThen_ok]
    cases d <;> first | rfl | simp [hu] at h
theorem run_aggB {t : TypeId} {sz : Nat} (h : aggB P t sz = true) : (isAgg t).run P w = .ok true w ∧ (Go.sizeOf t).run P w = .ok sz w := by
  unfold aggB at h
  simp only [Bool.and_eq_true] at h
  obtain ⟨h1, h2⟩ := h
  constructor
  · unfold isAgg
    cases hu : P.underlying t with
    | none => simp [hu] at h1
    | some d =>
      simp only [Sem.run_bind, run_underlying hu, Result.andThen_ok]
      cases d <;> first | rfl | simp [hu] at h1
  · cases hi : P.info? t with
    | none => simp [hi] at h2
    | some i =>
      rw [hi] at h2
      have := Nat.eq_of_beq_eq_true h2
      simp [Go.sizeOf, typeInfo, hi, this]
theorem run_sizeB {t : TypeId} {sz : Nat} (h : sizeB P t sz = true) : (Go.sizeOf t).run P w = .ok sz w := by
  unfold sizeB at h
  cases hi : P.info? t with
  | none => simp [hi] at h
  | some i =>
    rw [hi] at h
    have := Nat.eq_of_beq_eq_true h
    simp [Go.sizeOf, typeInfo, hi, this]
theorem sliceB_spec {t e sz : Nat} (h : sliceB P t e sz = true) : P.underlying t = some (.slice e) ∧ sizeB P e sz = true := by
  unfold sliceB at h
  simp only [Bool.and_eq_true] at h
  obtain ⟨h1, h2⟩ := h
  refine ⟨?_, h2⟩
  cases hu : P.underlying t with
  | none => simp [hu] at h1
  | some d =>
    rw [hu] at h1
    cases d <;> first | (have := Nat.eq_of_beq_eq_true h1; subst this; rfl) | simp at h1
theorem run_fieldB {s i off : Nat} (h : fieldB P s i off = true) (x : Addr) : (Instr.fieldAt s (.pointer (some x)) i).run P w = .ok (.pointer (some (x.add off))) w := by
  unfold fieldB at h
  unfold Instr.fieldAt
  cases hu : P.underlying s with
  | none => simp [hu] at h
  | some d =>
    rw [hu] at h
    cases d with
    | struct fs =>
      simp only [] at h
      cases hf : fs[i]? with
      | none => simp [hf] at h
      | some f =>
        rw [hf] at h
        simp only [Bool.and_eq_true] at h
        obtain ⟨h1, h2⟩ := h
        have h1 := Nat.eq_of_beq_eq_true h1
        cases hi : P.info? f.type with
        | none => simp [hi] at h2
        | some j =>
          rw [hi] at h2
          have h2 : 0 < j.size := by simpa [Nat.blt_eq] using h2
          have h3 : j.size ≠ 0 := by omega
          simp [run_underlying hu, hf, Instr.sureAddr, fieldPlace, Go.sizeOf, typeInfo, hi, h3, h1]
    | _ => simp at h
end

/-! ### The lemmas -/
section
variable {P : Program} {w0 : World} {L : Lm} {M : Mem} {Γ : List As} {d : Option Nat} {ty : TypeId} {pos : String} {af : Array Edge} {g : Option (Nat × Bool)}

namespace Y
theorem move {x : Operand} {v : Value} (h : evL L x = some v) : Yq P w0 L M Γ ⟨d, .move x, ty, pos, af, g⟩ v := fun n a w ha _ => by
  simp [execOp, ha.ev h]
theorem assign {x : Operand} {v : Value} (h : evL L x = some v) : Yq P w0 L M Γ ⟨d, .assign x, ty, pos, af, g⟩ v := fun n a w ha _ => by
  simp [execOp, ha.ev h]
theorem pick {c x y : Operand} {b : Bool} {u v : Value} (hc : evL L c = some (.bool b)) (hx : evL L x = some u) (hy : evL L y = some v) : Yq P w0 L M Γ ⟨d, .pick c x y, ty, pos, af, g⟩ (if b then u else v) := fun n a w ha _ => by
  simp [execOp, ha.ev hc, ha.ev hx, ha.ev hy, asBool]
theorem pickT {c x y : Operand} {u : Value} (hc : evL L c = some (.bool true)) (hx : evL L x = some u) : Yq P w0 L M Γ ⟨d, .pick c x y, ty, pos, af, g⟩ u := fun n a w ha _ => by
  simp [execOp, ha.ev hc, ha.ev hx, asBool]
theorem pickF {c x y : Operand} {v : Value} (hc : evL L c = some (.bool false)) (hy : evL L y = some v) : Yq P w0 L M Γ ⟨d, .pick c x y, ty, pos, af, g⟩ v := fun n a w ha _ => by
  simp [execOp, ha.ev hc, ha.ev hy, asBool]

theorem wrap_in {z : Int} (h : -9223372036854775808 ≤ z ∧ z ≤ 9223372036854775807) : IntKind.i64.wrap z = z := IntWalk.i64_in z h

theorem add {x y : Operand} {m k : Int} {t : TypeId} (hx : evL L x = some (.int .i64 m)) (hy : evL L y = some (.int .i64 k)) (hb : -9223372036854775808 ≤ m + k ∧ m + k ≤ 9223372036854775807) :
    Yq P w0 L M Γ ⟨d, .binOp .add t x y t, ty, pos, af, g⟩ (.int .i64 (m + k)) := fun n a w ha _ => by
  simp [execOp, ha.ev hx, ha.ev hy, eqGuard, Go.binOp, Op.intArith, wrap_in hb]
theorem sub {x y : Operand} {m k : Int} {t : TypeId} (hx : evL L x = some (.int .i64 m)) (hy : evL L y = some (.int .i64 k)) (hb : -9223372036854775808 ≤ m - k ∧ m - k ≤ 9223372036854775807) :
    Yq P w0 L M Γ ⟨d, .binOp .sub t x y t, ty, pos, af, g⟩ (.int .i64 (m - k)) := fun n a w ha _ => by
  simp [execOp, ha.ev hx, ha.ev hy, eqGuard, Go.binOp, Op.intArith, wrap_in hb]
theorem mul {x y : Operand} {m k : Int} {t : TypeId} (hx : evL L x = some (.int .i64 m)) (hy : evL L y = some (.int .i64 k)) (hb : -9223372036854775808 ≤ m * k ∧ m * k ≤ 9223372036854775807) :
    Yq P w0 L M Γ ⟨d, .binOp .mul t x y t, ty, pos, af, g⟩ (.int .i64 (m * k)) := fun n a w ha _ => by
  simp [execOp, ha.ev hx, ha.ev hy, eqGuard, Go.binOp, Op.intArith, wrap_in hb]
theorem quo {x y : Operand} {m k : Int} {t : TypeId} (hx : evL L x = some (.int .i64 m)) (hy : evL L y = some (.int .i64 k)) (h0 : k ≠ 0) (hb : -9223372036854775808 ≤ m.tdiv k ∧ m.tdiv k ≤ 9223372036854775807) :
    Yq P w0 L M Γ ⟨d, .binOp .quo t x y t, ty, pos, af, g⟩ (.int .i64 (m.tdiv k)) := fun n a w ha _ => by
  simp [execOp, ha.ev hx, ha.ev hy, eqGuard, Go.binOp, Op.intDiv, h0, wrap_in hb]
theorem rem {x y : Operand} {m k : Int} {t : TypeId} (hx : evL L x = some (.int .i64 m)) (hy : evL L y = some (.int .i64 k)) (h0 : k ≠ 0) :
    Yq P w0 L M Γ ⟨d, .binOp .rem t x y t, ty, pos, af, g⟩ (.int .i64 (m.tmod k)) := fun n a w ha _ => by
  simp [execOp, ha.ev hx, ha.ev hy, eqGuard, Go.binOp, Op.intDiv, h0]
theorem lss {x y : Operand} {m k : Int} {t : TypeId} (hx : evL L x = some (.int .i64 m)) (hy : evL L y = some (.int .i64 k)) :
    Yq P w0 L M Γ ⟨d, .binOp .lss t x y t, ty, pos, af, g⟩ (.bool (decide (m < k))) := fun n a w ha _ => by
  simp [execOp, ha.ev hx, ha.ev hy, eqGuard, Go.binOp, Op.intCmp]
theorem leq {x y : Operand} {m k : Int} {t : TypeId} (hx : evL L x = some (.int .i64 m)) (hy : evL L y = some (.int .i64 k)) :
    Yq P w0 L M Γ ⟨d, .binOp .leq t x y t, ty, pos, af, g⟩ (.bool (decide (m ≤ k))) := fun n a w ha _ => by
  simp [execOp, ha.ev hx, ha.ev hy, eqGuard, Go.binOp, Op.intCmp]
theorem gtr {x y : Operand} {m k : Int} {t : TypeId} (hx : evL L x = some (.int .i64 m)) (hy : evL L y = some (.int .i64 k)) :
    Yq P w0 L M Γ ⟨d, .binOp .gtr t x y t, ty, pos, af, g⟩ (.bool (decide (k < m))) := fun n a w ha _ => by
  simp [execOp, ha.ev hx, ha.ev hy, eqGuard, Go.binOp, Op.intCmp]
theorem geq {x y : Operand} {m k : Int} {t : TypeId} (hx : evL L x = some (.int .i64 m)) (hy : evL L y = some (.int .i64 k)) :
    Yq P w0 L M Γ ⟨d, .binOp .geq t x y t, ty, pos, af, g⟩ (.bool (decide (k ≤ m))) := fun n a w ha _ => by
  simp [execOp, ha.ev hx, ha.ev hy, eqGuard, Go.binOp, Op.intCmp]
theorem eql {x y : Operand} {m k : Int} {t : TypeId} (hx : evL L x = some (.int .i64 m)) (hy : evL L y = some (.int .i64 k)) :
    Yq P w0 L M Γ ⟨d, .binOp .eql t x y t, ty, pos, af, g⟩ (.bool (decide (m = k))) := fun n a w ha _ => by
  simp [execOp, ha.ev hx, ha.ev hy, eqGuard, Go.binOp, Op.intCmp]
  by_cases h : m = k <;> simp [h]
theorem neq {x y : Operand} {m k : Int} {t : TypeId} (hx : evL L x = some (.int .i64 m)) (hy : evL L y = some (.int .i64 k)) :
    Yq P w0 L M Γ ⟨d, .binOp .neq t x y t, ty, pos, af, g⟩ (.bool (decide (m ≠ k))) := fun n a w ha _ => by
  simp [execOp, ha.ev hx, ha.ev hy, eqGuard, Go.binOp, Op.intCmp]
  by_cases h : m = k <;> simp [h]
theorem neg {x : Operand} {m : Int} {t : TypeId} (hx : evL L x = some (.int .i64 m)) (hb : -9223372036854775808 ≤ -m ∧ -m ≤ 9223372036854775807) :
    Yq P w0 L M Γ ⟨d, .unOp .neg t x, ty, pos, af, g⟩ (.int .i64 (-m)) := fun n a w ha _ => by
  have hb' : -9223372036854775808 ≤ 0 - m ∧ 0 - m ≤ 9223372036854775807 := by omega
  simp only [execOp, ha.ev hx, Op.unary, Op.intArith, wrap_in hb']
  simp
theorem not {x : Operand} {b : Bool} {t : TypeId} (hx : evL L x = some (.bool b)) :
    Yq P w0 L M Γ ⟨d, .unOp .not t x, ty, pos, af, g⟩ (.bool (!b)) := fun n a w ha _ => by
  simp [execOp, ha.ev hx, Op.unary]
/-- .. of a test. -/
theorem notD {x : Operand} {p : Prop} [Decidable p] {t : TypeId} (hx : evL L x = some (.bool (decide p))) :
    Yq P w0 L M Γ ⟨d, .unOp .not t x, ty, pos, af, g⟩ (.bool (decide (¬ p))) := fun n a w ha _ => by
  simp [execOp, ha.ev hx, Op.unary]
theorem extract {x : Operand} {vs : List Value} {i : Nat} {v : Value} (hx : evL L x = some (.tuple vs.toArray)) (hi : vs[i]? = some v) :
    Yq P w0 L M Γ ⟨d, .extract x i, ty, pos, af, g⟩ v := fun n a w ha _ => by
  simp [execOp, ha.ev hx, Instr.extract, hi]

theorem len {x : Operand} {t : TypeId} {a : Option Addr} {k c : Nat} {e : Nat} (hx : evL L x = some (.slice a k c)) (ht : P.underlying t = some (.slice e)) :
    Yq P w0 L M Γ ⟨d, .call ⟨.builtin .len, #[x], #[t]⟩, ty, pos, af, g⟩ (.int .i64 (k : Int)) := fun n a w ha _ => by
  simp [execOp, resolve, invoke, Go.builtin, Builtin.len_, ha.ev hx, run_underlying ht, goInt]
theorem min2 {x y : Operand} {m k : Int} {ts : Array TypeId} (hx : evL L x = some (.int .i64 m)) (hy : evL L y = some (.int .i64 k)) :
    Yq P w0 L M Γ ⟨d, .call ⟨.builtin .min, #[x, y], ts⟩, ty, pos, af, g⟩ (.int .i64 (min m k)) := fun n a w ha _ => by
  simp [execOp, resolve, invoke, Go.builtin, Builtin.min_, Builtin.min2, ha.ev hx, ha.ev hy]
  omega
theorem max2 {x y : Operand} {m k : Int} {ts : Array TypeId} (hx : evL L x = some (.int .i64 m)) (hy : evL L y = some (.int .i64 k)) :
    Yq P w0 L M Γ ⟨d, .call ⟨.builtin .max, #[x, y], ts⟩, ty, pos, af, g⟩ (.int .i64 (max m k)) := fun n a w ha _ => by
  simp [execOp, resolve, invoke, Go.builtin, Builtin.max_, Builtin.max2, ha.ev hx, ha.ev hy]
  omega

/-- The address of an element of a slice that is no nil. -/
theorem index {x i : Operand} {t e sz : Nat} {a : Option Addr} {l c : Nat} {ik : IntKind} {z : Int} (k : Nat) (hx : evL L x = some (.slice a l c)) (hi : evL L i = some (.int ik z)) (hz : z = (k : Int)) (hk : k < l)
    (ht : sliceB P t e sz = true) (hs : ∀ w, St w0 M Γ w → a.isSome = true) :
    Yq P w0 L M Γ ⟨d, .indexAddr t x i, ty, pos, af, g⟩ (.pointer (some (adr a (k * sz)))) := fun n ac w ha hw => by
  obtain ⟨b, rfl⟩ := Option.isSome_iff_exists.1 (hs w hw)
  subst hz
  obtain ⟨h1, h2⟩ := sliceB_spec ht
  simp [execOp, ha.ev hx, ha.ev hi, Instr.indexAt, asIntOf, run_underlying h1, run_sizeB h2, hk, adr]
theorem field {x : Operand} {s i off : Nat} {a : Option Addr} {q : Nat} (hx : evL L x = some (.pointer (some (adr a q)))) (hf : fieldB P s i off = true) :
    Yq P w0 L M Γ ⟨d, .fieldAddr s x i, ty, pos, af, g⟩ (.pointer (some (adr a (q + off)))) := fun n ac w ha _ => by
  simp [execOp, ha.ev hx, run_fieldB hf, adr_add]

/-- A cell that is known in every such state. -/
theorem load {x : Operand} {t : TypeId} {p : Addr} {v : Value} (hx : evL L x = some (.pointer (some p))) (hf : flatB P t = true) (hc : ∀ w, St w0 M Γ w → w.cell? p = some v) :
    Yq P w0 L M Γ ⟨d, .load t x, ty, pos, af, g⟩ v := fun n a w ha hw => by
  simp [execOp, ha.ev hx, Instr.loadAt, Instr.sureAddr, loadVar, run_flat hf, hc w hw]
theorem run_loadCellsFrom {w : World} {p : Addr} : ∀ (vs : List Value) (i : Nat) (acc : Array Value), (∀ j v, vs[j]? = some v → w.cell? (p.add (i + j)) = some v) →
    (loadCellsFrom p i vs.length acc).run P w = .ok (acc ++ vs.toArray) w
  | [], i, acc, _ => by simp [loadCellsFrom]
  | v :: vs, i, acc, h => by
    have h0 : w.cell? (p.add i) = some v := by simpa using h 0 v rfl
    have ih := run_loadCellsFrom (w := w) (p := p) vs (i + 1) (acc.push v) fun j u hj => by
      have := h (j + 1) u (by simpa using hj)
      rwa [show i + 1 + j = i + (j + 1) from by omega]
    simp only [List.length_cons, loadCellsFrom, Sem.run_bind, run_load, h0, Result.andThen_ok, ih]
    simp
/-- A struct, an array. -/
theorem loadAgg {x : Operand} {t : TypeId} {p : Addr} {vs : List Value} (hx : evL L x = some (.pointer (some p))) (hf : aggB P t vs.length = true) (hc : ∀ w, St w0 M Γ w → ∀ j v, vs[j]? = some v → w.cell? (p.add j) = some v) :
    Yq P w0 L M Γ ⟨d, .load t x, ty, pos, af, g⟩ (.agg vs.toArray) := fun n a w ha hw => by
  obtain ⟨h1, h2⟩ := run_aggB (P := P) (w := w) hf
  have h3 := run_loadCellsFrom (P := P) (w := w) (p := p) vs 0 #[] (by simpa using hc w hw)
  simp [execOp, ha.ev hx, Instr.loadAt, Instr.sureAddr, loadVar, h1, h2, loadCells, h3]
end Y
end

/-! ### Cells of what is owned, of what is sealed -/
theorem St.own_cell {w0 w : World} {M : Mem} {Γ : List As} (h : St w0 M Γ w) {b : Nat} {e : TypeId} {cs : List Value} (hm : As.own b e cs ∈ Γ) {q : Nat} {v : Value} (hq : cs[q]? = some v) :
    w.cell? (adr (some ⟨b, 0, none⟩) q) = some v := by
  have := (h.all _ hm).2
  rw [adr_some]
  simp [World.cell?, this, hq]
theorem St.rd_cell {w0 w : World} {M : Mem} {Γ : List As} (h : St w0 M Γ w) {n sz : Nat} {cs : List D} {a : Option Addr} {l c : Nat} (hm : As.rd (.sl n sz cs) (.slice a l c) ∈ Γ) {q : Nat} {e : D} (hq : cs[q]? = some e) :
    ∃ u, cellM M (adr a q) = some u ∧ Rd M e u := by
  have := h.rd hm
  simp only [Rd] at this
  obtain ⟨a', cap, h1, h2, h3, h4, h5, h6, h7⟩ := this
  simp only [Value.slice.injEq] at h1
  obtain ⟨rfl, rfl, rfl⟩ := h1
  simpa using RdC.get cs 0 h7 q e hq
theorem St.rd_some {w0 w : World} {M : Mem} {Γ : List As} (h : St w0 M Γ w) {n sz : Nat} {cs : List D} {a : Option Addr} {l c : Nat} (hm : As.rd (.sl n sz cs) (.slice a l c) ∈ Γ) (hn : 0 < l) : a.isSome = true := by
  have := h.rd hm
  simp only [Rd] at this
  obtain ⟨a', cap, h1, h2, h3, h4, h5, h6, h7⟩ := this
  simp only [Value.slice.injEq] at h1
  obtain ⟨rfl, rfl, rfl⟩ := h1
  exact h6 hn

end Xe
