/- THE NODES OF THE PROGRAM, plain. No program in sight. -/
import Derived.Test.YtjkcjbicleohkaaDp
namespace Xe
open Go
mutual
def mvisit (ids : List IdT) (l : List MNode) : Ex → Nat → Option (List IdT × List MNode)
  | .mk i k n r t kids s, lev => if 24 < lev ∨ i ∈ ids ∨ 128 ≤ ids.length then none else
    match mvisits (ids ++ [i]) l kids (lev + 1) with
    | none => none
    | some p => some (p.1, p.2 ++ [⟨.mk i k n r t kids s, l.length⟩])
def mvisits (ids : List IdT) (l : List MNode) : List Ex → Nat → Option (List IdT × List MNode)
  | [], _ => some (ids, l)
  | e :: es, lev => match mvisit ids l e lev with
    | none => none
    | some p => mvisits p.1 p.2 es lev
end
theorem mvisit_eq (ids : List IdT) (l : List MNode) (e : Ex) (lev : Nat) : mvisit ids l e lev = if 24 < lev ∨ e.id ∈ ids ∨ 128 ≤ ids.length then none else
    (mvisits (ids ++ [e.id]) l e.kids (lev + 1)).map fun p => (p.1, p.2 ++ [⟨e, l.length⟩]) := by
  cases e with
  | mk i k n r t kids s =>
    rw [mvisit]
    by_cases hc : 24 < lev ∨ i ∈ ids ∨ 128 ≤ ids.length
    · rw [if_pos hc]; exact (if_pos hc).symm
    · rw [if_neg hc]
      refine Eq.trans ?_ (if_neg hc).symm
      show _ = Option.map _ (mvisits (ids ++ [i]) l kids (lev + 1))
      cases mvisits (ids ++ [i]) l kids (lev + 1) <;> rfl
abbrev idv (i : IdT) : Value := .agg i.vals.toArray
def met (ids : List IdT) : List (IdT × Value) := ids.map fun i => (i, .bool true)
theorem findK_met (k : IdT) : ∀ ids : List IdT, findK k (met ids) = if k ∈ ids then some (.bool true) else none
  | [] => by simp [met, findK]
  | i :: ids => by
    have := findK_met k ids
    simp only [met] at this
    by_cases h : k = i
    · subst h; simp [met, findK]
    · simp [met, findK, h, this]
theorem met_snoc (ids : List IdT) (i : IdT) : met ids ++ [(i, .bool true)] = met (ids ++ [i]) := by simp [met]
theorem met_len (ids : List IdT) : (met ids).length = ids.length := by simp [met]
theorem MNode.rd {M : Mem} {x : MNode} {us : List Value} (h : RdL M x.e.enc us) : RdL M x.enc (us ++ [vint x.first]) :=
  h.append (RdL.vals (vs := [vint x.first]) (by simp [Value.oneCell']))
def placesL : List MNode → Nat → List (IdT × Value)
  | [], _ => []
  | x :: xs, i => (x.e.id, vint i) :: placesL xs (i + 1)
theorem placesL_snoc (l : List MNode) (x : MNode) (i : Nat) : placesL (l ++ [x]) i = placesL l i ++ [(x.e.id, vint ((i + l.length : Nat) : Int))] := by
  induction l generalizing i with
  | nil => simp [placesL]
  | cons y ys ih => simp only [List.cons_append, placesL, ih, List.length_cons]; congr 5; omega
theorem findK_places (k : IdT) : ∀ (l : List MNode) (i : Nat), (∀ x ∈ l, x.e.id ≠ k) → findK k (placesL l i) = none
  | [], _, _ => rfl
  | x :: xs, i, h => by
    have h1 := h x (List.mem_cons_self ..)
    simp only [placesL, findK]
    rw [if_neg (fun e => h1 e.symm)]
    exact findK_places k xs (i + 1) fun y hy => h y (List.mem_cons_of_mem _ hy)
theorem findK_places_hit {k : IdT} : ∀ {l : List MNode} {j : Nat} (i : Nat) (hj : j < l.length), l[j].e.id = k → (∀ j' (h : j' < j), (l[j']'(by omega)).e.id ≠ k) → findK k (placesL l i) = some (vint ((i + j : Nat) : Int))
  | [], j, i, hj, _, _ => by simp at hj
  | x :: xs, 0, i, _, h, _ => by simp only [List.getElem_cons_zero] at h; simp [placesL, findK, h]
  | x :: xs, j + 1, i, hj, h, h2 => by
    have h0 := h2 0 (by omega)
    simp only [List.getElem_cons_zero] at h0
    simp only [placesL, findK]
    rw [if_neg (fun e => h0 e.symm), findK_places_hit (i + 1) (by simpa using hj) (by simpa using h) (fun j' h' => by simpa using h2 (j' + 1) (by omega))]
    congr 3; omega
theorem Y.lookMet {P : Program} {w0 : World} {L : Lm} {M : Mem} {Γ : List As} {d : Option Nat} {ty : TypeId} {pos : String} {af : Array Edge} {g : Option (Nat × Bool)} {x y : Operand} {t kt e b : Nat} {ids : List IdT} {k : IdT} (hx : evL L x = some (.map (some b))) (hy : evL L y = some (idv k)) (hK : KeyOk P kt idv) (ht : mapB P t kt e = true) (hz : zeroB P e = some (.bool false)) (hm : As.mp b (kvs idv (met ids)) ∈ Γ) :
    Yq P w0 L M Γ ⟨d, .lookup t x y false, ty, pos, af, g⟩ (.bool (decide (k ∈ ids))) := by
  have h := Y.lookup (d := d) (ty := ty) (pos := pos) (af := af) (g := g) (w0 := w0) (M := M) hx hy hK ht hz hm
  have e : (findK k (met ids)).getD (.bool false) = .bool (decide (k ∈ ids)) := by
    rw [findK_met]
    by_cases h : k ∈ ids <;> simp [h]
  rwa [e] at h
/-- The place of a node. -/
def plc (l : List MNode) (id : IdT) : Option Nat := l.findIdx? (fun x => decide (x.e.id = id))
theorem findK_plc (k : IdT) : ∀ (l : List MNode) (i : Nat), findK k (placesL l i) = (plc l k).map fun j => vint ((i + j : Nat) : Int)
  | [], _ => rfl
  | x :: xs, i => by
    have ih := findK_plc k xs (i + 1)
    simp only [plc] at ih
    simp only [placesL, findK, plc, List.findIdx?_cons]
    by_cases h : k = x.e.id
    · rw [if_pos h, decide_eq_true h.symm]; rfl
    · rw [if_neg h, decide_eq_false (fun e => h e.symm), ih]
      simp only [Bool.false_eq_true, if_false, Option.map_map]
      congr 1
      funext j
      simp only [Function.comp]
      congr 2
      omega
def plcZ (l : List MNode) (id : IdT) : Nat := (plc l id).getD 0
theorem Y.lookPlc {P : Program} {w0 : World} {L : Lm} {M : Mem} {Γ : List As} {d : Option Nat} {ty : TypeId} {pos : String} {af : Array Edge} {g : Option (Nat × Bool)} {x y : Operand} {t kt e b : Nat} {l : List MNode} {k : IdT} (hx : evL L x = some (.map (some b))) (hy : evL L y = some (idv k)) (hK : KeyOk P kt idv) (ht : mapB P t kt e = true) (hz : zeroB P e = some (vint 0)) (hm : As.mp b (kvs idv (placesL l 0)) ∈ Γ) :
    Yq P w0 L M Γ ⟨d, .lookup t x y true, ty, pos, af, g⟩ (.tuple [vint (plcZ l k), .bool (decide (plc l k ≠ none))].toArray) := by
  have h := Y.lookup2 (d := d) (ty := ty) (pos := pos) (af := af) (g := g) (w0 := w0) (M := M) hx hy hK ht hz hm
  rw [findK_plc] at h
  unfold plcZ
  cases hp : plc l k with
  | none => rw [hp] at h; simpa using h
  | some j => rw [hp] at h; simpa using h
theorem plc_lt {l : List MNode} {id : IdT} {j : Nat} (h : plc l id = some j) : ∃ hj : j < l.length, l[j].e.id = id := by
  unfold plc at h
  rw [List.findIdx?_eq_some_iff_getElem] at h
  obtain ⟨hj, h1, _⟩ := h
  exact ⟨hj, by simpa using h1⟩
theorem plcZ_lt {l : List MNode} {id : IdT} (h : plc l id ≠ none) : plcZ l id < l.length ∧ plc l id = some (plcZ l id) := by
  cases hp : plc l id with
  | none => exact absurd hp h
  | some j => obtain ⟨hj, _⟩ := plc_lt hp; simp [plcZ, hp, hj]

/-- Two pairs of nodes go together. -/
def compat (a b : List MNode) (p q : Nat × Nat) : Prop :=
  (p.1 ≠ q.1 ∧ p.2 ≠ q.2 ∧ (p.1 < q.1 ↔ p.2 < q.2)) ∧ ((fstAt a q.1 ≤ p.1 ∧ p.1 < q.1) ↔ (fstAt b q.2 ≤ p.2 ∧ p.2 < q.2)) ∧ ((fstAt a p.1 ≤ q.1 ∧ q.1 < p.1) ↔ (fstAt b p.2 ≤ q.2 ∧ q.2 < p.2))
instance (a b : List MNode) (p q : Nat × Nat) : Decidable (compat a b p q) := by unfold compat; exact inferInstance
def chg (a b : List MNode) (p : Nat × Nat) : Int := if (exAt a p.1).like (exAt b p.2) then 0 else 1
def costGo (a b : List MNode) (done : List (Nat × Nat)) (n : Int) : List PairD → Option Int
  | [] => some n
  | p :: ps => if plc a p.frm ≠ none ∧ plc b p.to ≠ none ∧ ∀ q ∈ done, compat a b (plcZ a p.frm, plcZ b p.to) q then costGo a b (done ++ [(plcZ a p.frm, plcZ b p.to)]) (n + chg a b (plcZ a p.frm, plcZ b p.to)) ps else none
def mcost (a b : List MNode) (l : List PairD) : Int := (costGo a b [] ((a.length : Int) + b.length - 2 * l.length) l).getD (-1)
def i2 (p : Nat × Nat) : List D := [dint p.1, dint p.2]
def i2v (p : Nat × Nat) : List Value := [vint p.1, vint p.2]
theorem i2_get : ∀ (l : List (Nat × Nat)) (q j : Nat) (hq : q < l.length) (v : Value), (i2v l[q])[j]? = some v → (l.flatMap i2v)[q * 2 + j]? = some v
  | x :: xs, 0, j, _, v, h => by
    have hj : j < (i2v x).length := by
      rcases Nat.lt_or_ge j (i2v x).length with h1 | h1
      · exact h1
      · rw [List.getElem_cons_zero, List.getElem?_eq_none h1] at h; cases h
    rw [List.flatMap_cons, Nat.zero_mul, Nat.zero_add, List.getElem?_append_left hj]
    simpa using h
  | x :: xs, q + 1, j, hq, v, h => by
    rw [List.flatMap_cons, show (q + 1) * 2 + j = 2 + (q * 2 + j) from by omega, List.getElem?_append_right (by simp [i2v])]
    have := i2_get xs q j (by simpa using hq) v (by simpa using h)
    simpa [i2v] using this
theorem i2_one (l : List (Nat × Nat)) : RdL (fun _ => none) (l.flatMap i2) (l.flatMap i2v) := by
  induction l with
  | nil => exact RdL.nil _
  | cons x xs ih => exact RdL.append (RdL.vals (vs := i2v x) (by simp [i2v, Value.oneCell'])) ih
theorem chg_01 (a b : List MNode) (p : Nat × Nat) : 0 ≤ chg a b p ∧ chg a b p ≤ 1 := by unfold chg; split <;> omega
theorem plc_R (l : List RNode) (id : IdT) : plc (l.map RNode.toM) id = l.findIdx? (fun x => decide (x.e.id = id)) := by
  rw [plc, List.findIdx?_map]; rfl
theorem numOf_neg {l : List RNode} {id : IdT} (h : numOf l id < 0) : plc (l.map RNode.toM) id = none := by
  rw [plc_R]
  unfold numOf at h
  split at h
  · omega
  · assumption
theorem numOf_pos {l : List RNode} {id : IdT} (h : ¬ numOf l id < 0) : plc (l.map RNode.toM) id ≠ none ∧ numOf l id = ((plcZ (l.map RNode.toM) id : Nat) : Int) := by
  unfold plcZ
  rw [plc_R]
  unfold numOf at h ⊢
  split at h
  · rename_i i hi; rw [hi]; simp
  · omega
theorem numOf_of {l : List RNode} {id : IdT} (h : plc (l.map RNode.toM) id ≠ none) : numOf l id = ((plcZ (l.map RNode.toM) id : Nat) : Int) := by
  by_cases h1 : numOf l id < 0
  · exact absurd (numOf_neg h1) h
  · exact (numOf_pos h1).2
def dn (a b : List MNode) (l : List PairD) : List (Nat × Nat) := l.map fun p => (plcZ a p.frm, plcZ b p.to)
/-- The reference's cost: the number, the error. -/
def rcost (e1 e2 : Ex) (l : List PairD) : Int × Int :=
  if (rnodes e1).2 = true ∧ (rnodes e2).2 = true then
    match costGo ((rnodes e1).1.map RNode.toM) ((rnodes e2).1.map RNode.toM) [] (((rnodes e1).1.length : Int) + (rnodes e2).1.length - 2 * l.length) l with
    | some n => (n, 0)
    | none => (0, 27)
  else (0, 1)
theorem rcost_no {e1 e2 : Ex} {l : List PairD} (h : ¬ ((rnodes e1).2 = true ∧ (rnodes e2).2 = true)) : rcost e1 e2 l = (0, 1) := by rw [rcost, if_neg h]
theorem rcost_none {e1 e2 : Ex} {l : List PairD} {a b : List RNode} {A B : List MNode} (ha : a = (rnodes e1).1) (hb : b = (rnodes e2).1) (hA : A = a.map RNode.toM) (hB : B = b.map RNode.toM) (h1 : (rnodes e1).2 = true) (h2 : (rnodes e2).2 = true)
    (hg : costGo A B [] ((a.length : Int) + b.length - 2 * l.length) l = none) : rcost e1 e2 l = (0, 27) := by
  subst hA hB ha hb; rw [rcost, if_pos ⟨h1, h2⟩, hg]
theorem rcost_some {e1 e2 : Ex} {l : List PairD} {a b : List RNode} {A B : List MNode} {n : Int} (ha : a = (rnodes e1).1) (hb : b = (rnodes e2).1) (hA : A = a.map RNode.toM) (hB : B = b.map RNode.toM) (h1 : (rnodes e1).2 = true) (h2 : (rnodes e2).2 = true)
    (hg : costGo A B [] ((a.length : Int) + b.length - 2 * l.length) l = some n) : rcost e1 e2 l = (n, 0) := by
  subst hA hB ha hb; rw [rcost, if_pos ⟨h1, h2⟩, hg]
theorem rnodes_len (e : Ex) : (rnodes e).1.length ≤ 156 := by
  have := rput_le [] e 1 (by omega)
  unfold rnodes
  split
  · simp only [List.length_nil] at this; show (rput [] e 1).length ≤ 156; omega
  · simp
theorem vbb (b : Bool) : Value.bool b = Value.bool (decide (b = true)) := by cases b <;> rfl
theorem dn_snoc (a b : List MNode) (l : List PairD) (k : Nat) (h : k < l.length) : dn a b (l.take (k + 1)) = dn a b (l.take k) ++ [(plcZ a l[k].frm, plcZ b l[k].to)] := by
  rw [List.take_succ_eq_append_getElem h, dn, dn, List.map_append]; rfl
theorem dn_mem {a b : List MNode} {l : List PairD} {k : Nat} (hk : k ≤ l.length) {z : Nat × Nat} (hz : z ∈ dn a b (l.take k)) : ∃ q, ∃ hq : q < l.length, q < k ∧ z = (plcZ a l[q].frm, plcZ b l[q].to) := by
  obtain ⟨p, hp, rfl⟩ := List.mem_map.1 hz
  obtain ⟨q, hq, rfl⟩ := List.mem_iff_getElem.1 hp
  have h1 : q < k ∧ q < l.length := by simp at hq; omega
  exact ⟨q, h1.2, h1.1, by rw [List.getElem_take]⟩
theorem dn_in {a b : List MNode} {l : List PairD} {k q : Nat} (hq : q < l.length) (h : q < k) : (plcZ a l[q].frm, plcZ b l[q].to) ∈ dn a b (l.take k) := by
  refine List.mem_map.2 ⟨l[q], ?_, rfl⟩
  rw [List.mem_iff_getElem]
  exact ⟨q, by simp; omega, by rw [List.getElem_take]⟩
end Xe
