/- THE TABLES OF NUMBERS, plain. No program in sight. -/
import Derived.Test.YtjkcjbicleohkaaPure
namespace Xe
open Go
def fstAt (l : List MNode) (k : Nat) : Nat := (l.getD k default).first
def exAt (l : List MNode) (k : Nat) : Ex := (l.getD k default).e
def at2 (d : List (List Int)) (v w : Nat) : Int := (d.getD v []).getD w 0
def RNode.toM (x : RNode) : MNode := ⟨x.e, x.first⟩

/-- D(x, y) for the parts of the nodes i and j. -/
def dp (a b : List MNode) (dual : List (List Int)) (i j : Nat) (x y : Nat) : Int :=
  if x = 0 ∨ y = 0 then ((x + y : Nat) : Int)
  else
    if fstAt a i + x - 1 = i ∧ fstAt b j + y - 1 = j then
      min (min (dp a b dual i j (x - 1) y) (dp a b dual i j x (y - 1)) + 1) (dp a b dual i j (x - 1) (y - 1) + if (exAt a (fstAt a i + x - 1)).like (exAt b (fstAt b j + y - 1)) then 0 else 1)
    else
      min (min (dp a b dual i j (x - 1) y) (dp a b dual i j x (y - 1)) + 1)
        (dp a b dual i j (min (fstAt a (fstAt a i + x - 1) - fstAt a i) (x - 1)) (min (fstAt b (fstAt b j + y - 1) - fstAt b j) (y - 1)) + at2 dual (fstAt a i + x - 1) (fstAt b j + y - 1))
termination_by x + y
decreasing_by all_goals omega
def sizeAt (l : List MNode) (i : Nat) : Nat := i - fstAt l i + 1
def dpRow (a b : List MNode) (dual : List (List Int)) (i j : Nat) (x : Nat) : List Int := (List.range (sizeAt b j + 1)).map (dp a b dual i j x)
def dpTab (a b : List MNode) (dual : List (List Int)) (i j : Nat) : List (List Int) := (List.range (sizeAt a i + 1)).map (dpRow a b dual i j)
def dpEnd (a b : List MNode) (dual : List (List Int)) (i j : Nat) : Int := dp a b dual i j (sizeAt a i) (sizeAt b j)

/-- Numbers of parts as postorder gives them. -/
def Post1 (l : List MNode) : Prop := ∀ i, i < l.length → fstAt l i ≤ i ∧ ∀ v, fstAt l i ≤ v → v ≤ i → fstAt l i ≤ fstAt l v
/-- A table of numbers that are not too great. -/
structure DualOk (a b : List MNode) (dual : List (List Int)) : Prop where
  len : dual.length = a.length
  row : ∀ r ∈ dual, r.length = b.length
  num : ∀ r ∈ dual, ∀ z ∈ r, 0 ≤ z ∧ z ≤ 1000
theorem DualOk.get {a b : List MNode} {dual : List (List Int)} (h : DualOk a b dual) {v w : Nat} (hv : v < a.length) (hw : w < b.length) : ∃ r, dual[v]? = some r ∧ r[w]? = some (at2 dual v w) ∧ 0 ≤ at2 dual v w ∧ at2 dual v w ≤ 1000 := by
  have h1 : v < dual.length := by rw [h.len]; exact hv
  have h2 := h.row _ (List.getElem_mem h1)
  have h3 : w < dual[v].length := by rw [h2]; exact hw
  have e : at2 dual v w = dual[v][w] := by simp [at2, List.getD_eq_getElem?_getD, h1, h3]
  refine ⟨dual[v], List.getElem?_eq_getElem h1, ?_, ?_⟩
  · rw [e]; exact List.getElem?_eq_getElem h3
  · rw [e]; exact h.num _ (List.getElem_mem h1) _ (List.getElem_mem h3)
/-- A table whose rows up to i are there. -/
structure DualLe (b : List MNode) (i : Nat) (dual : List (List Int)) : Prop where
  lt : i < dual.length
  row : ∀ r ∈ dual, r.length = b.length
  num : ∀ r ∈ dual, ∀ z ∈ r, 0 ≤ z ∧ z ≤ 1000
theorem DualOk.le {a b : List MNode} {dual : List (List Int)} (h : DualOk a b dual) {i : Nat} (hi : i < a.length) : DualLe b i dual := ⟨by rw [h.len]; exact hi, h.row, h.num⟩
theorem DualLe.get {b : List MNode} {i : Nat} {dual : List (List Int)} (h : DualLe b i dual) {v w : Nat} (hv : v ≤ i) (hw : w < b.length) : ∃ r, dual[v]? = some r ∧ r[w]? = some (at2 dual v w) ∧ 0 ≤ at2 dual v w ∧ at2 dual v w ≤ 1000 := by
  have h1 : v < dual.length := Nat.lt_of_le_of_lt hv h.lt
  have h2 := h.row _ (List.getElem_mem h1)
  have h3 : w < dual[v].length := by rw [h2]; exact hw
  have e : at2 dual v w = dual[v][w] := by simp [at2, List.getD_eq_getElem?_getD, h1, h3]
  refine ⟨dual[v], List.getElem?_eq_getElem h1, ?_, ?_⟩
  · rw [e]; exact List.getElem?_eq_getElem h3
  · rw [e]; exact h.num _ (List.getElem_mem h1) _ (List.getElem_mem h3)
theorem at2_nonneg {dual : List (List Int)} (h : ∀ r ∈ dual, ∀ z ∈ r, 0 ≤ z ∧ z ≤ 1000) (v w : Nat) : 0 ≤ at2 dual v w := by
  unfold at2
  rw [List.getD_eq_getElem?_getD, List.getD_eq_getElem?_getD]
  cases h1 : dual[v]? with
  | none => simp
  | some r =>
    simp only [Option.getD_some]
    cases h2 : r[w]? with
    | none => simp
    | some z => exact (h r (List.mem_of_getElem? h1) z (List.mem_of_getElem? h2)).1

theorem dp_zero {a b : List MNode} {dual : List (List Int)} {i j x y : Nat} (h : x = 0 ∨ y = 0) : dp a b dual i j x y = ((x + y : Nat) : Int) := by
  rw [dp, if_pos h]
theorem dp_root {a b : List MNode} {dual : List (List Int)} {i j x y : Nat} (hx : 0 < x) (hy : 0 < y) (h : fstAt a i + x - 1 = i ∧ fstAt b j + y - 1 = j) :
    dp a b dual i j x y = min (min (dp a b dual i j (x - 1) y) (dp a b dual i j x (y - 1)) + 1) (dp a b dual i j (x - 1) (y - 1) + if (exAt a (fstAt a i + x - 1)).like (exAt b (fstAt b j + y - 1)) then 0 else 1) := by
  rw [dp, if_neg (by omega), if_pos h]
theorem dp_part {a b : List MNode} {dual : List (List Int)} {i j x y : Nat} (hx : 0 < x) (hy : 0 < y) (h : ¬ (fstAt a i + x - 1 = i ∧ fstAt b j + y - 1 = j))
    (h1 : fstAt a (fstAt a i + x - 1) ≤ fstAt a i + x - 1) (h2 : fstAt b (fstAt b j + y - 1) ≤ fstAt b j + y - 1) :
    dp a b dual i j x y = min (min (dp a b dual i j (x - 1) y) (dp a b dual i j x (y - 1)) + 1)
        (dp a b dual i j (fstAt a (fstAt a i + x - 1) - fstAt a i) (fstAt b (fstAt b j + y - 1) - fstAt b j) + at2 dual (fstAt a i + x - 1) (fstAt b j + y - 1)) := by
  rw [dp, if_neg (by omega), if_neg h, Nat.min_eq_left (by omega), Nat.min_eq_left (by omega)]
theorem dp_le {a b : List MNode} {dual : List (List Int)} {i j : Nat} (hd : ∀ r ∈ dual, ∀ z ∈ r, 0 ≤ z ∧ z ≤ 1000) : ∀ (N x y : Nat), x + y ≤ N → 0 ≤ dp a b dual i j x y ∧ dp a b dual i j x y ≤ x + y
  | N, x, y, h => by
    rw [dp]
    split
    · omega
    · have hx : 0 < x := by omega
      have hy : 0 < y := by omega
      cases N with
      | zero => omega
      | succ N =>
        have k1 := dp_le (a := a) (b := b) (i := i) (j := j) hd N (x - 1) y (by omega)
        have k2 := dp_le (a := a) (b := b) (i := i) (j := j) hd N x (y - 1) (by omega)
        split
        · have k3 := dp_le (a := a) (b := b) (i := i) (j := j) hd N (x - 1) (y - 1) (by omega)
          split <;> omega
        · have k3 := dp_le (a := a) (b := b) (i := i) (j := j) hd N (min (fstAt a (fstAt a i + x - 1) - fstAt a i) (x - 1)) (min (fstAt b (fstAt b j + y - 1) - fstAt b j) (y - 1)) (by omega)
          have k4 := at2_nonneg hd (fstAt a i + x - 1) (fstAt b j + y - 1)
          omega
theorem fstAt_R {l : List RNode} {k : Nat} (h : k < l.length) : fstAt (l.map RNode.toM) k = l[k].first := by
  simp [fstAt, List.getD_eq_getElem?_getD, h, RNode.toM]
theorem exAt_R {l : List RNode} {k : Nat} (h : k < l.length) : exAt (l.map RNode.toM) k = l[k].e := by
  simp [exAt, List.getD_eq_getElem?_getD, h, RNode.toM]
theorem fstAt_M {l : List MNode} {k : Nat} (h : k < l.length) : fstAt l k = l[k].first := by
  simp [fstAt, List.getD_eq_getElem?_getD, h]
theorem exAt_M {l : List MNode} {k : Nat} (h : k < l.length) : exAt l k = l[k].e := by
  simp [exAt, List.getD_eq_getElem?_getD, h]
theorem dpRow_len (a b : List MNode) (dual : List (List Int)) (i j x : Nat) : (dpRow a b dual i j x).length = sizeAt b j + 1 := by simp [dpRow]
theorem dpRow_get (a b : List MNode) (dual : List (List Int)) (i j x y : Nat) (h : y ≤ sizeAt b j) : (dpRow a b dual i j x)[y]? = some (dp a b dual i j x y) := by
  simp [dpRow, Nat.lt_succ_of_le h]
theorem rfirst {a : List RNode} {k : Nat} (h : k < a.length) : (a.flatMap RNode.enc)[k * 17 + 15]? = some (dint (fstAt (a.map RNode.toM) k)) := by
  rw [fstAt_R h]
  exact flat_get RNode.enc_len _ k _ (List.getElem?_eq_getElem h) 15 _ (by rw [RNode.enc_eq]; rfl)
theorem rnodeE {a : List RNode} {k : Nat} (h : k < a.length) : ((a.flatMap RNode.enc).drop (k * 17 + 0)).take 15 = (exAt (a.map RNode.toM) k).enc := by
  rw [exAt_R h, flat_sub RNode.enc_len _ k _ (List.getElem?_eq_getElem h) 0 15 (by decide), RNode.enc, List.drop_zero, List.take_append_of_le_length (by rw [Ex.enc_len]; exact Nat.le_refl _), List.take_of_length_le (by rw [Ex.enc_len]; exact Nat.le_refl _)]
theorem mfirst {a : List MNode} {k : Nat} (h : k < a.length) : (a.flatMap MNode.enc)[k * 16 + 15]? = some (dint (fstAt a k)) := by
  rw [fstAt_M h]
  exact flat_get MNode.enc_len _ k _ (List.getElem?_eq_getElem h) 15 _ (by rw [MNode.enc_eq]; rfl)
theorem dp_rows_succ (A B : List MNode) (dual : List (List Int)) (i j x : Nat) : ((List.range (x + 1)).map fun k => dints (dpRow A B dual i j k)) = ((List.range x).map fun k => dints (dpRow A B dual i j k)) ++ [dints (dpRow A B dual i j x)] := by
  rw [List.range_succ, List.map_append]; rfl
theorem dp_row_eq (A B : List MNode) (dual : List (List Int)) (i j x : Nat) : rowP (dp A B dual i j x) (sizeAt B j + 1) (sizeAt B j + 1) = dpRow A B dual i j x := part_full _ _
theorem dpTab_len (a b : List MNode) (dual : List (List Int)) (i j : Nat) : (dpTab a b dual i j).length = sizeAt a i + 1 := by simp [dpTab]
theorem dpTab_get (a b : List MNode) (dual : List (List Int)) (i j x : Nat) (h : x ≤ sizeAt a i) : (dpTab a b dual i j)[x]? = some (dpRow a b dual i j x) := by
  simp [dpTab, Nat.lt_succ_of_le h]
/-- The way back through the tables: which nodes are paired. -/
inductive Tr (a b : List MNode) (dual : List (List Int)) : Nat → Nat → Nat → Nat → List Int → List Int → Prop
  | stop {i j x y : Nat} {t : List Int} : (x = 0 ∨ y = 0) → Tr a b dual i j x y t t
  | up {i j x y : Nat} {t t' : List Int} : 0 < x → 0 < y → dp a b dual i j x y = dp a b dual i j (x - 1) y + 1 → Tr a b dual i j (x - 1) y t t' → Tr a b dual i j x y t t'
  | left {i j x y : Nat} {t t' : List Int} : 0 < x → 0 < y → dp a b dual i j x y = dp a b dual i j x (y - 1) + 1 → Tr a b dual i j x (y - 1) t t' → Tr a b dual i j x y t t'
  | pair {i j x y : Nat} {t t' : List Int} : 0 < x → 0 < y → dp a b dual i j x y ≠ dp a b dual i j (x - 1) y + 1 → dp a b dual i j x y ≠ dp a b dual i j x (y - 1) + 1 → fstAt a i + x - 1 = i → fstAt b j + y - 1 = j →
      Tr a b dual i j (x - 1) (y - 1) (t.set i j) t' → Tr a b dual i j x y t t'
  | part {i j x y : Nat} {t t1 t' : List Int} : 0 < x → 0 < y → dp a b dual i j x y ≠ dp a b dual i j (x - 1) y + 1 → dp a b dual i j x y ≠ dp a b dual i j x (y - 1) + 1 → ¬ (fstAt a i + x - 1 = i ∧ fstAt b j + y - 1 = j) →
      Tr a b dual (fstAt a i + x - 1) (fstAt b j + y - 1) (sizeAt a (fstAt a i + x - 1)) (sizeAt b (fstAt b j + y - 1)) t t1 →
      Tr a b dual i j (fstAt a (fstAt a i + x - 1) - fstAt a i) (fstAt b (fstAt b j + y - 1) - fstAt b j) t1 t' → Tr a b dual i j x y t t'
end Xe
