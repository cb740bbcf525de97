/- THE EXAMPLES OF THE STATEMENTS, plain. No program in sight. -/
import Derived.Test.YtjkcjbicleohkaaBest
namespace Xe
open Go

/-- A best match, said with IDs, has its cost, and the table proves it. -/
theorem Best.go {e1 e2 : Ex} {d : List (List Int)} {n : Int} {Q : List (Nat × Nat)} (hg : good e1 ∧ good e2) (h : Best (pon e1 0) (pon e2 0) d n Q) : goOf e1 e2 (Q.map (pairOf (pon e1 0) (pon e2 0))) = some n := by
  rw [goOf, costGo_mt (pon_ids_ok hg.1) (pon_ids_ok hg.2) h.mt, h.cost]
theorem Best.right {e1 e2 : Ex} {d : List (List Int)} {n : Int} {Q : List (Nat × Nat)} (hg : good e1 ∧ good e2) (h : Best (pon e1 0) (pon e2 0) d n Q) : RightD (pon e1 0) (pon e2 0) d :=
  h.fix.right (by have := pon_le hg.1; have := pon_le hg.2; omega)
theorem Best.check {e1 e2 : Ex} {d : List (List Int)} {n : Int} {Q : List (Nat × Nat)} (hg : good e1 ∧ good e2) (h : Best (pon e1 0) (pon e2 0) d n Q) : CheckP e1 e2 (Q.map (pairOf (pon e1 0) (pon e2 0))) n d :=
  ⟨h.go hg, h.right hg, h.root.symm⟩
/-- No match costs less. -/
theorem Right.least {a b : List MNode} {d : List (List Int)} (ha : Whole a) (hb : Whole b) (h : RightD a b d) {P : List (Nat × Nat)} (hP : Mt a b 0 0 a.length b.length P) : at2 d (a.length - 1) (b.length - 1) ≤ costM a b a.length b.length P :=
  no_less_all ha.post hb.post ha.pos hb.pos ha.root hb.root h.2.2 hP
theorem Best.least {a b : List MNode} {d : List (List Int)} {n : Int} {Q : List (Nat × Nat)} (ha : Whole a) (hb : Whole b) (h : Best a b d n Q) {P : List (Nat × Nat)} (hP : Mt a b 0 0 a.length b.length P) : n ≤ costM a b a.length b.length P := by
  rw [h.root]
  exact no_less_all ha.post hb.post ha.pos hb.pos ha.root hb.root (fun i j hi hj => Int.le_of_eq (h.fix.fix i j hi hj)) hP

theorem id_iff {a : Ex} (hg : good a) {k j : Nat} (hk : k < (rnodes a).1.length) (hj : j < (pon a 0).length) : (rnodes a).1[k].e.id = (exAt (pon a 0) j).id ↔ k = j := by
  obtain ⟨_, hRA⟩ := rnodes_good hg
  have hl : (rnodes a).1.length = (pon a 0).length := by rw [← hRA, List.length_map]
  have he : exAt (pon a 0) k = (rnodes a).1[k].e := by have := exAt_R hk; rwa [hRA] at this
  rw [← he]
  constructor
  · intro h
    have h1 := plc_at (pon_ids_ok hg) (show k < (pon a 0).length by omega)
    have h2 := plc_at (pon_ids_ok hg) hj
    rw [h, h2] at h1
    exact (Option.some.inj h1).symm
  · rintro rfl; rfl
def nE (i n : Int) : Ex := .mk (idN i) 0 n id0 ty0 [] []
def oE (i n : Int) (l : List Ex) : Ex := .mk (idN i) 4 n id0 ty0 l []
def EA : Ex := oE 9 0 [nE 1 1, nE 2 2]
def EB : Ex := oE 9 0 [nE 1 1, oE 5 2 [nE 2 2, nE 3 3]]
def PA : List PairD := [⟨idN 9, idN 9⟩]
def PX : List PairD := [⟨idN 9, idN 9⟩, ⟨idN 1, idN 2⟩, ⟨idN 2, idN 1⟩]
theorem ponA : pon EA 0 = [⟨nE 1 1, 0⟩, ⟨nE 2 2, 1⟩, ⟨EA, 0⟩] := by simp [EA, oE, nE, pon, pons, Ex.size, Ex.sizes]
theorem ponB : pon EB 0 = [⟨nE 1 1, 0⟩, ⟨nE 2 2, 1⟩, ⟨nE 3 3, 2⟩, ⟨oE 5 2 [nE 2 2, nE 3 3], 1⟩, ⟨EB, 0⟩] := by simp [EB, oE, nE, pon, pons, Ex.size, Ex.sizes]
theorem goodAB : good EA ∧ good EB := by
  constructor
  · refine good_of ?_ ?_
    · simp [EA, oE, nE, Ex.size, Ex.sizes]
    · simp [EA, oE, nE, pre, pres, idN]
  · refine good_of ?_ ?_
    · simp [EB, oE, nE, Ex.size, Ex.sizes]
    · simp [EB, oE, nE, pre, pres, idN]
theorem sizeB5 : EB.size = 5 := by simp [EB, oE, nE, Ex.size, Ex.sizes]
theorem costA : CostR EA EB PA = (6, 0) := by
  refine CostR_some goodAB ?_
  rw [goOf, ponA, ponB]
  decide
theorem costX : CostR EA EB PX = (0, 27) := by
  refine CostR_none goodAB ?_
  rw [goOf, ponA, ponB]
  decide
theorem bestAB {d : List (List Int)} {n : Int} {Q : List (Nat × Nat)} (h : Best (pon EA 0) (pon EB 0) d n Q) : n = 2 ∧ Q.length = 3 := by
  have hm : Mt (pon EA 0) (pon EB 0) 0 0 (pon EA 0).length (pon EB 0).length [(0, 0), (1, 1), (2, 4)] := by
    rw [ponA, ponB]
    exact ⟨by decide, by decide⟩
  have h1 := h.least (pon_whole EA) (pon_whole EB) hm
  have h2 : costM (pon EA 0) (pon EB 0) (pon EA 0).length (pon EB 0).length [(0, 0), (1, 1), (2, 4)] = 2 := by
    rw [ponA, ponB]
    decide
  have h3 := h.mt.len
  have h4 := h.mt.ge
  have h5 := h.cost
  have h6 := chgs_nonneg (pon EA 0) (pon EB 0) Q
  have la : (pon EA 0).length = 3 := by rw [ponA]; rfl
  have lb : (pon EB 0).length = 5 := by rw [ponB]; rfl
  rw [la, lb] at h3 h4 h5
  rw [costM] at h5 h4
  omega
end Xe
