/- THE PAIRS OF A BEST MATCH, AND COSTS OF PAIRS, plain. No program in sight. -/
import Derived.Test.YtjkcjbicleohkaaFix
namespace Xe
open Go

def pairOf (a b : List MNode) (p : Nat × Nat) : PairD := ⟨(exAt a p.1).id, (exAt b p.2).id⟩
def outQ (t : List Int) (k : Nat) : List (Nat × Nat) := (List.range k).filterMap fun i => if 0 ≤ t.getD i (-1) then some (i, (t.getD i (-1)).toNat) else none
theorem outQ_zero (t : List Int) : outQ t 0 = [] := rfl
theorem outQ_yes {t : List Int} {k : Nat} (h : 0 ≤ t.getD k (-1)) : outQ t (k + 1) = outQ t k ++ [(k, (t.getD k (-1)).toNat)] := by
  rw [outQ, List.range_succ, List.filterMap_append, List.filterMap_cons, if_pos h]
  rfl
theorem outQ_no {t : List Int} {k : Nat} (h : ¬ 0 ≤ t.getD k (-1)) : outQ t (k + 1) = outQ t k := by
  rw [outQ, List.range_succ, List.filterMap_append, List.filterMap_cons, if_neg h]
  simp [outQ]
theorem outQ_len (t : List Int) : ∀ k, (outQ t k).length ≤ k
  | 0 => by simp [outQ]
  | k + 1 => by
    have := outQ_len t k
    by_cases h : 0 ≤ t.getD k (-1)
    · rw [outQ_yes h]; simp; omega
    · rw [outQ_no h]; omega
theorem outQ_mem {t : List Int} {k : Nat} {p : Nat × Nat} : p ∈ outQ t k ↔ p.1 < k ∧ t.getD p.1 (-1) = (p.2 : Int) := by
  rw [outQ, List.mem_filterMap]
  constructor
  · rintro ⟨i, hi, h⟩
    rw [List.mem_range] at hi
    split at h
    · simp only [Option.some.injEq] at h
      subst h
      exact ⟨hi, by simp only []; omega⟩
    · cases h
  · rintro ⟨h1, h2⟩
    refine ⟨p.1, List.mem_range.2 h1, ?_⟩
    rw [h2, if_pos (by omega), Int.toNat_natCast]
theorem outQ_sorted (t : List Int) (k : Nat) : (outQ t k).Pairwise (fun p q => p.1 < q.1) := by
  rw [outQ, List.pairwise_filterMap]
  refine List.pairwise_lt_range.imp ?_
  intro i j hij p hp q hq
  split at hp
  · split at hq
    · simp only [Option.some.injEq] at hp hq
      subst hp hq
      exact hij
    · cases hq
  · cases hp

/-- What Match hands back. -/
structure Best (a b : List MNode) (d : List (List Int)) (n : Int) (Q : List (Nat × Nat)) : Prop where
  fix : FixD a b d
  root : n = at2 d (a.length - 1) (b.length - 1)
  mt : Mt a b 0 0 a.length b.length Q
  sorted : Q.Pairwise (fun p q => p.1 < q.1)
  cost : costM a b a.length b.length Q = n

/-- Lists of nodes as expressions have them. -/
structure Whole (a : List MNode) : Prop where
  post : Post1 a
  pos : 0 < a.length
  root : fstAt a (a.length - 1) = 0
theorem pon_whole (e : Ex) : Whole (pon e 0) := ⟨pon_post1 e, (pon_root e).2.2, (pon_root e).1⟩
theorem Whole.size {a : List MNode} (h : Whole a) : sizeAt a (a.length - 1) = a.length := by
  have := h.pos
  rw [sizeAt, h.root]; omega

theorem best_of {a b : List MNode} {d : List (List Int)} (ha : Whole a) (hb : Whole b) (hF : FixD a b d) {t : List Int}
    (h : Tr a b d (a.length - 1) (b.length - 1) (sizeAt a (a.length - 1)) (sizeAt b (b.length - 1)) (List.replicate a.length (-1)) t) : Best a b d (at2 d (a.length - 1) (b.length - 1)) (outQ t a.length) := by
  have ha0 := ha.pos
  have hb0 := hb.pos
  obtain ⟨P, h1, h2, h3, h4, h5⟩ := way_back ha.post hb.post hF.fix h (by omega) (by omega) (Nat.le_refl _) (Nat.le_refl _) (by simp)
  rw [ha.root, hb.root, ha.size, hb.size] at h1
  rw [ha.size, hb.size] at h2
  have hPn : P.Nodup := h1.pw.imp fun hc e => by subst e; exact compat.irr hc
  have hQn : (outQ t a.length).Nodup := (outQ_sorted t _).imp fun hlt e => by subst e; omega
  have hmem : ∀ p, p ∈ P ↔ p ∈ outQ t a.length := by
    intro p
    rw [outQ_mem]
    constructor
    · intro hp
      have := h1.inn p hp
      exact ⟨by omega, by rw [List.getD_eq_getElem?_getD, h4 p hp]; rfl⟩
    · rintro ⟨k1, k2⟩
      have : ∃ q ∈ P, q.1 = p.1 := Classical.byContradiction fun hn => by
        have := h5 p.1 fun q hq e => hn ⟨q, hq, e⟩
        rw [List.getD_eq_getElem?_getD, this, List.getElem?_replicate] at k2
        simp only [k1, if_true, Option.getD_some] at k2
        omega
      obtain ⟨q, hq, e⟩ := this
      have h6 := h4 q hq
      rw [e] at h6
      rw [List.getD_eq_getElem?_getD, h6, Option.getD_some] at k2
      have : q = p := Prod.ext e (by omega)
      rw [← this]; exact hq
  have hperm : List.Perm P (outQ t a.length) := (List.perm_ext_iff_of_nodup hPn hQn).2 hmem
  refine ⟨hF, rfl, h1.perm hperm, outQ_sorted _ _, ?_⟩
  rw [← costM_perm hperm, h2, hF.fix _ _ (by omega) (by omega), dpEnd, ha.size, hb.size]
theorem tr_bd {a b : List MNode} {d : List (List Int)} (ha : Whole a) (hb : Whole b) (hF : FixD a b d) {t : List Int}
    (h : Tr a b d (a.length - 1) (b.length - 1) (sizeAt a (a.length - 1)) (sizeAt b (b.length - 1)) (List.replicate a.length (-1)) t) {k : Nat} {z : Int} (hk : t[k]? = some z) (hz : 0 ≤ z) (hka : k < a.length) : z.toNat < b.length := by
  have hm : (k, z.toNat) ∈ outQ t a.length := outQ_mem.2 ⟨hka, by rw [List.getD_eq_getElem?_getD, hk]; simp only [Option.getD_some]; omega⟩
  have := (best_of ha hb hF h).mt.inn _ hm
  simp only [] at this
  omega

/-! ### Costs of pairs -/
theorem plc_at {a : List MNode} (ha : IdsOk a) {k : Nat} (hk : k < a.length) : plc a (exAt a k).id = some k := by
  rw [plc, List.findIdx?_eq_some_iff_getElem, exAt_M hk]
  refine ⟨hk, by simp, fun j hj => ?_⟩
  have := ha k hk j (by omega) hj
  simpa using this
theorem costGo_map {a b : List MNode} (ha : IdsOk a) (hb : IdsOk b) : ∀ (Q done : List (Nat × Nat)) (n : Int), (∀ p ∈ Q, p.1 < a.length ∧ p.2 < b.length) → (done ++ Q).Pairwise (compat a b) →
    costGo a b done n (Q.map (pairOf a b)) = some (n + chgs a b Q)
  | [], done, n, _, _ => by simp [costGo, chgs]
  | p :: Q, done, n, h, hp => by
    have hp1 := h p (List.mem_cons_self ..)
    have e1 : plc a (pairOf a b p).frm = some p.1 := plc_at ha hp1.1
    have e2 : plc b (pairOf a b p).to = some p.2 := plc_at hb hp1.2
    have z1 : plcZ a (pairOf a b p).frm = p.1 := by rw [plcZ, e1]; rfl
    have z2 : plcZ b (pairOf a b p).to = p.2 := by rw [plcZ, e2]; rfl
    rw [List.map_cons, costGo, z1, z2, if_pos]
    · rw [costGo_map ha hb Q (done ++ [p]) _ (fun q hq => h q (List.mem_cons_of_mem _ hq)) (by simpa using hp), chgs]
      congr 1
      show n + chg a b p + chgs a b Q = n + (chg a b p + chgs a b Q)
      omega
    · refine ⟨by rw [e1]; simp, by rw [e2]; simp, fun q hq => ?_⟩
      have := (List.pairwise_append.1 hp).2.2 q hq p (List.mem_cons_self ..)
      exact this.symm
theorem costGo_some {a b : List MNode} : ∀ (l : List PairD) (done : List (Nat × Nat)) (n m : Int), costGo a b done n l = some m → done.Pairwise (compat a b) →
    (done ++ dn a b l).Pairwise (compat a b) ∧ m = n + chgs a b (dn a b l) ∧ ∀ p ∈ dn a b l, p.1 < a.length ∧ p.2 < b.length
  | [], done, n, m, h, hd => by
    simp only [costGo, Option.some.injEq] at h
    simp [dn, chgs, hd, h]
  | p :: l, done, n, m, h, hd => by
    rw [costGo] at h
    split at h
    · rename_i hc
      obtain ⟨c1, c2, c3⟩ := hc
      have hd' : (done ++ [(plcZ a p.frm, plcZ b p.to)]).Pairwise (compat a b) := List.pairwise_append.2 ⟨hd, by simp, fun q hq r hr => by rw [List.mem_singleton.1 hr]; exact (c3 q hq).symm⟩
      obtain ⟨k1, k2, k3⟩ := costGo_some l _ _ _ h hd'
      refine ⟨?_, ?_, fun q hq => ?_⟩
      · have : done ++ dn a b (p :: l) = done ++ [(plcZ a p.frm, plcZ b p.to)] ++ dn a b l := by simp [dn]
        rw [this]; exact k1
      · have : dn a b (p :: l) = (plcZ a p.frm, plcZ b p.to) :: dn a b l := rfl
        rw [this, chgs, k2]; omega
      · have : dn a b (p :: l) = (plcZ a p.frm, plcZ b p.to) :: dn a b l := rfl
        rw [this] at hq
        rcases List.mem_cons.1 hq with rfl | hq
        · exact ⟨(plcZ_lt c1).1, (plcZ_lt c2).1⟩
        · exact k3 q hq
    · cases h
theorem nd_bd : ∀ (n : Nat) (l : List Nat), l.Nodup → (∀ x ∈ l, x < n) → l.length ≤ n
  | 0, l, _, h => by
    cases l with
    | nil => simp
    | cons x xs => have := h x (List.mem_cons_self ..); omega
  | n + 1, l, hn, h => by
    by_cases hm : n ∈ l
    · have h1 := nd_bd n (l.erase n) (hn.erase n) (fun x hx => by
        have h2 := h x (List.mem_of_mem_erase hx)
        have h3 : x ≠ n := fun e => by subst e; exact (hn.not_mem_erase) hx
        omega)
      have := List.length_erase_of_mem hm
      have hp : 0 < l.length := List.length_pos_of_mem hm
      omega
    · have := nd_bd n l hn fun x hx => by
        have h2 := h x hx
        have : x ≠ n := fun e => hm (e ▸ hx)
        omega
      omega
theorem Mt.len {a b : List MNode} {x y : Nat} {P : List (Nat × Nat)} (h : Mt a b 0 0 x y P) : P.length ≤ x ∧ P.length ≤ y := by
  have h1 : (P.map (·.1)).Nodup := List.pairwise_map.2 (h.pw.imp fun hc => hc.1.1)
  have h2 : (P.map (·.2)).Nodup := List.pairwise_map.2 (h.pw.imp fun hc => hc.1.2.1)
  have k1 := nd_bd x _ h1 (fun z hz => by obtain ⟨p, hp, rfl⟩ := List.mem_map.1 hz; have := h.inn p hp; omega)
  have k2 := nd_bd y _ h2 (fun z hz => by obtain ⟨p, hp, rfl⟩ := List.mem_map.1 hz; have := h.inn p hp; omega)
  simp at k1 k2
  exact ⟨k1, k2⟩
theorem Mt.ge {a b : List MNode} {x y : Nat} {P : List (Nat × Nat)} (h : Mt a b 0 0 x y P) : 0 ≤ costM a b x y P ∧ (x : Int) - y ≤ costM a b x y P ∧ (y : Int) - x ≤ costM a b x y P := by
  have := h.len
  have := chgs_nonneg a b P
  rw [costM]
  omega
/-- The cost of a match that is written with IDs. -/
theorem costGo_mt {a b : List MNode} (ha : IdsOk a) (hb : IdsOk b) {Q : List (Nat × Nat)} (h : Mt a b 0 0 a.length b.length Q) : costGo a b [] ((a.length : Int) + b.length - 2 * (Q.map (pairOf a b)).length) (Q.map (pairOf a b)) = some (costM a b a.length b.length Q) := by
  rw [costGo_map ha hb Q [] _ (fun p hp => by have := h.inn p hp; omega) (by simpa using h.pw), List.length_map, costM]
/-- Pairs that have a cost are a match. -/
theorem costGo_is {a b : List MNode} {l : List PairD} {m : Int} (h : costGo a b [] ((a.length : Int) + b.length - 2 * l.length) l = some m) : Mt a b 0 0 a.length b.length (dn a b l) ∧ m = costM a b a.length b.length (dn a b l) := by
  obtain ⟨k1, k2, k3⟩ := costGo_some l [] _ _ h List.Pairwise.nil
  refine ⟨⟨fun p hp => by have := k3 p hp; omega, by simpa using k1⟩, ?_⟩
  rw [k2, costM, dn, List.length_map]
theorem mcost_some {a b : List MNode} {l : List PairD} {m : Int} (h : costGo a b [] ((a.length : Int) + b.length - 2 * l.length) l = some m) : mcost a b l = m ∧ 0 ≤ m := by
  obtain ⟨k1, k2⟩ := costGo_is h
  exact ⟨by rw [mcost, h]; rfl, by rw [k2]; exact k1.ge.1⟩
theorem mcost_none {a b : List MNode} {l : List PairD} (h : costGo a b [] ((a.length : Int) + b.length - 2 * l.length) l = none) : mcost a b l = -1 := by
  rw [mcost, h]; rfl

/-! ### Duals that are right -/
def RightD (a b : List MNode) (d : List (List Int)) : Prop := d.length = a.length ∧ (∀ r ∈ d, r.length = b.length ∧ ∀ z ∈ r, 0 ≤ z ∧ z ≤ 256) ∧ ∀ i j, i < a.length → j < b.length → at2 d i j ≤ dpEnd a b d i j
noncomputable instance (a b : List MNode) (d : List (List Int)) : Decidable (RightD a b d) := Classical.propDecidable _
def rowOk (b : List MNode) (r : List Int) : Prop := r.length = b.length ∧ ∀ z ∈ r, 0 ≤ z ∧ z ≤ 256
theorem rowOk_of {b : List MNode} {r : List Int} (h : r.length = b.length) (h2 : ∀ j (hj : j < r.length), j < b.length → 0 ≤ r[j] ∧ r[j] ≤ 256) : rowOk b r :=
  ⟨h, fun z hz => by obtain ⟨j, hj, rfl⟩ := List.mem_iff_getElem.1 hz; exact h2 j hj (by omega)⟩
theorem dual_of {a b : List MNode} {d : List (List Int)} (h : d.length = a.length) (h2 : ∀ i (hi : i < d.length), i < a.length → rowOk b d[i]) : DualOk a b d :=
  ⟨h, fun r hr => by obtain ⟨i, hi, rfl⟩ := List.mem_iff_getElem.1 hr; exact (h2 i hi (by omega)).1, fun r hr z hz => by obtain ⟨i, hi, rfl⟩ := List.mem_iff_getElem.1 hr; have := (h2 i hi (by omega)).2 z hz; omega⟩
theorem right_of {a b : List MNode} {d : List (List Int)} (h : d.length = a.length) (h2 : ∀ i (hi : i < d.length), i < a.length → rowOk b d[i]) (h3 : ∀ i, i < a.length → i < a.length → ∀ j, j < b.length → at2 d i j ≤ dpEnd a b d i j) : RightD a b d :=
  ⟨h, fun r hr => by obtain ⟨i, hi, rfl⟩ := List.mem_iff_getElem.1 hr; exact h2 i hi (by omega), fun i j hi hj => h3 i hi hi j hj⟩
theorem not_right_len {a b : List MNode} {d : List (List Int)} (h : d.length ≠ a.length) : ¬ RightD a b d := fun hr => h hr.1
theorem not_right_row {a b : List MNode} {d : List (List Int)} {i : Nat} (hi : i < d.length) (h : d[i].length ≠ b.length) : ¬ RightD a b d := fun hr => h (hr.2.1 _ (List.getElem_mem hi)).1
theorem not_right_num {a b : List MNode} {d : List (List Int)} {i j : Nat} (hi : i < d.length) (hj : j < d[i].length) (h : ¬ (0 ≤ d[i][j] ∧ d[i][j] ≤ 256)) : ¬ RightD a b d := fun hr => h ((hr.2.1 _ (List.getElem_mem hi)).2 _ (List.getElem_mem hj))
theorem not_right_dp {a b : List MNode} {d : List (List Int)} {i j : Nat} (hi : i < a.length) (hj : j < b.length) (h : dpEnd a b d i j < at2 d i j) : ¬ RightD a b d := fun hr => by have := hr.2.2 i j hi hj; omega
theorem RightD.ok {a b : List MNode} {d : List (List Int)} (h : RightD a b d) : DualOk a b d := ⟨h.1, fun r hr => (h.2.1 r hr).1, fun r hr z hz => by have := (h.2.1 r hr).2 z hz; omega⟩
/-- The table of least costs is right, where it is not too great. -/
theorem FixD.right {a b : List MNode} {d : List (List Int)} (h : FixD a b d) (hl : a.length + b.length ≤ 256) : RightD a b d := by
  refine ⟨h.ok.len, fun r hr => ⟨h.ok.row r hr, fun z hz => ?_⟩, fun i j hi hj => Int.le_of_eq (h.fix i j hi hj)⟩
  obtain ⟨i, hi, rfl⟩ := List.mem_iff_getElem.1 hr
  obtain ⟨j, hj, rfl⟩ := List.mem_iff_getElem.1 hz
  have hi' : i < a.length := by rw [← h.ok.len]; exact hi
  have hj' : j < b.length := by rw [← h.ok.row _ hr]; exact hj
  have h1 := h.fix i j hi' hj'
  have h2 := dpEnd_bd h.ok.num hi' hj'
  have h3 : at2 d i j = d[i][j] := by simp [at2, List.getD_eq_getElem?_getD, hi, hj]
  omega
theorem all_step2 {n : Nat} {p : Nat → Prop} {k : Nat} (hT : ∀ i, i < n → i < k → p i) (h : p k) : ∀ i, i < n → i < k + 1 → p i := by
  intro i hi hk
  by_cases e : i < k
  · exact hT i hi e
  · obtain rfl : i = k := by omega
    exact h
theorem all_step3 {α : Type} {d : List α} {p : α → Prop} {k : Nat} (hT : ∀ j (hj : j < d.length), j < k → p d[j]) (hk : k < d.length) (h : p d[k]) : ∀ j (hj : j < d.length), j < k + 1 → p d[j] := all_step hT hk h

/-! ### What Cost and Check answer -/
def goOf (e1 e2 : Ex) (l : List PairD) : Option Int := costGo (pon e1 0) (pon e2 0) [] (((pon e1 0).length : Int) + (pon e2 0).length - 2 * l.length) l
def CostR (e1 e2 : Ex) (l : List PairD) : Int × Int := if good e1 ∧ good e2 then match goOf e1 e2 l with
  | some n => (n, 0)
  | none => (0, 27) else (0, 1)
theorem CostR_bad {e1 e2 : Ex} {l : List PairD} (h : ¬ (good e1 ∧ good e2)) : CostR e1 e2 l = (0, 1) := by rw [CostR, if_neg h]
theorem CostR_some {e1 e2 : Ex} {l : List PairD} {n : Int} (h : good e1 ∧ good e2) (hg : goOf e1 e2 l = some n) : CostR e1 e2 l = (n, 0) := by rw [CostR, if_pos h, hg]
theorem CostR_none {e1 e2 : Ex} {l : List PairD} (h : good e1 ∧ good e2) (hg : goOf e1 e2 l = none) : CostR e1 e2 l = (0, 27) := by rw [CostR, if_pos h, hg]
theorem rcost_good {e1 e2 : Ex} (h : good e1 ∧ good e2) (l : List PairD) : rcost e1 e2 l = CostR e1 e2 l := by
  obtain ⟨h1, h2⟩ := rnodes_good h.1
  obtain ⟨h3, h4⟩ := rnodes_good h.2
  have hl1 : (rnodes e1).1.length = (pon e1 0).length := by rw [← h2, List.length_map]
  have hl2 : (rnodes e2).1.length = (pon e2 0).length := by rw [← h4, List.length_map]
  have hg : costGo ((rnodes e1).1.map RNode.toM) ((rnodes e2).1.map RNode.toM) [] (((rnodes e1).1.length : Int) + (rnodes e2).1.length - 2 * l.length) l = goOf e1 e2 l := by rw [h2, h4, hl1, hl2, goOf]
  cases hc : goOf e1 e2 l with
  | some n => rw [CostR_some h hc]; exact rcost_some rfl rfl rfl rfl h1 h3 (hg.trans hc)
  | none => rw [CostR_none h hc]; exact rcost_none rfl rfl rfl rfl h1 h3 (hg.trans hc)
/-- The program's number, and what it says. -/
theorem mcost_go {e1 e2 : Ex} {l : List PairD} (n : Int) : goOf e1 e2 l = some n ↔ mcost (pon e1 0) (pon e2 0) l = n ∧ 0 ≤ n := by
  constructor
  · exact fun h => mcost_some h
  · rintro ⟨h1, h2⟩
    cases hc : goOf e1 e2 l with
    | some m => rw [(mcost_some hc).1] at h1; rw [h1]
    | none => rw [mcost_none hc] at h1; omega
theorem mcost_neg {e1 e2 : Ex} {l : List PairD} : goOf e1 e2 l = none ↔ mcost (pon e1 0) (pon e2 0) l < 0 := by
  constructor
  · intro h; rw [mcost_none h]; omega
  · intro h
    cases hc : goOf e1 e2 l with
    | some m => have := mcost_some hc; omega
    | none => rfl
def CheckP (e1 e2 : Ex) (l : List PairD) (want : Int) (d : List (List Int)) : Prop :=
  goOf e1 e2 l = some want ∧ RightD (pon e1 0) (pon e2 0) d ∧ at2 d ((pon e1 0).length - 1) ((pon e2 0).length - 1) = want
noncomputable instance (e1 e2 : Ex) (l : List PairD) (want : Int) (d : List (List Int)) : Decidable (CheckP e1 e2 l want d) := Classical.propDecidable _
noncomputable def CheckR (e1 e2 : Ex) (l : List PairD) (want : Int) (d : List (List Int)) : Int := if good e1 ∧ good e2 then if CheckP e1 e2 l want d then 0 else 27 else 1
theorem CheckR_bad {e1 e2 : Ex} {l : List PairD} {want : Int} {d : List (List Int)} (h : ¬ (good e1 ∧ good e2)) : CheckR e1 e2 l want d = 1 := by rw [CheckR, if_neg h]
theorem CheckR_no {e1 e2 : Ex} {l : List PairD} {want : Int} {d : List (List Int)} (h : good e1 ∧ good e2) (hp : ¬ CheckP e1 e2 l want d) : CheckR e1 e2 l want d = 27 := by rw [CheckR, if_pos h, if_neg hp]
theorem CheckR_yes {e1 e2 : Ex} {l : List PairD} {want : Int} {d : List (List Int)} (h : good e1 ∧ good e2) (hp : CheckP e1 e2 l want d) : CheckR e1 e2 l want d = 0 := by rw [CheckR, if_pos h, if_pos hp]
theorem pon_le {e : Ex} (h : good e) : (pon e 0).length ≤ 128 := by rw [pon_len]; exact h.2.1
theorem pon_ids_ok {e : Ex} (h : good e) : IdsOk (pon e 0) := pon_idsOk h.2.2
end Xe
