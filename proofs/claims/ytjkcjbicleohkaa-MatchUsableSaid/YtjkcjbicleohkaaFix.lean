/- THE TABLE OF LEAST COSTS AS IT IS FILLED, plain. No program in sight. -/
import Derived.Test.YtjkcjbicleohkaaOpt
namespace Xe
open Go

theorem dp_ne {a b : List MNode} {dual : List (List Int)} {i j x y : Nat} (h : ¬ (x = 0 ∨ y = 0)) : dp a b dual i j x y =
    if fstAt a i + x - 1 = i ∧ fstAt b j + y - 1 = j then
      min (min (dp a b dual i j (x - 1) y) (dp a b dual i j x (y - 1)) + 1) (dp a b dual i j (x - 1) (y - 1) + if (exAt a (fstAt a i + x - 1)).like (exAt b (fstAt b j + y - 1)) then 0 else 1)
    else
      min (min (dp a b dual i j (x - 1) y) (dp a b dual i j x (y - 1)) + 1)
        (dp a b dual i j (min (fstAt a (fstAt a i + x - 1) - fstAt a i) (x - 1)) (min (fstAt b (fstAt b j + y - 1) - fstAt b j) (y - 1)) + at2 dual (fstAt a i + x - 1) (fstAt b j + y - 1)) := by rw [dp, if_neg h]
theorem dp_congr {a b : List MNode} {d d' : List (List Int)} {i j : Nat} (ha : fstAt a i ≤ i) (hb : fstAt b j ≤ j)
    (h : ∀ v w, v ≤ i → w ≤ j → ¬ (v = i ∧ w = j) → at2 d v w = at2 d' v w) : ∀ (N x y : Nat), x + y ≤ N → x ≤ sizeAt a i → y ≤ sizeAt b j → dp a b d i j x y = dp a b d' i j x y
  | N, x, y, hN, hx, hy => by
    have hsi : sizeAt a i = i - fstAt a i + 1 := rfl
    have hsj : sizeAt b j = j - fstAt b j + 1 := rfl
    by_cases h0 : x = 0 ∨ y = 0
    · rw [dp_zero h0, dp_zero h0]
    · rw [dp_ne h0, dp_ne h0]
      cases N with
      | zero => omega
      | succ N =>
        rw [dp_congr ha hb h N (x - 1) y (by omega) (by omega) hy, dp_congr ha hb h N x (y - 1) (by omega) hx (by omega)]
        by_cases hr : fstAt a i + x - 1 = i ∧ fstAt b j + y - 1 = j
        · rw [if_pos hr, if_pos hr, dp_congr ha hb h N (x - 1) (y - 1) (by omega) (by omega) (by omega)]
        · rw [if_neg hr, if_neg hr, dp_congr ha hb h N (min (fstAt a (fstAt a i + x - 1) - fstAt a i) (x - 1)) (min (fstAt b (fstAt b j + y - 1) - fstAt b j) (y - 1)) (by omega) (by omega) (by omega), h (fstAt a i + x - 1) (fstAt b j + y - 1) (by omega) (by omega) hr]
theorem dpEnd_congr {a b : List MNode} {d d' : List (List Int)} {i j : Nat} (ha : fstAt a i ≤ i) (hb : fstAt b j ≤ j)
    (h : ∀ v w, v ≤ i → w ≤ j → ¬ (v = i ∧ w = j) → at2 d v w = at2 d' v w) : dpEnd a b d i j = dpEnd a b d' i j := dp_congr ha hb h _ _ _ (Nat.le_refl _) (Nat.le_refl _) (Nat.le_refl _)

/-- The table is full: each number is the least cost of its parts. -/
structure FixD (a b : List MNode) (d : List (List Int)) : Prop where
  ok : DualOk a b d
  fix : ∀ i j, i < a.length → j < b.length → at2 d i j = dpEnd a b d i j
theorem FixD.unique {a b : List MNode} (ha : Post1 a) (hb : Post1 b) {d d' : List (List Int)} (h : FixD a b d) (h' : FixD a b d') : d = d' := by
  have key : ∀ (S i j : Nat), i + j = S → i < a.length → j < b.length → at2 d i j = at2 d' i j := by
    intro S
    induction S using Nat.strongRecOn with
    | _ S ih =>
    intro i j hS hi hj
    rw [h.fix i j hi hj, h'.fix i j hi hj]
    exact dpEnd_congr (ha i hi).1 (hb j hj).1 fun v w hv hw hne => ih (v + w) (by omega) v w rfl (by omega) (by omega)
  apply List.ext_getElem
  · rw [h.ok.len, h'.ok.len]
  · intro i h1 h2
    have r1 := h.ok.row _ (List.getElem_mem h1)
    have r2 := h'.ok.row _ (List.getElem_mem h2)
    apply List.ext_getElem
    · rw [r1, r2]
    · intro j h3 h4
      have := key _ i j rfl (by rw [← h.ok.len]; exact h1) (by rw [← r1]; exact h3)
      simpa [at2, List.getD_eq_getElem?_getD, h1, h2, h3, h4] using this

/-- n rows are there, what stands before i, j is done. -/
structure Dn (a b : List MNode) (n i j : Nat) (d : List (List Int)) : Prop where
  len : d.length = n
  row : ∀ r ∈ d, r.length = b.length
  num : ∀ r ∈ d, ∀ z ∈ r, 0 ≤ z ∧ z ≤ 1000
  fix : ∀ v w, v < n → w < b.length → (v < i ∨ v = i ∧ w < j) → at2 d v w = dpEnd a b d v w
theorem Dn.le {a b : List MNode} {n i j : Nat} {d : List (List Int)} (h : Dn a b n i j d) (hi : i < n) : DualLe b i d := ⟨by rw [h.len]; exact hi, h.row, h.num⟩
theorem Dn.okk {a b : List MNode} {i j : Nat} {d : List (List Int)} (h : Dn a b a.length i j d) : DualOk a b d := ⟨h.len, h.row, h.num⟩
theorem Dn.done {a b : List MNode} {j : Nat} {d : List (List Int)} (h : Dn a b a.length a.length j d) : FixD a b d := ⟨h.okk, fun i k hi hk => h.fix i k hi hk (.inl hi)⟩
theorem Dn.next {a b : List MNode} {n i : Nat} {d : List (List Int)} (h : Dn a b n i b.length d) : Dn a b n (i + 1) 0 d :=
  ⟨h.len, h.row, h.num, fun v w hv hw hc => h.fix v w hv hw (by omega)⟩
theorem at2_set {d : List (List Int)} {i j : Nat} {r : List Int} (hi : d[i]? = some r) (hj : j < r.length) (z : Int) (v w : Nat) : at2 (d.set i (r.set j z)) v w = if v = i ∧ w = j then z else at2 d v w := by
  have hlt := (List.getElem?_eq_some_iff.1 hi).1
  unfold at2
  simp only [List.getD_eq_getElem?_getD]
  by_cases hv : v = i
  · subst hv
    rw [List.getElem?_set_self hlt, hi]
    simp only [Option.getD_some, true_and]
    by_cases hw : w = j
    · subst hw; rw [List.getElem?_set_self hj, if_pos rfl]; rfl
    · rw [List.getElem?_set_ne (fun e => hw e.symm), if_neg hw]
  · rw [List.getElem?_set_ne (fun e => hv e.symm), if_neg (fun e => hv e.1)]
theorem dpEnd_bd {a b : List MNode} {d : List (List Int)} (hd : ∀ r ∈ d, ∀ z ∈ r, 0 ≤ z ∧ z ≤ 1000) {i j : Nat} (hi : i < a.length) (hj : j < b.length) : 0 ≤ dpEnd a b d i j ∧ dpEnd a b d i j ≤ (a.length : Int) + b.length := by
  have := dp_le (a := a) (b := b) (i := i) (j := j) hd _ (sizeAt a i) (sizeAt b j) (Nat.le_refl _)
  have h1 : sizeAt a i = i - fstAt a i + 1 := rfl
  have h2 : sizeAt b j = j - fstAt b j + 1 := rfl
  rw [dpEnd]
  omega
theorem Dn.set {a b : List MNode} (ha : Post1 a) (hb : Post1 b) {n i j : Nat} {d : List (List Int)} (h : Dn a b n i j d) (hn : n ≤ a.length) (hi : i < n) (hj : j < b.length) (hl : a.length + b.length ≤ 1000) {r : List Int} (hr : d[i]? = some r) : Dn a b n i (j + 1) (d.set i (r.set j (dpEnd a b d i j))) := by
  have hrl : r.length = b.length := h.row r (List.mem_of_getElem? hr)
  have hbd := dpEnd_bd (a := a) (b := b) h.num (i := i) (j := j) (by omega) hj
  have hset := fun z => at2_set hr (show j < r.length by omega) z
  refine ⟨by rw [List.length_set]; exact h.len, fun x hx => ?_, fun x hx z hz => ?_, fun v w hv hw hc => ?_⟩
  · rcases List.mem_or_eq_of_mem_set hx with hx | rfl
    · exact h.row x hx
    · rw [List.length_set]; exact hrl
  · rcases List.mem_or_eq_of_mem_set hx with hx | rfl
    · exact h.num x hx z hz
    · rcases List.mem_or_eq_of_mem_set hz with hz | rfl
      · exact h.num r (List.mem_of_getElem? hr) z hz
      · omega
  · have hcg : dpEnd a b (d.set i (r.set j (dpEnd a b d i j))) v w = dpEnd a b d v w := dpEnd_congr (ha v (by omega)).1 (hb w hw).1 fun v' w' h1 h2 h3 => by
      rw [hset, if_neg (by omega)]
    rw [hcg, hset]
    by_cases e : v = i ∧ w = j
    · obtain ⟨rfl, rfl⟩ := e
      rw [if_pos ⟨rfl, rfl⟩]
    · rw [if_neg e]
      exact h.fix v w hv hw (by omega)
theorem at2_app {d : List (List Int)} (r : List Int) {v w : Nat} (hv : v < d.length) : at2 (d ++ [r]) v w = at2 d v w := by
  unfold at2
  simp only [List.getD_eq_getElem?_getD]
  rw [List.getElem?_append_left hv]
theorem Dn.grow {a b : List MNode} (ha : Post1 a) (hb : Post1 b) {n : Nat} {d : List (List Int)} (h : Dn a b n n 0 d) (hn : n < a.length) : Dn a b (n + 1) n 0 (d ++ [List.replicate b.length 0]) := by
  refine ⟨by simp [h.len], fun x hx => ?_, fun x hx z hz => ?_, fun v w hv hw hc => ?_⟩
  · rcases List.mem_append.1 hx with hx | hx
    · exact h.row x hx
    · rw [List.mem_singleton.1 hx, List.length_replicate]
  · rcases List.mem_append.1 hx with hx | hx
    · exact h.num x hx z hz
    · rw [List.mem_singleton.1 hx] at hz
      rw [(List.mem_replicate.1 hz).2]; omega
  · have hvn : v < d.length := by rw [h.len]; omega
    rw [at2_app _ hvn, dpEnd_congr (d' := d) (ha v (by omega)).1 (hb w hw).1 fun v' w' h1 h2 h3 => at2_app _ (by omega)]
    exact h.fix v w (by omega) hw (by omega)
theorem Dn.start (a b : List MNode) (n : Nat) : Dn a b n 0 0 (List.replicate n (List.replicate b.length 0)) := by
  refine ⟨by simp, fun x hx => ?_, fun x hx z hz => ?_, fun v w hv hw hc => by omega⟩
  · rw [(List.mem_replicate.1 hx).2, List.length_replicate]
  · rw [(List.mem_replicate.1 hx).2] at hz
    rw [(List.mem_replicate.1 hz).2]; omega
end Xe
