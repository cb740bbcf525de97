/- THE NODES OF AN EXPRESSION IN POSTORDER, plain: what both the program and the reference list. No program in sight. -/
import Derived.Test.YtjkcjbicleohkaaNodes
namespace Xe
open Go

/-! ### The list, the IDs, the depth -/
mutual
def pon : Ex → Nat → List MNode
  | .mk i k n r t kids s, o => pons kids o ++ [⟨.mk i k n r t kids s, o⟩]
def pons : List Ex → Nat → List MNode
  | [], _ => []
  | k :: ks, o => pon k o ++ pons ks (o + k.size)
end
mutual
def pre : Ex → List IdT
  | .mk i _ _ _ _ kids _ => i :: pres kids
def pres : List Ex → List IdT
  | [] => []
  | k :: ks => pre k ++ pres ks
end
mutual
def dep : Ex → Nat
  | .mk _ _ _ _ _ kids _ => 1 + deps kids
def deps : List Ex → Nat
  | [] => 0
  | k :: ks => max (dep k) (deps ks)
end
theorem pon_eq (e : Ex) (o : Nat) : pon e o = pons e.kids o ++ [⟨e, o⟩] := by cases e; rw [pon]; rfl
theorem pre_eq (e : Ex) : pre e = e.id :: pres e.kids := by cases e; rw [pre]; rfl
theorem dep_eq (e : Ex) : dep e = 1 + deps e.kids := by cases e; rw [dep]; rfl
mutual
theorem pon_len : ∀ (e : Ex) (o : Nat), (pon e o).length = e.size
  | .mk i k n r t kids s, o => by rw [pon, Ex.size, List.length_append, pons_len kids o]; simp; omega
theorem pons_len : ∀ (l : List Ex) (o : Nat), (pons l o).length = Ex.sizes l
  | [], o => by simp [pons, Ex.sizes]
  | k :: ks, o => by rw [pons, Ex.sizes, List.length_append, pon_len k o, pons_len ks _]
end
mutual
theorem pre_len : ∀ (e : Ex), (pre e).length = e.size
  | .mk i k n r t kids s => by rw [pre, Ex.size, List.length_cons, pres_len kids]; omega
theorem pres_len : ∀ (l : List Ex), (pres l).length = Ex.sizes l
  | [] => by simp [pres, Ex.sizes]
  | k :: ks => by rw [pres, Ex.sizes, List.length_append, pre_len k, pres_len ks]
end
mutual
theorem pon_ids : ∀ (e : Ex) (o : Nat), List.Perm ((pon e o).map (·.e.id)) (pre e)
  | .mk i k n r t kids s, o => by
    rw [pon, pre, List.map_append]
    exact (List.perm_append_comm).trans ((pons_ids kids o).cons i)
theorem pons_ids : ∀ (l : List Ex) (o : Nat), List.Perm ((pons l o).map (·.e.id)) (pres l)
  | [], o => by simp [pons, pres]
  | k :: ks, o => by rw [pons, pres, List.map_append]; exact (pon_ids k o).append (pons_ids ks _)
end
mutual
theorem dep_le : ∀ e : Ex, dep e ≤ e.size
  | .mk i k n r t kids s => by have := deps_le kids; rw [dep, Ex.size]; omega
theorem deps_le : ∀ l : List Ex, deps l ≤ Ex.sizes l
  | [] => by simp [deps]
  | k :: ks => by have := dep_le k; have := deps_le ks; rw [deps, Ex.sizes]; omega
end

/-- Whether an expression is usable. -/
def good (e : Ex) : Prop := dep e ≤ 24 ∧ e.size ≤ 128 ∧ (pre e).Nodup
instance (e : Ex) : Decidable (good e) := by unfold good; exact inferInstance
theorem good_of {e : Ex} (h : e.size ≤ 24) (hn : (pre e).Nodup) : good e := ⟨by have := dep_le e; omega, by omega, hn⟩
theorem pres_mem {l : List Ex} {k : Ex} (h : k ∈ l) : List.Sublist (pre k) (pres l) := by
  induction l with
  | nil => simp at h
  | cons x xs ih =>
    rw [pres]
    rcases List.mem_cons.1 h with rfl | h
    · exact List.sublist_append_left _ _
    · exact (ih h).trans (List.sublist_append_right _ _)
theorem deps_mem {l : List Ex} {k : Ex} (h : k ∈ l) : dep k ≤ deps l := by
  induction l with
  | nil => simp at h
  | cons x xs ih =>
    rw [deps]
    rcases List.mem_cons.1 h with rfl | h
    · omega
    · have := ih h; omega
theorem good_kid {e k : Ex} (h : good e) (hk : k ∈ e.kids) : good k := by
  obtain ⟨h1, h2, h3⟩ := h
  have := Ex.size_kid hk
  have := deps_mem hk
  rw [dep_eq] at h1
  rw [pre_eq] at h3
  exact ⟨by omega, by omega, (List.nodup_cons.1 h3).2.sublist (pres_mem hk)⟩

/-! ### The program's list -/
theorem nd_app {α : Type} {a b : List α} : (a ++ b).Nodup ↔ a.Nodup ∧ b.Nodup ∧ ∀ x ∈ a, x ∉ b := by
  rw [List.nodup_append]
  exact ⟨fun ⟨h1, h2, h3⟩ => ⟨h1, h2, fun x hx hb => h3 x hx x hb rfl⟩, fun ⟨h1, h2, h3⟩ => ⟨h1, h2, fun x hx y hy e => h3 x hx (e ▸ hy)⟩⟩
mutual
theorem mvisit_spec : ∀ (e : Ex) (ids : List IdT) (l : List MNode) (lev : Nat), ids.Nodup →
    mvisit ids l e lev = if lev + dep e ≤ 25 ∧ (ids ++ pre e).Nodup ∧ ids.length + e.size ≤ 128 then some (ids ++ pre e, l ++ pon e l.length) else none
  | .mk i k n r t kids s, ids, l, lev, hn => by
    rw [mvisit]
    by_cases hc : 24 < lev ∨ i ∈ ids ∨ 128 ≤ ids.length
    · rw [if_pos hc, if_neg]
      rintro ⟨h1, h2, h3⟩
      rw [pre] at h2
      rw [Ex.size] at h3
      rw [dep] at h1
      rcases hc with h | h | h
      · omega
      · exact (nd_app.1 h2).2.2 i h (List.mem_cons_self ..)
      · omega
    · rw [if_neg hc]
      have hn2 : (ids ++ [i]).Nodup := by
        rw [nd_app]
        exact ⟨hn, by simp, fun x hx hb => hc (.inr (.inl (by simp at hb; subst hb; exact hx)))⟩
      rw [mvisits_spec kids (ids ++ [i]) l (lev + 1) hn2 (by simp; omega)]
      have hl1 : (ids ++ [i]).length = ids.length + 1 := by simp
      have ha : ids ++ [i] ++ pres kids = ids ++ i :: pres kids := by simp
      rw [hl1, ha]
      by_cases hR : lev + dep (.mk i k n r t kids s) ≤ 25 ∧ (ids ++ pre (.mk i k n r t kids s)).Nodup ∧ ids.length + (Ex.mk i k n r t kids s).size ≤ 128
      · rw [if_pos hR]
        rw [dep, pre, Ex.size] at hR
        rw [if_pos ⟨fun _ => by omega, hR.2.1, by omega⟩, pre, pon]
        simp only [List.append_assoc]
      · rw [if_neg hR]
        rw [dep, pre, Ex.size] at hR
        rw [if_neg]
        rintro ⟨h1, h2, h3⟩
        refine hR ⟨?_, h2, by omega⟩
        by_cases h4 : kids = []
        · subst h4
          simp only [deps]
          omega
        · have := h1 h4
          omega
theorem mvisits_spec : ∀ (es : List Ex) (ids : List IdT) (l : List MNode) (lev : Nat), ids.Nodup → ids.length ≤ 128 →
    mvisits ids l es lev = if (es ≠ [] → lev + deps es ≤ 25) ∧ (ids ++ pres es).Nodup ∧ ids.length + Ex.sizes es ≤ 128 then some (ids ++ pres es, l ++ pons es l.length) else none
  | [], ids, l, lev, hn, hi => by
    rw [mvisits, if_pos]
    · simp [pres, pons]
    · simp [pres, Ex.sizes, hn, hi]
  | e :: es, ids, l, lev, hn, hi => by
    rw [mvisits, mvisit_spec e ids l lev hn]
    have hkp : 0 < dep e := by rw [dep_eq]; omega
    by_cases h1 : lev + dep e ≤ 25 ∧ (ids ++ pre e).Nodup ∧ ids.length + e.size ≤ 128
    · rw [if_pos h1]
      simp only []
      rw [mvisits_spec es (ids ++ pre e) _ lev h1.2.1 (by rw [List.length_append, pre_len]; exact h1.2.2)]
      have hl1 : (ids ++ pre e).length = ids.length + e.size := by rw [List.length_append, pre_len]
      have hl2 : (l ++ pon e l.length).length = l.length + e.size := by rw [List.length_append, pon_len]
      rw [hl1, hl2]
      by_cases h2 : (e :: es ≠ [] → lev + deps (e :: es) ≤ 25) ∧ (ids ++ pres (e :: es)).Nodup ∧ ids.length + Ex.sizes (e :: es) ≤ 128
      · rw [if_pos h2]
        rw [deps, pres, Ex.sizes] at h2
        rw [if_pos, pres, pons, List.append_assoc, List.append_assoc]
        rw [List.append_assoc]
        refine ⟨fun _ => ?_, h2.2.1, by omega⟩
        have := h2.1 (by simp)
        omega
      · rw [if_neg h2]
        rw [deps, pres, Ex.sizes] at h2
        rw [if_neg]
        rw [List.append_assoc]
        rintro ⟨h3, h4, h5⟩
        refine h2 ⟨fun _ => ?_, h4, by omega⟩
        by_cases h6 : es = []
        · subst h6; simp only [deps]; omega
        · have := h3 h6; omega
    · rw [if_neg h1, if_neg]
      rintro ⟨h3, h4, h5⟩
      rw [pres, ← List.append_assoc] at h4
      rw [deps] at h3
      rw [Ex.sizes] at h5
      exact h1 ⟨by have := h3 (by simp); omega, (nd_app.1 h4).1, by omega⟩
end
theorem mvisit_good {e : Ex} (h : good e) : mvisit [] [] e 1 = some (pre e, pon e 0) := by
  rw [mvisit_spec e [] [] 1 (by simp), if_pos ⟨by have := h.1; omega, by simpa using h.2.2, by simpa using h.2.1⟩]
  simp
theorem mvisit_bad {e : Ex} (h : ¬ good e) : mvisit [] [] e 1 = none := by
  rw [mvisit_spec e [] [] 1 (by simp), if_neg]
  rintro ⟨h1, h2, h3⟩
  exact h ⟨by omega, by simpa using h3, by simpa using h2⟩

/-! ### The reference's list -/
mutual
theorem rput_spec : ∀ (e : Ex) (l : List RNode) (lev : Nat), l.length + e.size ≤ 129 → lev + dep e ≤ 26 →
    ∃ r, rput l e lev = l ++ r ∧ r.map RNode.toM = pon e l.length ∧ ∀ x ∈ r, x.level < lev + dep e
  | .mk i k n rf t kids s, l, lev, h1, h2 => by
    rw [Ex.size] at h1
    rw [dep] at h2
    obtain ⟨r, e1, e2, e3⟩ := rputs_spec kids l lev (by omega) (by omega)
    refine ⟨r ++ [⟨.mk i k n rf t kids s, l.length, lev⟩], by rw [rput, e1, List.append_assoc], by rw [List.map_append, e2, pon]; rfl, ?_⟩
    intro x hx
    rw [dep]
    rcases List.mem_append.1 hx with hx | hx
    · have := e3 x hx; omega
    · simp only [List.mem_singleton] at hx; subst hx; simp only []; omega
theorem rputs_spec : ∀ (es : List Ex) (l : List RNode) (lev : Nat), l.length + Ex.sizes es ≤ 129 → lev + deps es < 26 →
    ∃ r, rputs l es lev = l ++ r ∧ r.map RNode.toM = pons es l.length ∧ ∀ x ∈ r, x.level < lev + 1 + deps es
  | [], l, lev, _, _ => ⟨[], by simp [rputs], by simp [pons], by simp⟩
  | e :: es, l, lev, h1, h2 => by
    rw [Ex.sizes] at h1
    rw [deps] at h2
    obtain ⟨r, e1, e2, e3⟩ := rput_spec e l (lev + 1) (by omega) (by omega)
    have hrl : r.length = e.size := by have := congrArg List.length e2; rw [List.length_map, pon_len] at this; exact this
    obtain ⟨q, f1, f2, f3⟩ := rputs_spec es (l ++ r) lev (by rw [List.length_append, hrl]; omega) (by omega)
    refine ⟨r ++ q, ?_, ?_, ?_⟩
    · have hs := e.size_pos
      have hp : 0 < dep e := by rw [dep_eq]; omega
      rw [rputs, if_pos ⟨by omega, by omega⟩, e1, f1, List.append_assoc]
    · rw [List.map_append, e2, f2, pons, List.length_append, hrl]
    · intro x hx
      rw [deps]
      rcases List.mem_append.1 hx with hx | hx
      · have := e3 x hx; omega
      · have := f3 x hx; omega
end
theorem rnodes_good {e : Ex} (h : good e) : (rnodes e).2 = true ∧ (rnodes e).1.map RNode.toM = pon e 0 := by
  obtain ⟨h1, h2, h3⟩ := h
  obtain ⟨r, e1, e2, e3⟩ := rput_spec e [] 1 (by simp; omega) (by omega)
  simp only [List.nil_append, List.length_nil] at e1 e2
  have hrl : r.length = e.size := by have := congrArg List.length e2; rw [List.length_map, pon_len] at this; exact this
  have hu : usable r = true := by
    rw [usable, Bool.and_eq_true, decide_eq_true_eq, decide_eq_true_eq]
    refine ⟨fun x hx => by have := e3 x hx; omega, ?_⟩
    have : r.map (·.e.id) = (pon e 0).map (·.e.id) := by rw [← e2, List.map_map]; rfl
    rw [this]
    exact (pon_ids e 0).nodup_iff.2 h3
  rw [rnodes, e1, if_pos hu]
  exact ⟨by simp; omega, e2⟩

/-! ### Parts -/
def PostF (l : List MNode) (o : Nat) : Prop := ∀ i x, l[i]? = some x → o ≤ x.first ∧ x.first ≤ o + i ∧ ∀ v y, l[v]? = some y → x.first ≤ o + v → v ≤ i → x.first ≤ y.first
theorem PostF.app {a b : List MNode} {o : Nat} (h1 : PostF a o) (h2 : PostF b (o + a.length)) : PostF (a ++ b) o := by
  intro i x hx
  by_cases hi : i < a.length
  · rw [List.getElem?_append_left hi] at hx
    obtain ⟨k1, k2, k3⟩ := h1 i x hx
    refine ⟨k1, k2, fun v y hy hv1 hv2 => k3 v y ?_ hv1 hv2⟩
    rwa [List.getElem?_append_left (by omega)] at hy
  · rw [List.getElem?_append_right (by omega)] at hx
    obtain ⟨k1, k2, k3⟩ := h2 (i - a.length) x hx
    refine ⟨by omega, by omega, fun v y hy hv1 hv2 => ?_⟩
    have hva : ¬ v < a.length := by omega
    rw [List.getElem?_append_right (by omega)] at hy
    exact k3 (v - a.length) y hy (by omega) (by omega)
mutual
theorem pon_post : ∀ (e : Ex) (o : Nat), PostF (pon e o) o
  | .mk i k n r t kids s, o => by
    have hk := pons_post kids o
    intro j x hx
    rw [pon] at hx
    by_cases hj : j < (pons kids o).length
    · rw [List.getElem?_append_left hj] at hx
      obtain ⟨k1, k2, k3⟩ := hk j x hx
      refine ⟨k1, k2, fun v y hy hv1 hv2 => k3 v y ?_ hv1 hv2⟩
      rw [pon, List.getElem?_append_left (by omega)] at hy
      exact hy
    · rw [List.getElem?_append_right (by omega)] at hx
      have hj2 : j - (pons kids o).length = 0 := by
        have := (List.getElem?_eq_some_iff.1 hx).1
        simp at this; omega
      rw [hj2] at hx
      simp only [List.getElem?_cons_zero, Option.some.injEq] at hx
      subst hx
      refine ⟨Nat.le_refl _, by simp only []; omega, fun v y hy hv1 hv2 => ?_⟩
      simp only []
      rw [pon] at hy
      by_cases hv : v < (pons kids o).length
      · rw [List.getElem?_append_left hv] at hy
        exact (hk v y hy).1
      · rw [List.getElem?_append_right (by omega), show v - (pons kids o).length = 0 from by omega] at hy
        simp only [List.getElem?_cons_zero, Option.some.injEq] at hy
        subst hy
        exact Nat.le_refl _
theorem pons_post : ∀ (l : List Ex) (o : Nat), PostF (pons l o) o
  | [], o => fun i x hx => by simp [pons] at hx
  | k :: ks, o => by
    rw [pons]
    exact (pon_post k o).app (by rw [pon_len]; exact pons_post ks _)
end
theorem PostF.post1 {l : List MNode} (h : PostF l 0) : Post1 l := by
  intro i hi
  obtain ⟨k1, k2, k3⟩ := h i _ (List.getElem?_eq_getElem hi)
  rw [fstAt_M hi]
  refine ⟨by omega, fun v hv1 hv2 => ?_⟩
  have hv : v < l.length := by omega
  rw [fstAt_M hv]
  exact k3 v _ (List.getElem?_eq_getElem hv) (by omega) hv2
theorem pon_post1 (e : Ex) : Post1 (pon e 0) := (pon_post e 0).post1
theorem pon_root (e : Ex) : fstAt (pon e 0) ((pon e 0).length - 1) = 0 ∧ exAt (pon e 0) ((pon e 0).length - 1) = e ∧ 0 < (pon e 0).length := by
  have hl : (pon e 0).length = (pons e.kids 0).length + 1 := by rw [pon_eq]; simp
  have hg : (pon e 0)[(pon e 0).length - 1]? = some ⟨e, 0⟩ := by
    rw [hl, pon_eq, Nat.add_sub_cancel, List.getElem?_append_right (Nat.le_refl _), Nat.sub_self]; rfl
  rw [fstAt, exAt, List.getD_eq_getElem?_getD, hg]
  exact ⟨rfl, rfl, by omega⟩
/-- IDs that tell the nodes apart. -/
def IdsOk (l : List MNode) : Prop := ∀ i (hi : i < l.length) j (hj : j < l.length), j < i → l[j].e.id ≠ l[i].e.id
theorem pon_idsOk {e : Ex} (h : (pre e).Nodup) : IdsOk (pon e 0) := by
  have hn : ((pon e 0).map (·.e.id)).Nodup := (pon_ids e 0).nodup_iff.2 h
  intro i hi j hj hji he
  have := (List.pairwise_iff_getElem.1 (List.nodup_iff_pairwise_ne.1 hn)) j i (by simpa using hj) (by simpa using hi) hji
  simp only [List.getElem_map] at this
  exact this he
end Xe
