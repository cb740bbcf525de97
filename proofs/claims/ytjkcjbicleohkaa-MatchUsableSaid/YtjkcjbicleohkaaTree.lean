/- THE GENERATED EXPRESSIONS ARE USABLE, plain. No program in sight. -/
import Derived.Test.YtjkcjbicleohkaaPon
namespace Xe
open Go
theorem idOf_inj {n m : Int} (hn : 0 ≤ n ∧ n ≤ 95) (hm : 0 ≤ m ∧ m ≤ 95) (h : idOf n = idOf m) : n = m := by
  unfold idOf at h
  simp only [IdT.mk.injEq] at h
  obtain ⟨h1, _, h3⟩ := h
  rw [Int.tmod_eq_emod_of_nonneg hn.1, Int.tmod_eq_emod_of_nonneg hm.1] at h1 h3
  omega
theorem pres_app : ∀ a b : List Ex, pres (a ++ b) = pres a ++ pres b
  | [], b => by simp [pres]
  | x :: xs, b => by rw [List.cons_append, pres, pres, pres_app xs b, List.append_assoc]
theorem pre_withKids (c : Ex) (kids : List Ex) (names : List ByteArray) : pre (withKids c kids names) = c.id :: pres kids := by rw [pre_eq]; rfl
theorem contentE_id (n : Int) (id : IdT) : (contentE n id).id = id := rfl
theorem size_withKids (c : Ex) (kids : List Ex) (names : List ByteArray) : (withKids c kids names).size = 1 + Ex.sizes kids := by rw [Ex.size_eq]; rfl
theorem treeGo_pres (l : List Int) (n : Nat) (frm : Int) : ∀ i, List.Perm (pres (treeGo l n frm i)) ((List.range i).map fun k => idOf (frm + (k : Nat)))
  | 0 => by simp [treeGo, pres]
  | i + 1 => by
    have ih := treeGo_pres l n frm i
    rw [treeGo, treeStep, pres_app, List.range_succ, List.map_append]
    simp only [pres, pre_withKids, contentE_id, List.append_nil, List.map_cons, List.map_nil]
    refine List.Perm.trans List.perm_middle ?_
    rw [← pres_app, List.take_append_drop]
    exact (ih.cons _).trans (List.perm_append_comm (l₁ := [idOf (frm + (i : Nat))]))
theorem treeGo_sizes (l : List Int) (n : Nat) (frm : Int) (i : Nat) : Ex.sizes (treeGo l n frm i) = i := by
  rw [← pres_len, (treeGo_pres l n frm i).length_eq]; simp
theorem tree_spec (l : List Int) (most frm : Int) (hm : 1 ≤ most) : List.Perm (pre (tree l most frm)) ((List.range (1 + atL l 0 most).toNat).map fun k => idOf (frm + (k : Nat))) ∧ (tree l most frm).size = (1 + atL l 0 most).toNat := by
  have h0 := atL_lt l 0 most hm
  obtain ⟨n, hn⟩ : ∃ n, (1 + atL l 0 most).toNat = n + 1 := ⟨(atL l 0 most).toNat, by omega⟩
  have h1 : treeGo l (n + 1) frm (n + 1) = [tree l most frm] := by
    rw [tree, hn, treeGo, treeStep, treeK, if_pos rfl, Nat.sub_self]
    simp
  have h2 := treeGo_pres l (n + 1) frm (n + 1)
  have h3 := treeGo_sizes l (n + 1) frm (n + 1)
  rw [h1] at h2 h3
  rw [hn]
  simp only [pres, List.append_nil, Ex.sizes, Nat.add_zero] at h2 h3
  exact ⟨h2, h3⟩
theorem tree_size (l : List Int) (most frm : Int) (hm : 1 ≤ most) : 1 ≤ (tree l most frm).size ∧ ((tree l most frm).size : Int) ≤ most := by
  have h0 := atL_lt l 0 most hm
  rw [(tree_spec l most frm hm).2]
  omega
theorem ids_nodup (frm : Int) (n : Nat) (h : 0 ≤ frm ∧ frm + n ≤ 96) : ((List.range n).map fun k => idOf (frm + (k : Nat))).Nodup := by
  rw [List.nodup_iff_pairwise_ne, List.pairwise_map]
  refine List.pairwise_lt_range.imp_of_mem ?_
  intro i j hi hj hij he
  rw [List.mem_range] at hi hj
  have := idOf_inj (by omega) (by omega) he
  omega
theorem tree_good (l : List Int) (most frm : Int) (hm : 1 ≤ most ∧ most ≤ 20) (hf : 0 ≤ frm ∧ frm ≤ 70) : good (tree l most frm) := by
  have hs := tree_size l most frm hm.1
  have h1 := tree_spec l most frm hm.1
  refine good_of (by omega) (h1.1.nodup_iff.2 (ids_nodup frm _ ?_))
  have := h1.2
  omega
end Xe
