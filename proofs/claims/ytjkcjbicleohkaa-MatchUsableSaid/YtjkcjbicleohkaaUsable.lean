/- EXPRESSIONS AT THE EDGE OF WHAT IS USABLE, plain. No program in sight. -/
import Derived.Test.YtjkcjbicleohkaaEdit
namespace Xe
open Go
def leafE (id : IdT) : Ex := .mk id 0 0 id0 ty0 [] []
def chn : Nat → Ex
  | 0 => leafE (idOf ((0 : Nat) : Int))
  | i + 1 => .mk (idOf ((i + 1 : Nat) : Int)) 0 0 id0 ty0 [chn i] []
def xid (i : Nat) : IdT := ⟨5, 1 + (i : Int), 7⟩
def xtr (j : Nat) : List Ex := ((List.range j).map xid).map leafE
def chnM (n j : Nat) : Ex := setKids (chn n) ((chn n).kids ++ xtr j)
theorem chnM_0 (n : Nat) : chnM n 0 = chn n := by
  rw [chnM, show xtr 0 = [] from rfl, List.append_nil, setKids_self]
theorem xtr_succ (j : Nat) : xtr (j + 1) = xtr j ++ [leafE (xid j)] := by
  rw [xtr, xtr, List.range_succ, List.map_append, List.map_append]; rfl
theorem xtr_len (j : Nat) : (xtr j).length = j := by simp [xtr]
theorem leaf_pre (l : List IdT) : pres (l.map leafE) = l := by
  induction l with
  | nil => rfl
  | cons x xs ih => rw [List.map_cons, pres, ih, pre_eq]; rfl
theorem leaf_dep (l : List IdT) : deps (l.map leafE) ≤ 1 := by
  induction l with
  | nil => simp [deps]
  | cons x xs ih => 
    have h : dep (leafE x) = 1 := by rw [dep_eq]; rfl
    rw [List.map_cons, deps, h]; omega
theorem chn_size : ∀ n, (chn n).size = n + 1
  | 0 => by rw [chn, Ex.size_eq]; rfl
  | n + 1 => by rw [chn, Ex.size_eq]; show 1 + Ex.sizes [chn n] = _; rw [Ex.sizes, chn_size n, Ex.sizes]; omega
theorem chn_dep : ∀ n, dep (chn n) = n + 1
  | 0 => by rw [chn, dep_eq]; rfl
  | n + 1 => by rw [chn, dep_eq]; show 1 + deps [chn n] = _; rw [deps, chn_dep n, deps]; omega
theorem chn_ids : ∀ n, n ≤ 90 → (∀ x ∈ pre (chn n), ∃ k : Nat, k ≤ n ∧ x = idOf (k : Int)) ∧ (pre (chn n)).Nodup
  | 0, _ => by
    have h : pre (chn 0) = [idOf ((0 : Nat) : Int)] := by rw [chn, pre_eq]; rfl
    rw [h]
    exact ⟨fun x hx => ⟨0, by omega, List.mem_singleton.1 hx⟩, by simp⟩
  | n + 1, hn => by
    obtain ⟨h1, h2⟩ := chn_ids n (by omega)
    have h : pre (chn (n + 1)) = idOf ((n + 1 : Nat) : Int) :: pre (chn n) := by
      rw [chn, pre_eq]; show _ :: pres [chn n] = _; rw [pres1]; rfl
    rw [h]
    refine ⟨fun x hx => ?_, List.nodup_cons.2 ⟨fun hm => ?_, h2⟩⟩
    · rcases List.mem_cons.1 hx with rfl | hx
      · exact ⟨n + 1, by omega, rfl⟩
      · obtain ⟨k, k1, k2⟩ := h1 x hx
        exact ⟨k, by omega, k2⟩
    · obtain ⟨k, k1, k2⟩ := h1 _ hm
      have := idOf_inj (by omega) (by omega) k2
      omega
theorem chn_good {n : Nat} (hn : n ≤ 90) : good (chn n) ↔ n + 1 ≤ 24 := by
  unfold good
  rw [chn_dep, chn_size]
  exact ⟨fun h => h.1, fun h => ⟨h, by omega, (chn_ids n hn).2⟩⟩
theorem nodup_map_xid (j : Nat) : ((List.range j).map xid).Nodup := by
  rw [List.nodup_iff_pairwise_ne, List.pairwise_map]
  refine List.pairwise_lt_range.imp ?_
  intro a b h he
  simp only [xid, IdT.mk.injEq] at he
  omega
theorem chnM_size (j : Nat) : (chnM 1 j).size = 2 + j := by
  rw [chnM, Ex.size_eq]
  show 1 + Ex.sizes ([chn 0] ++ xtr j) = _
  rw [sizes_app, ← pres_len (xtr j), xtr, leaf_pre, Ex.sizes, chn_size, Ex.sizes]
  simp
  omega
theorem chnM_good (j : Nat) : good (chnM 1 j) ↔ 2 + j ≤ 128 := by
  have hd : dep (chnM 1 j) ≤ 2 := by
    rw [chnM, dep_eq]
    show 1 + deps (chn 0 :: xtr j) ≤ _
    have := leaf_dep ((List.range j).map xid)
    rw [deps, chn_dep, xtr]; omega
  have hp : pre (chnM 1 j) = idOf ((1 : Nat) : Int) :: idOf ((0 : Nat) : Int) :: (List.range j).map xid := by
    rw [chnM, pre_eq]
    show _ :: pres (chn 0 :: xtr j) = _
    rw [pres, xtr, leaf_pre, chn, pre_eq]
    rfl
  have hx : ∀ k : Nat, idOf (k : Int) ∉ (List.range j).map xid := by
    intro k hm
    obtain ⟨q, _, hq⟩ := List.mem_map.1 hm
    have h1 := congrArg IdT.shop hq
    have h2 : (idOf (k : Int)).shop = (k : Int).tmod 3 := rfl
    rw [h2, Int.tmod_eq_emod_of_nonneg (by omega)] at h1
    have h3 : (xid q).shop = 5 := rfl
    omega
  unfold good
  rw [chnM_size, hp]
  refine ⟨fun h => h.2.1, fun h => ⟨by omega, h, ?_⟩⟩
  rw [List.nodup_cons, List.nodup_cons]
  refine ⟨fun hm => ?_, hx 0, nodup_map_xid j⟩
  rcases List.mem_cons.1 hm with h | h
  · exact absurd h (by decide)
  · exact hx 1 h
/-! ### One node more, with an ID that is there -/
theorem pres_ins {w : Int} (hw : 0 ≤ w) (id : IdT) (kids : List Ex) : List.Perm (pres (insKids w id kids)) (id :: pres kids) := by
  have h3 := toN_le (len := kids.length) hw
  have h4 : kids.drop (toN w kids.length) = (kids.drop (frmN w kids.length)).drop (toN w kids.length - frmN w kids.length) := by rw [List.drop_drop]; congr 1; omega
  have hk : pres kids = pres (kids.take (frmN w kids.length)) ++ (pres (midKids w kids) ++ pres (kids.drop (toN w kids.length))) := by
    rw [← pres_app, ← pres_app, h4, midKids, List.take_append_drop, List.take_append_drop]
  rw [hk, insKids, pres_app, pres_app, pres1, pre_eq, List.append_assoc, List.cons_append]
  exact List.perm_middle
mutual
theorem ed1E (w : Int) (hw : 0 ≤ w) (id : IdT) : ∀ (e : Ex) (a : Int), 0 ≤ a → (a < e.size → List.Perm (pre (edE 1 w id e a).1) (id :: pre e) ∧ (edE 1 w id e a).2 < 0) ∧ ((e.size : Int) ≤ a → (edE 1 w id e a).2 = a - e.size)
  | .mk i k n r t kids s, a, h => by
    have hn0 : ¬ (a = 0 ∧ (1 : Int).tmod 3 = 0) := fun h => absurd h.2 (by decide)
    rw [edE, if_neg hn0, pre, Ex.size]
    by_cases h0 : a = 0
    · rw [if_pos ⟨h0, by decide⟩]
      refine ⟨fun _ => ⟨?_, by show (-1 : Int) < 0; decide⟩, fun h1 => by omega⟩
      rw [pre]
      exact ((pres_ins hw id kids).cons i).trans (List.Perm.swap _ _ _)
    · rw [if_neg fun h1 => h0 h1.1]
      obtain ⟨h1, h2⟩ := ed1K w hw id kids (a - 1) (by omega)
      refine ⟨fun h3 => ?_, fun h3 => ?_⟩
      · obtain ⟨k1, k2⟩ := h1 (by omega)
        refine ⟨?_, k2⟩
        rw [pre]
        exact (k1.cons i).trans (List.Perm.swap _ _ _)
      · rw [h2 (by omega)]
        omega
theorem ed1K (w : Int) (hw : 0 ≤ w) (id : IdT) : ∀ (ks : List Ex) (a : Int), 0 ≤ a → (a < Ex.sizes ks → List.Perm (pres (edK 1 w id ks a).1) (id :: pres ks) ∧ (edK 1 w id ks a).2 < 0) ∧ ((Ex.sizes ks : Int) ≤ a → (edK 1 w id ks a).2 = a - Ex.sizes ks)
  | [], a, h => by
    rw [edK, Ex.sizes]
    exact ⟨fun h1 => by omega, fun _ => by simp⟩
  | x :: xs, a, h => by
    have hn0 : ¬ (a = 0 ∧ (1 : Int).tmod 3 = 2) := fun h => absurd h.2 (by decide)
    rw [edK, if_neg hn0, if_neg (by omega), Ex.sizes, pres]
    obtain ⟨h1, h2⟩ := ed1E w hw id x a h
    by_cases hx : a < x.size
    · obtain ⟨k1, k2⟩ := h1 hx
      obtain ⟨_, g2, _⟩ := edK_spec 1 w hw id xs (edE 1 w id x a).2
      obtain ⟨g3, g4⟩ := g2 k2
      refine ⟨fun _ => ⟨?_, g4⟩, fun h3 => by omega⟩
      simp only [g3]
      rw [pres]
      exact k1.append_right _
    · have k1 := h2 (by omega)
      obtain ⟨_, _, g3⟩ := edE_spec 1 w hw id x a
      obtain ⟨q1, q2⟩ := ed1K w hw id xs (edE 1 w id x a).2 (by omega)
      refine ⟨fun h3 => ?_, fun h3 => ?_⟩
      · obtain ⟨p1, p2⟩ := q1 (by omega)
        refine ⟨?_, p2⟩
        rw [pres, g3 (by omega)]
        exact (p1.append_left (pre x)).trans List.perm_middle
      · rw [q2 (by omega), k1]
        omega
end
theorem edd_bad {e : Ex} {x w : Int} (he : idOf ((0 : Nat) : Int) ∈ pre e) : ¬ good (edd e x 1 w (idOf ((0 : Nat) : Int))) ∧ (edd e x 1 w (idOf ((0 : Nat) : Int))).size = e.size + 1 := by
  have hp : 1 ≤ e.size := by rw [Ex.size_eq]; omega
  have hx := around_lt x e.size (by omega)
  have hw := around_lt w 10000 (by omega)
  have h := ((ed1E (around w 10000) hw.1 (idOf ((0 : Nat) : Int)) e (around x e.size) hx.1).1 hx.2).1
  have hd : edd e x 1 w (idOf ((0 : Nat) : Int)) = (edE 1 (around w 10000) (idOf ((0 : Nat) : Int)) e (around x e.size)).1 := rfl
  rw [← hd] at h
  refine ⟨fun hg => ?_, ?_⟩
  · have := h.nodup_iff.1 hg.2.2
    exact (List.nodup_cons.1 this).1 he
  · have := h.length_eq
    rw [pre_len, List.length_cons, pre_len] at this
    exact this
theorem tree_id0 (l : List Int) (most : Int) (hm : 1 ≤ most) : idOf ((0 : Nat) : Int) ∈ pre (tree l most 0) := by
  have h1 := tree_spec l most 0 hm
  have h2 := tree_size l most 0 hm
  refine h1.1.mem_iff.2 (List.mem_map.2 ⟨0, List.mem_range.2 (by have := h1.2; omega), rfl⟩)
/-! ### In memory -/
def vsOf (id : IdT) (u : Value) : List Value := [vint id.shop, vint id.seq, vint id.index, vint 0, vint 0, vint 0, vint 0, vint 0, vint 0, vint 0, vint 0, vint 0, .slice none 0 0, u, .slice none 0 0]
theorem vsOf_rd {M : Mem} {id : IdT} {kids : List Ex} {u : Value} (h : Rd M (.sl kids.length 15 (kids.flatMap Ex.enc)) u) : RdL M (Ex.mk id 0 0 id0 ty0 kids []).enc (vsOf id u) := by
  rw [Ex.enc_eq]
  exact (by repeat (first | exact RdL.nil _ | refine RdL.cons (by first | exact Rd.i _ | exact Rd.nilS | assumption) ?_))
theorem chn_mk (q : Nat) : chn q = .mk (idOf (q : Int)) 0 0 id0 ty0 (chn q).kids [] := by
  cases q <;> rfl
theorem chnM_mk (n j : Nat) : chnM n j = .mk (idOf (n : Int)) 0 0 id0 ty0 ((chn n).kids ++ xtr j) [] := by
  cases n <;> rfl
theorem splice_leaf {us : List Value} {k : Nat} (h : us.length = k * 15) (x y z : Value) (id : IdT) (u : Value) (e : vsOf id u = x :: y :: z :: (vsOf (idN 0) u).drop 3) : (us ++ vsOf (idN 0) u).take (k * 15 + 0) ++ [x, y, z] ++ (us ++ vsOf (idN 0) u).drop (k * 15 + 0 + [x, y, z].length) = us ++ vsOf id u := by
  rw [Nat.add_zero, ← h, List.take_left', List.append_assoc, e, ← List.drop_drop, List.drop_left']
  · rfl
  · rfl
  · rfl
theorem flat_len : ∀ l : List Ex, (l.flatMap Ex.enc).length = l.length * 15
  | [] => rfl
  | x :: xs => by rw [List.flatMap_cons, List.length_append, Ex.enc_len, flat_len xs, List.length_cons]; omega
end Xe
