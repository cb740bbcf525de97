/- MATCHES OF LISTS OF EXPRESSIONS, plain: one beside another, a root above, one edit. No program in sight. -/
import Derived.Test.YtjkcjbicleohkaaDist
import Derived.Test.YtjkcjbicleohkaaTree
namespace Xe
open Go
def upN (o : Nat) (x : MNode) : MNode := ⟨x.e, o + x.first⟩
theorem upN_upN (o p : Nat) (l : List MNode) : (l.map (upN p)).map (upN o) = l.map (upN (o + p)) := by
  rw [List.map_map]
  refine List.map_congr_left fun x _ => ?_
  show (⟨x.e, o + (p + x.first)⟩ : MNode) = ⟨x.e, o + p + x.first⟩
  rw [Nat.add_assoc]
mutual
theorem pon_up : ∀ (e : Ex) (o : Nat), pon e o = (pon e 0).map (upN o)
  | .mk i k n r t kids s, o => by
    rw [pon, pon, List.map_append, pons_up kids o]
    rfl
theorem pons_up : ∀ (l : List Ex) (o : Nat), pons l o = (pons l 0).map (upN o)
  | [], o => by simp [pons]
  | k :: ks, o => by
    rw [pons, pons, List.map_append, pon_up k o, pons_up ks (o + k.size), pons_up ks (0 + k.size), upN_upN, Nat.zero_add]
end
def cat (a b : List MNode) : List MNode := a ++ b.map (upN a.length)
theorem cat_len (a b : List MNode) : (cat a b).length = a.length + b.length := by simp [cat]
theorem cat_l {a b : List MNode} {i : Nat} (h : i < a.length) : fstAt (cat a b) i = fstAt a i ∧ exAt (cat a b) i = exAt a i := by
  simp only [fstAt, exAt, cat, List.getD_eq_getElem?_getD, List.getElem?_append_left h, and_self]
theorem cat_r {a b : List MNode} {i : Nat} (h : i < b.length) : fstAt (cat a b) (a.length + i) = a.length + fstAt b i ∧ exAt (cat a b) (a.length + i) = exAt b i := by
  simp only [fstAt, exAt, cat, List.getD_eq_getElem?_getD, List.getElem?_append_right (Nat.le_add_right _ _), Nat.add_sub_cancel_left, List.getElem?_map, List.getElem?_eq_getElem h, Option.map_some, Option.getD_some, upN, and_self]
def sh (x y : Nat) (p : Nat × Nat) : Nat × Nat := (x + p.1, y + p.2)
theorem chgs_l {a b c d : List MNode} : ∀ (P : List (Nat × Nat)), (∀ p ∈ P, p.1 < a.length ∧ p.2 < c.length) → chgs (cat a b) (cat c d) P = chgs a c P
  | [], _ => rfl
  | p :: P, h => by
    have h1 := h p (List.mem_cons_self ..)
    rw [chgs, chgs, chgs_l P (fun q hq => h q (List.mem_cons_of_mem _ hq)), chg, chg, (cat_l h1.1).2, (cat_l h1.2).2]
theorem chgs_r {a b c d : List MNode} : ∀ (P : List (Nat × Nat)), (∀ p ∈ P, p.1 < b.length ∧ p.2 < d.length) → chgs (cat a b) (cat c d) (P.map (sh a.length c.length)) = chgs b d P
  | [], _ => rfl
  | p :: P, h => by
    have h1 := h p (List.mem_cons_self ..)
    rw [List.map_cons, chgs, chgs, chgs_r P (fun q hq => h q (List.mem_cons_of_mem _ hq))]
    show chg _ _ (a.length + p.1, c.length + p.2) + _ = _
    rw [chg, chg, (cat_r h1.1).2, (cat_r h1.2).2]
theorem mt_cat {a b c d : List MNode} {P Q : List (Nat × Nat)} (hP : Mt a c 0 0 a.length c.length P) (hQ : Mt b d 0 0 b.length d.length Q) :
    Mt (cat a b) (cat c d) 0 0 (cat a b).length (cat c d).length (P ++ Q.map (sh a.length c.length)) ∧
    costM (cat a b) (cat c d) (cat a b).length (cat c d).length (P ++ Q.map (sh a.length c.length)) = costM a c a.length c.length P + costM b d b.length d.length Q := by
  have hp : ∀ p ∈ P, p.1 < a.length ∧ p.2 < c.length := fun p h => by have := hP.inn p h; omega
  have hq : ∀ p ∈ Q, p.1 < b.length ∧ p.2 < d.length := fun p h => by have := hQ.inn p h; omega
  refine ⟨⟨fun p h => ?_, ?_⟩, ?_⟩
  · rw [cat_len, cat_len]
    rcases List.mem_append.1 h with h | h
    · have := hp p h; omega
    · obtain ⟨q, h1, rfl⟩ := List.mem_map.1 h
      have := hq q h1
      simp only [sh]; omega
  · rw [List.pairwise_append]
    refine ⟨hP.pw.imp_of_mem ?_, ?_, ?_⟩
    · intro p q h1 h2 hc
      have k1 := hp p h1
      have k2 := hp q h2
      simp only [compat, (cat_l k1.1).1, (cat_l k1.2).1, (cat_l k2.1).1, (cat_l k2.2).1]
      exact hc
    · rw [List.pairwise_map]
      refine hQ.pw.imp_of_mem ?_
      intro p q h1 h2 hc
      have k1 := hq p h1
      have k2 := hq q h2
      simp only [compat] at hc
      simp only [compat, sh, (cat_r k1.1).1, (cat_r k1.2).1, (cat_r k2.1).1, (cat_r k2.2).1]
      omega
    · intro p h1 q h2
      obtain ⟨q, h3, rfl⟩ := List.mem_map.1 h2
      have k1 := hp p h1
      have k2 := hq q h3
      simp only [compat, sh, (cat_l k1.1).1, (cat_l k1.2).1, (cat_r k2.1).1, (cat_r k2.2).1]
      omega
  · rw [costM, costM, costM, chgs_app, chgs_l P hp, chgs_r Q hq, cat_len, cat_len, List.length_append, List.length_map]
    omega
theorem pons_app (k l : List Ex) : pons (k ++ l) 0 = cat (pons k 0) (pons l 0) := by
  induction k with
  | nil => rw [pons, cat, List.nil_append, List.nil_append, List.length_nil, ← pons_up]
  | cons x xs ih =>
    rw [List.cons_append, pons, pons, pons_up _ (0 + x.size), ih, pons_up xs (0 + x.size), cat, cat, List.map_append, List.length_append, upN_upN, List.append_assoc, List.length_map, pon_len, Nat.zero_add]
theorem pons_one (e : Ex) : pons [e] 0 = pon e 0 := by rw [pons, pons, List.append_nil]

/-- A list of expressions matched with another, and the cost. -/
def Fm (ks ls : List Ex) (n : Int) : Prop := ∃ P, Mt (pons ks 0) (pons ls 0) 0 0 (pons ks 0).length (pons ls 0).length P ∧ costM (pons ks 0) (pons ls 0) (pons ks 0).length (pons ls 0).length P = n
theorem Fm.app {ks ls ks' ls' : List Ex} {n m : Int} (h : Fm ks ls n) (h' : Fm ks' ls' m) : Fm (ks ++ ks') (ls ++ ls') (n + m) := by
  obtain ⟨P, h1, h2⟩ := h
  obtain ⟨Q, h3, h4⟩ := h'
  obtain ⟨k1, k2⟩ := mt_cat h1 h3
  rw [Fm, pons_app, pons_app]
  exact ⟨_, k1, by rw [k2, h2, h4]⟩
theorem Fm.self (ks : List Ex) : Fm ks ks 0 := ⟨_, mt_self _, cost_self _⟩
theorem Fm.swap {ks ls : List Ex} {n : Int} (h : Fm ks ls n) : Fm ls ks n := by
  obtain ⟨P, h1, h2⟩ := h
  obtain ⟨k1, k2⟩ := mt_swap h1
  exact ⟨_, k1, k2.trans h2⟩
theorem Fm.least {a b : Ex} (hg : good a ∧ good b) : Fm [a] [b] (leastV a b) := by
  obtain ⟨P, h1, h2⟩ := leastV_mt hg
  rw [Fm, pons_one, pons_one]
  exact ⟨P, h1, h2.symm⟩
theorem Fm.le {a b : Ex} {n : Int} (hg : good a ∧ good b) (h : Fm [a] [b] n) : leastV a b ≤ n := by
  rw [Fm, pons_one, pons_one] at h
  obtain ⟨P, h1, rfl⟩ := h
  exact leastV_le hg h1
theorem snoc_l {a : List MNode} {x : MNode} {i : Nat} (h : i < a.length) : fstAt (a ++ [x]) i = fstAt a i ∧ exAt (a ++ [x]) i = exAt a i := by
  simp only [fstAt, exAt, List.getD_eq_getElem?_getD, List.getElem?_append_left h, and_self]
theorem snoc_r {a : List MNode} {x : MNode} : fstAt (a ++ [x]) a.length = x.first ∧ exAt (a ++ [x]) a.length = x.e := by
  simp [fstAt, exAt, List.getD_eq_getElem?_getD]
theorem chgs_snoc {a c : List MNode} {x y : MNode} : ∀ (P : List (Nat × Nat)), (∀ p ∈ P, p.1 < a.length ∧ p.2 < c.length) → chgs (a ++ [x]) (c ++ [y]) P = chgs a c P
  | [], _ => rfl
  | p :: P, h => by
    have h1 := h p (List.mem_cons_self ..)
    rw [chgs, chgs, chgs_snoc P (fun q hq => h q (List.mem_cons_of_mem _ hq)), chg, chg, (snoc_l h1.1).2, (snoc_l h1.2).2]
theorem chgs_snoc1 {a c : List MNode} {y : MNode} : ∀ (P : List (Nat × Nat)), (∀ p ∈ P, p.1 < a.length ∧ p.2 < c.length) → chgs a (c ++ [y]) P = chgs a c P
  | [], _ => rfl
  | p :: P, h => by
    have h1 := h p (List.mem_cons_self ..)
    rw [chgs, chgs, chgs_snoc1 P (fun q hq => h q (List.mem_cons_of_mem _ hq)), chg, chg, (snoc_l h1.2).2]
/-- A root above each. -/
theorem Fm.root {a b : Ex} {n : Int} (h : Fm a.kids b.kids n) : Fm [a] [b] (n + if a.like b then 0 else 1) := by
  obtain ⟨P, h1, h2⟩ := h
  have hp : ∀ p ∈ P, p.1 < (pons a.kids 0).length ∧ p.2 < (pons b.kids 0).length := fun p h => by have := h1.inn p h; omega
  rw [Fm, pons_one, pons_one, pon_eq, pon_eq]
  refine ⟨P ++ [((pons a.kids 0).length, (pons b.kids 0).length)], ⟨fun p h => ?_, ?_⟩, ?_⟩
  · simp only [List.length_append, List.length_singleton]
    rcases List.mem_append.1 h with h | h
    · have := hp p h; omega
    · obtain rfl := List.mem_singleton.1 h
      simp only []; omega
  · rw [List.pairwise_append]
    refine ⟨h1.pw.imp_of_mem ?_, by simp, ?_⟩
    · intro p q h1 h2 hc
      have k1 := hp p h1
      have k2 := hp q h2
      simp only [compat, (snoc_l k1.1).1, (snoc_l k1.2).1, (snoc_l k2.1).1, (snoc_l k2.2).1]
      exact hc
    · intro p h1 q h2
      obtain rfl := List.mem_singleton.1 h2
      have k1 := hp p h1
      simp only [compat, (snoc_l k1.1).1, (snoc_l k1.2).1, snoc_r.1]
      omega
  · rw [costM, chgs_app, chgs_snoc P hp, chgs, chgs, chg]
    simp only [snoc_r.2, List.length_append, List.length_singleton]
    rw [costM] at h2
    omega
/-- A node more, above some that were there. -/
theorem Fm.more {a : Ex} : Fm a.kids [a] 1 := by
  obtain ⟨h1, h2⟩ := And.intro (mt_self (pons a.kids 0)) (cost_self (pons a.kids 0))
  have hp : ∀ p ∈ idP (pons a.kids 0).length, p.1 < (pons a.kids 0).length ∧ p.2 < (pons a.kids 0).length := fun p h => by have := h1.inn p h; omega
  rw [Fm, pons_one, pon_eq]
  refine ⟨_, ⟨fun p h => ?_, h1.pw.imp_of_mem ?_⟩, ?_⟩
  · simp only [List.length_append, List.length_singleton]
    have := hp p h; omega
  · intro p q h1 h2 hc
    have k1 := hp p h1
    have k2 := hp q h2
    simp only [compat, (snoc_l k1.2).1, (snoc_l k2.2).1]
    exact hc
  · rw [costM] at h2
    rw [costM, chgs_snoc1 _ hp]
    simp only [List.length_append, List.length_singleton]
    omega
/-- The sum over two lists of the same length. -/
noncomputable def sumL : List Ex → List Ex → Int
  | k :: ks, l :: ls => leastV k l + sumL ks ls
  | _, _ => 0
theorem Fm.sum : ∀ (ks ls : List Ex), ks.length = ls.length → (∀ k ∈ ks, good k) → (∀ l ∈ ls, good l) → Fm ks ls (sumL ks ls)
  | [], [], _, _, _ => Fm.self []
  | [], l :: ls, h, _, _ => by simp at h
  | k :: ks, [], h, _, _ => by simp at h
  | k :: ks, l :: ls, h, h1, h2 => (Fm.least ⟨h1 k (List.mem_cons_self ..), h2 l (List.mem_cons_self ..)⟩).app (Fm.sum ks ls (by simpa using h) (fun x hx => h1 x (List.mem_cons_of_mem _ hx)) (fun x hx => h2 x (List.mem_cons_of_mem _ hx)))
theorem sumL_snoc : ∀ (ks ls : List Ex) (i : Nat) (k l : Ex), ks[i]? = some k → ls[i]? = some l → sumL (ks.take (i + 1)) (ls.take (i + 1)) = sumL (ks.take i) (ls.take i) + leastV k l
  | [], _, i, k, l, h, _ => by simp at h
  | _ :: _, [], i, k, l, _, h => by simp at h
  | x :: xs, y :: ys, 0, k, l, h, h' => by
    simp at h h'
    subst h; subst h'
    simp [sumL]
  | x :: xs, y :: ys, i + 1, k, l, h, h' => by
    rw [List.getElem?_cons_succ] at h h'
    rw [List.take_succ_cons, List.take_succ_cons, sumL, sumL_snoc xs ys i k l h h', List.take_succ_cons, List.take_succ_cons, sumL]
    omega
/-- Where the roots are alike and have as many children, the least is no more than the sum of the children's. -/
theorem least_parts {a b : Ex} (hg : good a ∧ good b) (hl : a.like b) (hk : a.kids.length = b.kids.length) : leastV a b ≤ sumL a.kids b.kids := by
  have h := (Fm.sum a.kids b.kids hk (fun k h => good_kid hg.1 h) (fun k h => good_kid hg.2 h)).root
  rw [if_pos hl, Int.add_zero] at h
  exact h.le hg
theorem sumL_bds : ∀ (ks ls : List Ex), (∀ k ∈ ks, good k) → (∀ l ∈ ls, good l) → 0 ≤ sumL ks ls ∧ sumL ks ls ≤ (Ex.sizes ks : Int) + Ex.sizes ls
  | [], _, _, _ => by simp only [sumL]; omega
  | _ :: _, [], _, _ => by simp only [sumL]; omega
  | k :: ks, l :: ls, h1, h2 => by
    have h3 := sumL_bds ks ls (fun x hx => h1 x (List.mem_cons_of_mem _ hx)) (fun x hx => h2 x (List.mem_cons_of_mem _ hx))
    have hg := And.intro (h1 k (List.mem_cons_self ..)) (h2 l (List.mem_cons_self ..))
    have h4 := leastV_up hg
    have h5 := leastV_nonneg hg
    simp only [sumL, Ex.sizes]
    omega
theorem sizes_take : ∀ (l : List Ex) (i : Nat), Ex.sizes (l.take i) ≤ Ex.sizes l
  | [], i => by simp [Ex.sizes]
  | x :: xs, 0 => by simp [Ex.sizes]
  | x :: xs, i + 1 => by have := sizes_take xs i; rw [List.take_succ_cons, Ex.sizes, Ex.sizes]; omega
theorem mem_take {α : Type} {l : List α} {i : Nat} {x : α} (h : x ∈ l.take i) : x ∈ l := List.mem_of_mem_take h
theorem good_size {e : Ex} (h : good e) : e.size ≤ 128 := h.2.1
/-- The like of one with the ID, the children and the names of the other. -/
def asLike (a b : Ex) : Ex := .mk b.id a.kind a.n a.ref a.ty b.kids b.names
theorem asLike_good {a b : Ex} (h : good b) : good (asLike a b) := by
  unfold good at h ⊢
  rw [dep_eq, Ex.size_eq, pre_eq] at h ⊢
  exact h
theorem RdL.take {M : Mem} {ds : List D} {us : List Value} (h : RdL M ds us) (q : Nat) : RdL M (ds.take q) (us.take q) := by
  refine ⟨by simp [h.1], fun k d u h1 h2 => ?_⟩
  rw [List.getElem?_take] at h1 h2
  split at h1
  · rename_i hk
    rw [if_pos hk] at h2
    exact h.2 k d u h1 h2
  · cases h1
theorem RdL.drop {M : Mem} {ds : List D} {us : List Value} (h : RdL M ds us) (q : Nat) : RdL M (ds.drop q) (us.drop q) := by
  refine ⟨by simp [h.1], fun k d u h1 h2 => ?_⟩
  rw [List.getElem?_drop] at h1 h2
  exact h.2 _ d u h1 h2
theorem RdL.splice {M : Mem} {ds es : List D} {us vs : List Value} (h : RdL M ds us) (k : RdL M es vs) (q : Nat) : RdL M (ds.take q ++ es ++ ds.drop (q + es.length)) (us.take q ++ vs ++ us.drop (q + vs.length)) := by
  have := k.1
  rw [this]
  exact ((h.take q).append k).append (h.drop _)
theorem asLike_enc (a b : Ex) : (asLike a b).enc = ((((b.enc.set 3 (dint a.kind)).set 4 (dint a.n)).take 5 ++ a.ref.enc ++ ((b.enc.set 3 (dint a.kind)).set 4 (dint a.n)).drop (5 + a.ref.enc.length)).take 8 ++ a.ty.enc ++ (((b.enc.set 3 (dint a.kind)).set 4 (dint a.n)).take 5 ++ a.ref.enc ++ ((b.enc.set 3 (dint a.kind)).set 4 (dint a.n)).drop (5 + a.ref.enc.length)).drop (8 + a.ty.enc.length)) := by
  rw [Ex.enc_eq, Ex.enc_eq b, Ty.enc_eq]
  rfl
theorem asLike_rd {M : Mem} {a b : Ex} {us ts : List Value} (hb : RdL M b.enc us) (ht : RdL M a.ty.enc ts) : RdL M (asLike a b).enc ((((us.set 3 (vint a.kind)).set 4 (vint a.n)).take 5 ++ a.ref.vals ++ ((us.set 3 (vint a.kind)).set 4 (vint a.n)).drop (5 + a.ref.vals.length)).take 8 ++ ts ++ (((us.set 3 (vint a.kind)).set 4 (vint a.n)).take 5 ++ a.ref.vals ++ ((us.set 3 (vint a.kind)).set 4 (vint a.n)).drop (5 + a.ref.vals.length)).drop (8 + ts.length)) := by
  rw [asLike_enc]
  exact RdL.splice (RdL.splice ((hb.set 3 (Rd.i _)).set 4 (Rd.i _)) (IdT.rd _) 5) ht 8
end Xe
