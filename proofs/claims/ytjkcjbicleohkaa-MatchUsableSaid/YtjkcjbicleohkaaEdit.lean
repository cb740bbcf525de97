/- ONE EDIT OF AN EXPRESSION, plain. No program in sight. -/
import Derived.Test.YtjkcjbicleohkaaForest
namespace Xe
open Go
def setKids (c : Ex) (kids : List Ex) : Ex := .mk c.id c.kind c.n c.ref c.ty kids c.names
theorem setKids_enc (c : Ex) (kids : List Ex) : (setKids c kids).enc = c.enc.set 13 (.sl kids.length 15 (kids.flatMap Ex.enc)) := by
  rw [Ex.enc_eq, Ex.enc_eq c]; rfl
theorem setKids_self (c : Ex) : setKids c c.kids = c := by cases c; rfl
theorem setKids_like (c : Ex) (kids : List Ex) : c.like (setKids c kids) := ⟨rfl, rfl, rfl, rfl⟩
def frmN (w : Int) (len : Nat) : Nat := (w.tmod ((len : Int) + 1)).toNat
def toN (w : Int) (len : Nat) : Nat := frmN w len + ((w.tdiv 7).tmod ((len : Int) - frmN w len + 1)).toNat
theorem frmN_le {w : Int} {len : Nat} (hw : 0 ≤ w) : ((frmN w len : Nat) : Int) = w.tmod ((len : Int) + 1) ∧ frmN w len ≤ len := by
  unfold frmN
  rw [Int.tmod_eq_emod_of_nonneg hw]
  have h1 := Int.emod_nonneg w (show (len : Int) + 1 ≠ 0 by omega)
  have h2 := Int.emod_lt_of_pos w (show (0 : Int) < (len : Int) + 1 by omega)
  omega
theorem toN_le {w : Int} {len : Nat} (hw : 0 ≤ w) : ((toN w len : Nat) : Int) = frmN w len + (w.tdiv 7).tmod ((len : Int) - frmN w len + 1) ∧ frmN w len ≤ toN w len ∧ toN w len ≤ len := by
  have h0 := (frmN_le (len := len) hw).2
  have hq : 0 ≤ w.tdiv 7 := Int.tdiv_nonneg hw (by omega)
  unfold toN
  rw [Int.tmod_eq_emod_of_nonneg hq]
  have h1 := Int.emod_nonneg (w.tdiv 7) (show (len : Int) - frmN w len + 1 ≠ 0 by omega)
  have h2 := Int.emod_lt_of_pos (w.tdiv 7) (show (0 : Int) < (len : Int) - frmN w len + 1 by omega)
  omega
def midKids (w : Int) (kids : List Ex) : List Ex := (kids.drop (frmN w kids.length)).take (toN w kids.length - frmN w kids.length)
def insKids (w : Int) (id : IdT) (kids : List Ex) : List Ex := kids.take (frmN w kids.length) ++ [setKids (contentE w id) (midKids w kids)] ++ kids.drop (toN w kids.length)
mutual
def edE (how w : Int) (id : IdT) : Ex → Int → Ex × Int
  | .mk i k n r t kids s, a =>
    if a = 0 ∧ how.tmod 3 = 0 then (setKids (contentE w i) kids, -1)
    else if a = 0 ∧ how.tmod 3 = 1 then (.mk i k n r t (insKids w id kids) s, -1)
    else (.mk i k n r t (edK how w id kids (a - 1)).1 s, (edK how w id kids (a - 1)).2)
def edK (how w : Int) (id : IdT) : List Ex → Int → List Ex × Int
  | [], a => ([], a)
  | x :: xs, a =>
    if a = 0 ∧ how.tmod 3 = 2 then (x.kids ++ (edK how w id xs (-1)).1, (edK how w id xs (-1)).2)
    else if a < 0 then (x :: (edK how w id xs a).1, (edK how w id xs a).2)
    else ((edE how w id x a).1 :: (edK how w id xs (edE how w id x a).2).1, (edK how w id xs (edE how w id x a).2).2)
end
theorem edE_eq (how w : Int) (id : IdT) (e : Ex) (a : Int) : edE how w id e a = if a = 0 ∧ how.tmod 3 = 0 then (setKids (contentE w e.id) e.kids, -1) else if a = 0 ∧ how.tmod 3 = 1 then (setKids e (insKids w id e.kids), -1) else (setKids e (edK how w id e.kids (a - 1)).1, (edK how w id e.kids (a - 1)).2) := by
  cases e; rw [edE]; rfl
theorem edK_app (how w : Int) (id : IdT) : ∀ (xs ys : List Ex) (a : Int), edK how w id (xs ++ ys) a = ((edK how w id xs a).1 ++ (edK how w id ys (edK how w id xs a).2).1, (edK how w id ys (edK how w id xs a).2).2)
  | [], ys, a => by rw [List.nil_append, edK, List.nil_append]
  | x :: xs, ys, a => by
    rw [List.cons_append, edK, edK]
    split
    · rw [edK_app how w id xs ys]; simp
    · split
      · rw [edK_app how w id xs ys]; simp
      · rw [edK_app how w id xs ys]; simp
/-- No more than one edit. -/
def Ed (id : IdT) (ks ls : List Ex) : Prop := (∃ n, n ≤ 1 ∧ Fm ks ls n) ∧ (∀ x, (pres ls).count x ≤ (pres ks).count x + if x = id then 1 else 0) ∧ Ex.sizes ls ≤ Ex.sizes ks + 1
theorem Ed.refl (id : IdT) (ks : List Ex) : Ed id ks ks := ⟨⟨0, by omega, Fm.self ks⟩, fun x => by omega, by omega⟩
theorem sizes_app (a b : List Ex) : Ex.sizes (a ++ b) = Ex.sizes a + Ex.sizes b := by
  rw [← pres_len, ← pres_len, ← pres_len, pres_app, List.length_append]
theorem Ed.app_l {id : IdT} {ks ls : List Ex} (as : List Ex) (h : Ed id ks ls) : Ed id (as ++ ks) (as ++ ls) := by
  obtain ⟨⟨n, h1, h2⟩, h3, h4⟩ := h
  refine ⟨⟨0 + n, by omega, (Fm.self as).app h2⟩, fun x => ?_, ?_⟩
  · rw [pres_app, pres_app, List.count_append, List.count_append]
    have := h3 x
    omega
  · rw [sizes_app, sizes_app]; omega
theorem Ed.app_r {id : IdT} {ks ls : List Ex} (as : List Ex) (h : Ed id ks ls) : Ed id (ks ++ as) (ls ++ as) := by
  obtain ⟨⟨n, h1, h2⟩, h3, h4⟩ := h
  refine ⟨⟨n + 0, by omega, h2.app (Fm.self as)⟩, fun x => ?_, ?_⟩
  · rw [pres_app, pres_app, List.count_append, List.count_append]
    have := h3 x
    omega
  · rw [sizes_app, sizes_app]; omega
theorem pres_one (e : Ex) : pres [e] = e.id :: pres e.kids := by rw [pres, pres, List.append_nil, pre_eq]
theorem sizes_one (e : Ex) : Ex.sizes [e] = 1 + Ex.sizes e.kids := by rw [Ex.sizes, Ex.sizes, Nat.add_zero, Ex.size_eq]
/-- A node more. -/
theorem Ed.ins (x : Ex) : Ed x.id x.kids [x] := by
  refine ⟨⟨1, by omega, Fm.more⟩, fun y => ?_, by rw [sizes_one]; omega⟩
  rw [pres_one, List.count_cons]
  by_cases h : y = x.id
  · rw [if_pos h]; split <;> omega
  · rw [if_neg h, if_neg (by simpa using fun e => h e.symm)]
    exact Nat.le_refl _
/-- A node less. -/
theorem Ed.del (id : IdT) (x : Ex) : Ed id [x] x.kids := by
  refine ⟨⟨1, by omega, Fm.more.swap⟩, fun y => ?_, by rw [sizes_one]; omega⟩
  rw [pres_one, List.count_cons]
  omega
/-- The children edited. -/
theorem Ed.kids {id : IdT} {e : Ex} {ls : List Ex} (h : Ed id e.kids ls) : Ed id [e] [setKids e ls] := by
  obtain ⟨⟨n, h1, h2⟩, h3, h4⟩ := h
  have hr := Fm.root (a := e) (b := setKids e ls) h2
  rw [if_pos (setKids_like e ls)] at hr
  refine ⟨⟨_, by omega, hr⟩, fun y => ?_, by rw [sizes_one, sizes_one]; show 1 + Ex.sizes ls ≤ _; omega⟩
  rw [pres_one, pres_one, List.count_cons, List.count_cons]
  have := h3 y
  show (pres ls).count y + _ ≤ _
  rw [show (setKids e ls).id = e.id from rfl]
  omega
/-- The root's content another. -/
theorem Ed.label (id : IdT) (e c : Ex) (hc : c.id = e.id) : Ed id [e] [setKids c e.kids] := by
  have hr := Fm.root (a := e) (b := setKids c e.kids) (Fm.self e.kids)
  refine ⟨⟨_, ?_, hr⟩, fun y => ?_, by rw [sizes_one, sizes_one]; show 1 + Ex.sizes e.kids ≤ _; omega⟩
  · split <;> omega
  · rw [pres_one, pres_one, show (setKids c e.kids).id = e.id from hc]
    show (e.id :: pres e.kids).count y ≤ _
    omega
theorem Ed.insKids {w : Int} (hw : 0 ≤ w) (id : IdT) (kids : List Ex) : Ed id kids (insKids w id kids) := by
  have h := (Ed.ins (setKids (contentE w id) (midKids w kids)))
  have h2 := ((h.app_l (kids.take (frmN w kids.length))).app_r (kids.drop (toN w kids.length)))
  have e : kids.take (frmN w kids.length) ++ (setKids (contentE w id) (midKids w kids)).kids ++ kids.drop (toN w kids.length) = kids := by
    show kids.take (frmN w kids.length) ++ (kids.drop (frmN w kids.length)).take (toN w kids.length - frmN w kids.length) ++ kids.drop (toN w kids.length) = kids
    have h3 := toN_le (len := kids.length) hw
    have h4 : kids.drop (toN w kids.length) = (kids.drop (frmN w kids.length)).drop (toN w kids.length - frmN w kids.length) := by rw [List.drop_drop]; congr 1; omega
    rw [h4, List.append_assoc, List.take_append_drop, List.take_append_drop]
  rw [e] at h2
  exact h2
mutual
theorem edE_spec (how w : Int) (hw : 0 ≤ w) (id : IdT) : ∀ (e : Ex) (a : Int), Ed id [e] [(edE how w id e a).1] ∧ (a < 0 → (edE how w id e a).1 = e ∧ (edE how w id e a).2 < 0) ∧ (0 ≤ (edE how w id e a).2 → (edE how w id e a).1 = e)
  | .mk i k n r t kids s, a => by
    obtain ⟨h1, h2, h3⟩ := edK_spec how w hw id kids (a - 1)
    rw [edE]
    split
    · refine ⟨Ed.label id (.mk i k n r t kids s) (contentE w i) rfl, fun h => by omega, fun h => ?_⟩
      exact absurd h (by show ¬ (0 : Int) ≤ -1; decide)
    · split
      · refine ⟨Ed.kids (e := .mk i k n r t kids s) (Ed.insKids hw id kids), fun h => by omega, fun h => ?_⟩
        exact absurd h (by show ¬ (0 : Int) ≤ -1; decide)
      · refine ⟨Ed.kids (e := .mk i k n r t kids s) h1, fun h => ?_, fun h => ?_⟩
        · obtain ⟨k1, k2⟩ := h2 (by omega)
          simp only [k1]
          exact ⟨trivial, k2⟩
        · simp only [h3 h]
theorem edK_spec (how w : Int) (hw : 0 ≤ w) (id : IdT) : ∀ (ks : List Ex) (a : Int), Ed id ks (edK how w id ks a).1 ∧ (a < 0 → (edK how w id ks a).1 = ks ∧ (edK how w id ks a).2 < 0) ∧ (0 ≤ (edK how w id ks a).2 → (edK how w id ks a).1 = ks)
  | [], a => by
    rw [edK]
    exact ⟨Ed.refl _ _, fun h => ⟨rfl, h⟩, fun _ => rfl⟩
  | x :: xs, a => by
    rw [edK]
    split
    · obtain ⟨_, h2, _⟩ := edK_spec how w hw id xs (-1)
      obtain ⟨k1, k2⟩ := h2 (by decide)
      refine ⟨?_, fun h => by omega, fun h => by simp only [] at h; omega⟩
      simp only [k1]
      exact (Ed.del id x).app_r xs
    · split
      · rename_i ha
        obtain ⟨_, h2, _⟩ := edK_spec how w hw id xs a
        obtain ⟨k1, k2⟩ := h2 ha
        simp only [k1]
        exact ⟨Ed.refl _ _, fun _ => ⟨trivial, k2⟩, fun _ => trivial⟩
      · rename_i ha
        obtain ⟨h1, h2, h3⟩ := edE_spec how w hw id x a
        obtain ⟨g1, g2, g3⟩ := edK_spec how w hw id xs (edE how w id x a).2
        by_cases hp : 0 ≤ (edE how w id x a).2
        · simp only [h3 hp]
          exact ⟨g1.app_l [x], fun h => absurd h ha, fun h => by rw [g3 h]⟩
        · obtain ⟨k1, k2⟩ := g2 (by omega)
          simp only [k1]
          exact ⟨h1.app_r xs, fun h => absurd h ha, fun h => by omega⟩
end
theorem nodup_of_count {l : List IdT} (h : ∀ x, l.count x ≤ 1) : l.Nodup := by
  induction l with
  | nil => exact List.nodup_nil
  | cons a t ih =>
    rw [List.nodup_cons]
    refine ⟨fun hm => ?_, ih fun x => ?_⟩
    · have h1 := h a
      rw [List.count_cons_self] at h1
      have h2 := List.count_pos_iff.2 hm
      omega
    · have h1 := h x
      rw [List.count_cons] at h1
      omega
theorem count_of_nodup {l : List IdT} (h : l.Nodup) (x : IdT) : l.count x ≤ 1 := by
  induction l with
  | nil => simp
  | cons a t ih =>
    rw [List.nodup_cons] at h
    rw [List.count_cons]
    have h1 := ih h.2
    split
    · rename_i he
      have : a = x := by simpa using he
      subst this
      rw [List.count_eq_zero.2 h.1]
      omega
    · omega
theorem edK_step (how w : Int) (id : IdT) (ks : List Ex) (a : Int) {i : Nat} (hi : i < ks.length) : edK how w id (ks.take (i + 1)) a = ((edK how w id (ks.take i) a).1 ++ (edK how w id [ks[i]] (edK how w id (ks.take i) a).2).1, (edK how w id [ks[i]] (edK how w id (ks.take i) a).2).2) := by
  rw [List.take_succ_eq_append_getElem hi, edK_app]
theorem edK_del {how w : Int} {id : IdT} {x : Ex} {a : Int} (h : a = 0 ∧ how.tmod 3 = 2) : edK how w id [x] a = (x.kids, -1) := by
  rw [edK, if_pos h, edK, List.append_nil]
theorem edK_same {how w : Int} {id : IdT} {x : Ex} {a : Int} (h : ¬ (a = 0 ∧ how.tmod 3 = 2)) (ha : a < 0) : edK how w id [x] a = ([x], a) := by
  rw [edK, if_neg h, if_pos ha, edK]
theorem edK_rec {how w : Int} {id : IdT} {x : Ex} {a : Int} (h : ¬ (a = 0 ∧ how.tmod 3 = 2)) (ha : ¬ a < 0) : edK how w id [x] a = ([(edE how w id x a).1], (edE how w id x a).2) := by
  rw [edK, if_neg h, if_neg ha, edK]
mutual
theorem edE_bd (how w : Int) (id : IdT) : ∀ (e : Ex) (a : Int), 0 ≤ a → -1 ≤ (edE how w id e a).2 ∧ (edE how w id e a).2 ≤ a
  | .mk i k n r t kids s, a, h => by
    have h1 := edK_bd how w id kids (a - 1) (by omega)
    rw [edE]
    split
    · simp only []; omega
    · split
      · simp only []; omega
      · simp only []; omega
theorem edK_bd (how w : Int) (id : IdT) : ∀ (ks : List Ex) (a : Int), -1 ≤ a → -1 ≤ (edK how w id ks a).2 ∧ (edK how w id ks a).2 ≤ a
  | [], a, h => by rw [edK]; simp only []; omega
  | x :: xs, a, h => by
    rw [edK]
    split
    · have := edK_bd how w id xs (-1) (by omega)
      simp only []; omega
    · split
      · exact edK_bd how w id xs a h
      · have h1 := edE_bd how w id x a (by omega)
        have h2 := edK_bd how w id xs (edE how w id x a).2 h1.1
        simp only []; omega
end
theorem cut_mid (xs : List Ex) (f t : Nat) (ht : f ≤ t ∧ t ≤ xs.length) : D.sl (0 + (t - f)) 15 (((xs.flatMap Ex.enc).drop (f * 15)).take ((t - f) * 15)) = .sl ((xs.drop f).take (t - f)).length 15 (((xs.drop f).take (t - f)).flatMap Ex.enc) := by
  rw [flat_drop Ex.enc_len, flat_takeN Ex.enc_len, Nat.zero_add, List.length_take, List.length_drop, Nat.min_eq_left (by omega)]
theorem cut_to (xs : List Ex) (f : Nat) : ((xs.flatMap Ex.enc).drop (0 * 15)).take ((f - 0) * 15) = (xs.take f).flatMap Ex.enc := by
  rw [flat_drop Ex.enc_len, flat_takeN Ex.enc_len, Nat.sub_zero, List.drop_zero]
theorem cut_from (xs : List Ex) (t : Nat) : ((xs.flatMap Ex.enc).drop (t * 15)).take ((xs.length - t) * 15) = (xs.drop t).flatMap Ex.enc := by
  rw [flat_drop Ex.enc_len, flat_takeN Ex.enc_len, List.take_of_length_le (by simp)]
theorem insKids_len {w : Int} (hw : 0 ≤ w) (id : IdT) (kids : List Ex) : (insKids w id kids).length = frmN w kids.length + 1 + (kids.length - toN w kids.length) := by
  have h1 := (frmN_le (len := kids.length) hw).2
  simp only [insKids, List.length_append, List.length_take, List.length_drop, List.length_singleton]
  omega
/-- The place of the children's list. -/
theorem kids_at {M : Mem} {e : Ex} {us : List Value} (h : RdL M e.enc us) : ∃ a c, us[13]? = some (.slice a e.kids.length c) ∧ e.kids.length ≤ c ∧ e.kids.length ≤ 140737488355328 ∧ Rd M (.sl e.kids.length 15 (e.kids.flatMap Ex.enc)) (.slice a e.kids.length c) := by
  obtain ⟨u, h1, h2⟩ := h.get (q := 13) (e := .sl e.kids.length 15 (e.kids.flatMap Ex.enc)) (by rw [Ex.enc_eq]; rfl)
  obtain ⟨a, c, rfl, h3, h4, _⟩ := h2.slice
  exact ⟨a, c, h1, h3, h4, h2⟩
theorem kids_size {e k : Ex} (h : k ∈ e.kids) : k.size < e.size := by
  have : ∀ l : List Ex, k ∈ l → k.size ≤ Ex.sizes l := by
    intro l
    induction l with
    | nil => intro h; simp at h
    | cons x xs ih =>
      intro h
      rw [Ex.sizes]
      rcases List.mem_cons.1 h with rfl | h
      · omega
      · have := ih h; omega
  have := this _ h
  rw [Ex.size_eq e]; omega
theorem len_sizes : ∀ l : List Ex, l.length ≤ Ex.sizes l
  | [] => by simp
  | x :: xs => by
    have := len_sizes xs
    rw [Ex.sizes, List.length_cons, Ex.size_eq]; omega
theorem edK_len (how w : Int) (hw : 0 ≤ w) (id : IdT) (e : Ex) (i : Nat) (a : Int) : (edK how w id (e.kids.take i) a).1.length ≤ e.size := by
  have h1 := (edK_spec how w hw id (e.kids.take i) a).1.2.2
  have h2 := len_sizes (edK how w id (e.kids.take i) a).1
  have h3 := sizes_take e.kids i
  rw [Ex.size_eq e]
  omega
theorem kid_kids {l : List Ex} {i : Nat} (h : i < l.length) : (l.flatMap Ex.enc)[i * 15 + 13]? = some (.sl l[i].kids.length 15 (l[i].kids.flatMap Ex.enc)) := by
  have h1 := flat_take Ex.enc_len l i _ (List.getElem?_eq_getElem h)
  have h2 : (((l.flatMap Ex.enc).drop (i * 15)).take 15)[13]? = some (.sl l[i].kids.length 15 (l[i].kids.flatMap Ex.enc)) := by rw [h1, Ex.enc_eq]; rfl
  rw [List.getElem?_take, if_pos (by omega), List.getElem?_drop] at h2
  exact h2
def edd (e : Ex) (at0 how w : Int) (id : IdT) : Ex := (edE (around how 3) (around w 10000) id e (around at0 e.size)).1
/-! ### Several edits -/
structure EdI (a c : Ex) (i : Nat) : Prop where
  le : leastV a c ≤ i
  ok : good c
  sz : c.size ≤ 10 + i
  ids : ∀ x ∈ pre c, ∃ k : Int, x = idOf k ∧ (0 ≤ k ∧ k < 10 ∨ 60 ≤ k ∧ k < 60 + i)
theorem leastV_self {a : Ex} (h : good a) : leastV a a ≤ 0 := by
  have := leastV_le ⟨h, h⟩ (mt_self (pon a 0))
  rwa [cost_self] at this
theorem pres1 (e : Ex) : pres [e] = pre e := by rw [pres, pres, List.append_nil]
theorem EdI.start {l : List Int} {a : Ex} (ha : a = tree l 10 0) (h : good a) : EdI a a 0 := by
  have h1 := tree_spec l 10 0 (by omega)
  have h2 := tree_size l 10 0 (by omega)
  rw [← ha] at h1 h2
  refine ⟨leastV_self h, h, by omega, fun x hx => ?_⟩
  have := h1.1.mem_iff.1 hx
  obtain ⟨k, hk, rfl⟩ := List.mem_map.1 this
  rw [List.mem_range] at hk
  exact ⟨0 + (k : Int), rfl, by omega⟩
theorem EdI.step {a c : Ex} {i : Nat} (ha : good a) (h : EdI a c i) (hi : i < 5) (x y z : Int) : EdI a (edd c x y z (idOf (60 + (i : Int)))) (i + 1) := by
  have hz := around_lt z 10000 (by omega)
  obtain ⟨⟨n, h1, h2⟩, h3, h4⟩ := (edE_spec (around y 3) (around z 10000) hz.1 (idOf (60 + (i : Int))) c (around x c.size)).1
  have hd : edd c x y z (idOf (60 + (i : Int))) = (edE (around y 3) (around z 10000) (idOf (60 + (i : Int))) c (around x c.size)).1 := rfl
  rw [← hd] at h2 h3 h4
  generalize edd c x y z (idOf (60 + (i : Int))) = c' at *
  rw [pres1, pres1] at h3
  have hs : c'.size ≤ c.size + 1 := by simpa [Ex.sizes] using h4
  have hsz := h.sz
  have hn0 : (pre c).count (idOf (60 + (i : Int))) = 0 := by
    rw [List.count_eq_zero]
    intro hm
    obtain ⟨k, hk, hk2⟩ := h.ids _ hm
    have := idOf_inj (by omega) (by omega) hk
    omega
  have hg : good c' := by
    refine good_of (by omega) (nodup_of_count fun q => ?_)
    have k1 := h3 q
    have k2 := count_of_nodup h.ok.2.2 q
    by_cases hq : q = idOf (60 + (i : Int))
    · subst hq
      rw [hn0, if_pos rfl] at k1
      omega
    · rw [if_neg hq] at k1
      omega
  refine ⟨?_, hg, by omega, fun q hq => ?_⟩
  · have t1 := leastV_tri ha hg h.ok
    have t2 := h2.le ⟨h.ok, hg⟩
    have t3 := h.le
    omega
  · by_cases hq2 : q = idOf (60 + (i : Int))
    · exact ⟨_, hq2, by omega⟩
    · have k1 := h3 q
      rw [if_neg hq2] at k1
      have k2 := List.count_pos_iff.2 hq
      obtain ⟨k, hk, hk2⟩ := h.ids q (List.count_pos_iff.1 (by omega))
      exact ⟨k, hk, by omega⟩
end Xe
