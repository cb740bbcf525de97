/- THE PLAIN FUNCTIONS of types and values. No program in sight. -/
import Derived.Test.YtfgkhhfkodlbpaaDat
namespace Xe
open Go

def ex0 : Ex := .mk id0 0 0 id0 ty0 [] []
def def0 : DefT := ⟨id0, 0, id0, ByteArray.empty, [], ty0, ex0, 0, []⟩
def hasDef (p : ProgT) (id : IdT) : Prop := ∃ d ∈ p.defs, d.id = id
instance (p : ProgT) (id : IdT) : Decidable (hasDef p id) := by unfold hasDef; exact inferInstance
def theDef (p : ProgT) (id : IdT) : DefT := (p.defs.find? fun d => decide (d.id = id)).getD def0
theorem theDef_hit {p : ProgT} {id : IdT} {k : Nat} (h : k < p.defs.length) (h1 : ∀ j (hj : j < p.defs.length), j < k → p.defs[j].id ≠ id) (h2 : p.defs[k].id = id) : hasDef p id ∧ theDef p id = p.defs[k] := by
  refine ⟨⟨_, List.getElem_mem h, h2⟩, ?_⟩
  have : p.defs.find? (fun d => decide (d.id = id)) = some p.defs[k] := by
    rw [List.find?_eq_some_iff_getElem]
    exact ⟨by simpa using h2, k, h, rfl, fun j hj => by simpa using h1 j (by omega) hj⟩
  rw [theDef, this]; rfl
theorem theDef_miss {p : ProgT} {id : IdT} (h1 : ∀ j (hj : j < p.defs.length), p.defs[j].id ≠ id) : ¬ hasDef p id ∧ theDef p id = def0 := by
  have hn : ¬ hasDef p id := by
    rintro ⟨d, hd, he⟩
    obtain ⟨j, hj, rfl⟩ := List.mem_iff_getElem.1 hd
    exact h1 j hj he
  refine ⟨hn, ?_⟩
  have : p.defs.find? (fun d => decide (d.id = id)) = none := by
    rw [List.find?_eq_none]
    intro d hd
    simpa using fun e => hn ⟨d, hd, e⟩
  rw [theDef, this]; rfl
/-- The place of the first one that is so, or -1. -/
def idxL {α : Type} (q : α → Bool) (l : List α) : Int := match l.findIdx? q with
  | some i => (i : Int)
  | none => -1
theorem idxL_hit {α : Type} {q : α → Bool} {l : List α} {k : Nat} (h : k < l.length) (h1 : ∀ j (hj : j < l.length), j < k → q l[j] ≠ true) (h2 : q l[k] = true) : idxL q l = k := by
  have : l.findIdx? q = some k := by
    rw [List.findIdx?_eq_some_iff_getElem]
    exact ⟨h, h2, fun j hj => by have := h1 j (by omega) hj; simpa using this⟩
  rw [idxL, this]
theorem idxL_miss {α : Type} {q : α → Bool} {l : List α} (h1 : ∀ j (hj : j < l.length), q l[j] ≠ true) : idxL q l = -1 := by
  have : l.findIdx? q = none := by
    rw [List.findIdx?_eq_none_iff]
    intro y hy
    obtain ⟨j, hj, rfl⟩ := List.mem_iff_getElem.1 hy
    simpa using h1 j hj
  rw [idxL, this]
theorem idxL_cases {α : Type} (q : α → Bool) (l : List α) : (idxL q l = -1 ∧ ∀ j (hj : j < l.length), q l[j] ≠ true) ∨ ∃ k, ∃ h : k < l.length, idxL q l = k ∧ q l[k] = true ∧ ∀ j (hj : j < l.length), j < k → q l[j] ≠ true := by
  unfold idxL
  cases hf : l.findIdx? q with
  | none =>
    refine .inl ⟨rfl, fun j hj => ?_⟩
    have := List.findIdx?_eq_none_iff.1 hf l[j] (List.getElem_mem hj)
    simpa using this
  | some k =>
    obtain ⟨h, h1, h2⟩ := List.findIdx?_eq_some_iff_getElem.1 hf
    exact .inr ⟨k, h, rfl, h1, fun j hj hlt => by simpa using h2 j hlt⟩

theorem idxL_nn {α : Type} {q : α → Bool} {l : List α} (h : ¬ idxL q l < 0) : ∃ k, ∃ h : k < l.length, idxL q l = k ∧ q l[k] = true ∧ ∀ j (hj : j < l.length), j < k → q l[j] ≠ true := by
  rcases idxL_cases q l with ⟨h1, _⟩ | h1
  · omega
  · exact h1
theorem idxL_neg {α : Type} {q : α → Bool} {l : List α} (h : idxL q l < 0) : ∀ j (hj : j < l.length), q l[j] ≠ true := by
  rcases idxL_cases q l with ⟨_, h1⟩ | ⟨k, _, h1, _⟩
  · exact h1
  · omega

/-! ### Types -/
def isTyDef (p : ProgT) (id : IdT) : Prop := hasDef p id ∧ ((theDef p id).kind = 0 ∨ (theDef p id).kind = 1)
instance (p : ProgT) (id : IdT) : Decidable (isTyDef p id) := by unfold isTyDef; exact inferInstance
def validTF (p : ProgT) : Nat → Ty → Bool
  | 0, _ => false
  | n + 1, t => if t.kind = 2 then decide (t.df = id0) && (match t.kids with | [x] => validTF p n x | _ => false)
    else t.kids.isEmpty && (if t.kind = 3 then decide (isTyDef p t.df) else decide (t.df = id0) && decide (t.kind = 0 ∨ t.kind = 1))
def validT (p : ProgT) (t : Ty) : Prop := validTF p 24 t = true
instance (p : ProgT) (t : Ty) : Decidable (validT p t) := by unfold validT; exact inferInstance
theorem validTF_list {p : ProgT} {n : Nat} {t : Ty} (hk : t.kind = 2) : validTF p (n + 1) t = true ↔ t.df = id0 ∧ ∃ y, t.kids = [y] ∧ validTF p n y = true := by
  rw [validTF, if_pos hk, Bool.and_eq_true, decide_eq_true_eq]
  refine and_congr_right fun _ => ?_
  split
  · rename_i x hx; rw [hx]; simp
  · rename_i x hx; simp; exact fun y e => absurd e (hx y)
theorem validTF_kid {p : ProgT} {n : Nat} {t : Ty} (hk : t.kind = 2) (h1 : t.df = id0) (h2 : t.kids.length = 1) : validTF p (n + 1) t = true ↔ validTF p n (t.kids[0]'(by omega)) = true := by
  rw [validTF_list hk]
  have e : t.kids = [t.kids[0]'(by omega)] := by
    apply List.ext_getElem
    · simp [h2]
    · intro i h3 h4; have : i = 0 := by simp at h4; omega
      subst this; rfl
  constructor
  · rintro ⟨_, y, h, hv⟩; simp only [h]; exact hv
  · exact fun hv => ⟨h1, _, e, hv⟩
theorem validTF_kids {p : ProgT} {n : Nat} {t : Ty} (hk : t.kind = 2) (h : validTF p (n + 1) t = true) : t.df = id0 ∧ t.kids.length = 1 := by
  obtain ⟨h1, y, h2, _⟩ := (validTF_list hk).1 h
  exact ⟨h1, by simp [h2]⟩
theorem validTF_def {p : ProgT} {n : Nat} {t : Ty} (hk : t.kind = 3) : validTF p (n + 1) t = true ↔ isTyDef p t.df ∧ t.kids.length = 0 := by
  rw [validTF, if_neg (by omega), if_pos hk, Bool.and_eq_true, decide_eq_true_eq, List.isEmpty_iff, and_comm, List.length_eq_zero_iff]
theorem validTF_one {p : ProgT} {n : Nat} {t : Ty} (hk : t.kind ≠ 2) (hk3 : t.kind ≠ 3) : validTF p (n + 1) t = true ↔ t.kids.length = 0 ∧ t.df = id0 ∧ (t.kind = 0 ∨ t.kind = 1) := by
  rw [validTF, if_neg hk, if_neg hk3, Bool.and_eq_true, Bool.and_eq_true, decide_eq_true_eq, decide_eq_true_eq, List.isEmpty_iff, List.length_eq_zero_iff]

/-! ### Weights, depths, order -/
mutual
def Val.wt : Val → Int
  | .mk k n l => if k = 0 then (if n < 0 then -n else n) else if k = 1 then n else if k = 2 then Val.wts l else if k = 3 then n + Val.wts l else if k = 4 then l.length + Val.wts l else 0
def Val.wts : List Val → Int
  | [] => 0
  | v :: vs => v.wt + Val.wts vs
end
theorem Val.wt_eq (v : Val) : v.wt = if v.kind = 0 then (if v.n < 0 then -v.n else v.n) else if v.kind = 1 then v.n else if v.kind = 2 then Val.wts v.kids else if v.kind = 3 then v.n + Val.wts v.kids else if v.kind = 4 then v.kids.length + Val.wts v.kids else 0 := by
  cases v; rw [Val.wt]; rfl
theorem Val.wts_append : ∀ (l m : List Val), Val.wts (l ++ m) = Val.wts l + Val.wts m
  | [], m => by simp [Val.wts]
  | x :: xs, m => by have := Val.wts_append xs m; simp only [List.cons_append, Val.wts]; omega
theorem Val.wts_succ (l : List Val) (k : Nat) (h : k < l.length) : Val.wts (l.take (k + 1)) = Val.wts (l.take k) + l[k].wt := by
  rw [List.take_succ_eq_append_getElem h, Val.wts_append]; simp [Val.wts]
/-- What a node itself adds. -/
def Val.own (v : Val) : Int := if v.kind = 0 then (if v.n < 0 then -v.n else v.n) else if v.kind = 1 then v.n else if v.kind = 2 then 0 else if v.kind = 3 then v.n else v.kids.length
mutual
def Val.depth : Val → Nat
  | .mk _ _ l => Val.depths l + 1
def Val.depths : List Val → Nat
  | [] => 0
  | v :: vs => max v.depth (Val.depths vs)
end
theorem Val.depth_eq (v : Val) : v.depth = Val.depths v.kids + 1 := by cases v; rw [Val.depth]; rfl
theorem Val.depths_append : ∀ (l m : List Val), Val.depths (l ++ m) = max (Val.depths l) (Val.depths m)
  | [], m => by simp [Val.depths]
  | x :: xs, m => by have := Val.depths_append xs m; simp only [List.cons_append, Val.depths]; omega
theorem Val.depths_succ (l : List Val) (k : Nat) (h : k < l.length) : Val.depths (l.take (k + 1)) = max (Val.depths (l.take k)) l[k].depth := by
  rw [List.take_succ_eq_append_getElem h, Val.depths_append]; simp [Val.depths]
theorem Val.depth_mem : ∀ {l : List Val} {t : Val}, t ∈ l → t.depth ≤ Val.depths l
  | x :: xs, t, h => by
    rw [Val.depths]
    rcases List.mem_cons.1 h with rfl | h
    · omega
    · have := Val.depth_mem h; omega
theorem Val.depth_kid {t k : Val} (h : k ∈ t.kids) : k.depth < t.depth := by
  have := Val.depth_mem h; rw [Val.depth_eq t]; omega
def cmpI (a b : Int) : Int := if a < b then -1 else if b < a then 1 else 0
mutual
def cmpV : Val → Val → Int
  | .mk k n l, .mk k' n' l' => if cmpI k k' ≠ 0 then cmpI k k' else if cmpI n n' ≠ 0 then cmpI n n' else if cmpI l.length l'.length ≠ 0 then cmpI l.length l'.length else cmpVs l l'
def cmpVs : List Val → List Val → Int
  | [], [] => 0
  | [], _ :: _ => -1
  | _ :: _, [] => 1
  | x :: xs, y :: ys => if cmpV x y ≠ 0 then cmpV x y else cmpVs xs ys
end
theorem cmpV_eq (a b : Val) : cmpV a b = if cmpI a.kind b.kind ≠ 0 then cmpI a.kind b.kind else if cmpI a.n b.n ≠ 0 then cmpI a.n b.n else if cmpI a.kids.length b.kids.length ≠ 0 then cmpI a.kids.length b.kids.length else cmpVs a.kids b.kids := by
  cases a; cases b; rw [cmpV]; rfl
theorem cmpVs_hit : ∀ {l m : List Val} {k : Nat} (h : k < l.length) (h' : k < m.length), (∀ j (hj : j < l.length) (hj' : j < m.length), j < k → cmpV l[j] m[j] = 0) → cmpV l[k] m[k] ≠ 0 → cmpVs l m = cmpV l[k] m[k]
  | x :: xs, y :: ys, 0, _, _, _, hn => by rw [cmpVs]; simp only [List.getElem_cons_zero] at hn ⊢; rw [if_pos hn]
  | x :: xs, y :: ys, k + 1, h, h', hz, hn => by
    have h0 := hz 0 (by simp) (by simp) (by omega)
    simp only [List.getElem_cons_zero] at h0
    rw [cmpVs, if_neg (by simp [h0])]
    exact cmpVs_hit (by simpa using h) (by simpa using h') (fun j hj hj' hlt => hz (j + 1) (Nat.succ_lt_succ hj) (Nat.succ_lt_succ hj') (by omega)) hn
theorem cmpVs_zero : ∀ {l m : List Val}, l.length = m.length → (∀ j (hj : j < l.length) (hj' : j < m.length), cmpV l[j] m[j] = 0) → cmpVs l m = 0
  | [], [], _, _ => by rw [cmpVs]
  | x :: xs, y :: ys, hl, hz => by
    have h0 := hz 0 (by simp) (by simp)
    simp only [List.getElem_cons_zero] at h0
    rw [cmpVs, if_neg (by simp [h0])]
    exact cmpVs_zero (by simpa using hl) (fun j hj hj' => hz (j + 1) (Nat.succ_lt_succ hj) (Nat.succ_lt_succ hj'))
theorem cmpVs_short : ∀ {l m : List Val}, l.length < m.length → (∀ j (hj : j < l.length) (hj' : j < m.length), cmpV l[j] m[j] = 0) → cmpVs l m = -1
  | [], y :: ys, _, _ => by rw [cmpVs]
  | x :: xs, y :: ys, hl, hz => by
    have h0 := hz 0 (by simp) (by simp)
    simp only [List.getElem_cons_zero] at h0
    rw [cmpVs, if_neg (by simp [h0])]
    exact cmpVs_short (by simpa using hl) (fun j hj hj' => hz (j + 1) (Nat.succ_lt_succ hj) (Nat.succ_lt_succ hj'))
theorem cmpVs_long : ∀ {l m : List Val} (hl : m.length < l.length), (∀ j (hj : j < l.length) (hj' : j < m.length), cmpV l[j] m[j] = 0) → cmpVs l m = 1
  | x :: xs, [], _, _ => by rw [cmpVs]
  | x :: xs, y :: ys, hl, hz => by
    have h0 := hz 0 (by simp) (by simp)
    simp only [List.getElem_cons_zero] at h0
    rw [cmpVs, if_neg (by simp [h0])]
    exact cmpVs_long (by simpa using hl) (fun j hj hj' => hz (j + 1) (Nat.succ_lt_succ hj) (Nat.succ_lt_succ hj'))
theorem cmpI_range (a b : Int) : cmpI a b = -1 ∨ cmpI a b = 0 ∨ cmpI a b = 1 := by
  unfold cmpI
  split
  · exact .inl rfl
  · split
    · exact .inr (.inr rfl)
    · exact .inr (.inl rfl)
mutual
theorem cmpV_range : ∀ a b : Val, cmpV a b = -1 ∨ cmpV a b = 0 ∨ cmpV a b = 1
  | .mk k n l, .mk k' n' l' => by
    rw [cmpV]
    split
    · exact cmpI_range _ _
    · split
      · exact cmpI_range _ _
      · split
        · exact cmpI_range _ _
        · exact cmpVs_range l l'
theorem cmpVs_range : ∀ l m : List Val, cmpVs l m = -1 ∨ cmpVs l m = 0 ∨ cmpVs l m = 1
  | [], [] => by simp [cmpVs]
  | [], _ :: _ => by simp [cmpVs]
  | _ :: _, [] => by simp [cmpVs]
  | x :: xs, y :: ys => by
    rw [cmpVs]
    split
    · exact cmpV_range x y
    · exact cmpVs_range xs ys
end
def orI : List Int → Int
  | [] => 0
  | x :: xs => if x ≠ 0 then x else orI xs
theorem orI_hit : ∀ {l : List Int} {k : Nat} (h : k < l.length), (∀ j (hj : j < l.length), j < k → ¬ l[j] ≠ 0) → l[k] ≠ 0 → orI l = l[k]
  | x :: xs, 0, _, _, hn => by rw [orI]; simp only [List.getElem_cons_zero] at hn ⊢; rw [if_pos hn]
  | x :: xs, k + 1, h, hz, hn => by
    have h0 := hz 0 (by simp) (by omega)
    simp only [List.getElem_cons_zero] at h0
    rw [orI, if_neg h0]
    exact orI_hit (by simpa using h) (fun j hj hlt => hz (j + 1) (Nat.succ_lt_succ hj) (by omega)) hn
theorem orI_miss : ∀ {l : List Int}, (∀ j (hj : j < l.length), ¬ l[j] ≠ 0) → orI l = 0
  | [], _ => rfl
  | x :: xs, hz => by
    have h0 := hz 0 (by simp)
    simp only [List.getElem_cons_zero] at h0
    rw [orI, if_neg h0]
    exact orI_miss (fun j hj => hz (j + 1) (Nat.succ_lt_succ hj))
def head3 (v : Val) : List Int := [v.kind, v.n, v.kids.length]
theorem head3_eq {a b : Val} (h : ∀ j (hj : j < (head3 a).length), j < 3 → (head3 a)[j] = (head3 b)[j]) : a.kind = b.kind ∧ a.n = b.n ∧ a.kids.length = b.kids.length := by
  have h0 := h 0 (by simp [head3]) (by omega)
  have h1 := h 1 (by simp [head3]) (by omega)
  have h2 := h 2 (by simp [head3]) (by omega)
  simp only [head3, List.getElem_cons_zero, List.getElem_cons_succ] at h0 h1 h2
  exact ⟨h0, h1, by omega⟩
theorem cmpI_self (a : Int) : cmpI a a = 0 := by unfold cmpI; rw [if_neg (by omega), if_neg (by omega)]
theorem cmpI_lt {a b : Int} (h : a < b) : cmpI a b = -1 := by unfold cmpI; rw [if_pos h]
theorem cmpI_gt {a b : Int} (h : b < a) : cmpI a b = 1 := by unfold cmpI; rw [if_neg (by omega), if_pos h]
theorem cmpV_head {a b : Val} {k : Nat} (hk : k < 3) (h : ∀ j (hj : j < (head3 a).length), j < k → (head3 a)[j] = (head3 b)[j]) (c : Int) (hc : c ≠ 0) (hd : cmpI ((head3 a)[k]'(by simpa [head3] using hk)) ((head3 b)[k]'(by simpa [head3] using hk)) = c) : cmpV a b = c := by
  rw [cmpV_eq]
  match k, hk with
  | 0, _ =>
    simp only [head3, List.getElem_cons_zero] at hd
    rw [hd, if_pos hc]
  | 1, _ =>
    have h0 := h 0 (by simp [head3]) (by omega)
    simp only [head3, List.getElem_cons_zero, List.getElem_cons_succ] at h0 hd
    rw [h0, cmpI_self, if_neg (by simp), hd, if_pos hc]
  | 2, _ =>
    have h0 := h 0 (by simp [head3]) (by omega)
    have h1 := h 1 (by simp [head3]) (by omega)
    simp only [head3, List.getElem_cons_zero, List.getElem_cons_succ] at h0 h1 hd
    rw [h0, h1, cmpI_self, cmpI_self, if_neg (by simp), if_neg (by simp), hd, if_pos hc]
theorem cmpV_kids {a b : Val} (h : a.kind = b.kind ∧ a.n = b.n ∧ a.kids.length = b.kids.length) : cmpV a b = cmpVs a.kids b.kids := by
  obtain ⟨h0, h1, h2⟩ := h
  rw [cmpV_eq, h0, h1, h2, cmpI_self, cmpI_self, cmpI_self, if_neg (by simp), if_neg (by simp), if_neg (by simp)]
theorem w64_nat (a b : Nat) : w64 (w64 (a : Int) + w64 (b : Int)) = w64 ((a + b : Nat) : Int) := by rw [w64_add, w64_add2, Int.natCast_add]
theorem cast_max (a b : Nat) : ((max a b : Nat) : Int) = max (a : Int) b := by omega
theorem w64_sum (a b : Int) : w64 (w64 a + w64 b) = w64 (a + b) := by rw [w64_add, w64_add2]
theorem own_get {v : Val} {q : Nat} (h0 : 0 ≤ v.kind) (h4 : v.kind ≤ 4) (hn : InI v.n) (hl : v.kids.length ≤ 140737488355328) (hneg : ¬ (v.kind = 0 ∧ v.n < 0)) (hq : q = v.kind.toNat) :
    ([vint v.n, vint v.n, vint 0, vint v.n, vint v.kids.length] : List Value)[q]? = some (vint (w64 v.own)) := by
  unfold InI at hn
  have e1 : w64 v.n = v.n := w64_in hn
  have e2 : w64 (v.kids.length : Int) = v.kids.length := w64_in (by omega)
  have hk : v.kind = 0 ∨ v.kind = 1 ∨ v.kind = 2 ∨ v.kind = 3 ∨ v.kind = 4 := by omega
  subst hq
  rcases hk with e | e | e | e | e
  · have : ¬ v.n < 0 := fun h => hneg ⟨e, h⟩
    rw [Val.own, if_pos e, if_neg this, e1, e]; rfl
  · rw [Val.own, if_neg (by omega), if_pos e, e1, e]; rfl
  · rw [Val.own, if_neg (by omega), if_neg (by omega), if_pos e, e]; rfl
  · rw [Val.own, if_neg (by omega), if_neg (by omega), if_neg (by omega), if_pos e, e1, e]; rfl
  · rw [Val.own, if_neg (by omega), if_neg (by omega), if_neg (by omega), if_neg (by omega), e2, e]; rfl
theorem wt_leaf {v : Val} (h : v.kind = 0 ∨ v.kind = 1) : v.wt = v.own := by
  rw [Val.wt_eq, Val.own]
  rcases h with e | e
  · rw [if_pos e, if_pos e]
  · rw [if_neg (by omega), if_pos e, if_neg (by omega), if_pos e]
theorem wt_node {v : Val} (h0 : 2 ≤ v.kind) (h4 : v.kind ≤ 4) : v.wt = v.own + Val.wts v.kids := by
  have hk : v.kind = 2 ∨ v.kind = 3 ∨ v.kind = 4 := by omega
  rw [Val.wt_eq, Val.own]
  rcases hk with e | e | e <;> rw [e] <;> simp
theorem wt_none {v : Val} (h : v.kind < 0 ∨ 4 < v.kind) : v.wt = 0 := by
  rw [Val.wt_eq, if_neg (by omega), if_neg (by omega), if_neg (by omega), if_neg (by omega), if_neg (by omega)]
theorem cmpV_or (a b : Val) : cmpV a b = if orI [cmpI a.kind b.kind, cmpI a.n b.n, cmpI a.kids.length b.kids.length] ≠ 0 then orI [cmpI a.kind b.kind, cmpI a.n b.n, cmpI a.kids.length b.kids.length] else cmpVs a.kids b.kids := by
  rw [cmpV_eq]
  generalize cmpI a.kind b.kind = x
  generalize cmpI a.n b.n = y
  generalize cmpI a.kids.length b.kids.length = z
  simp only [orI]
  by_cases h1 : x = 0 <;> by_cases h2 : y = 0 <;> by_cases h3 : z = 0 <;> simp [h1, h2, h3]

/-! ### Searches that turn a state; small values -/
def contS {α σ : Type} (q : α → σ → Bool × σ) : List α → σ → Bool × σ
  | [], s => (false, s)
  | x :: xs, s => if (q x s).1 then (true, (q x s).2) else contS q xs (q x s).2
/-- The state ahead of the k-th. -/
def stS {α σ : Type} (q : α → σ → Bool × σ) : List α → σ → Nat → σ
  | _, s, 0 => s
  | [], s, _ + 1 => s
  | x :: xs, s, k + 1 => stS q xs (q x s).2 k
theorem stS_succ {α σ : Type} (q : α → σ → Bool × σ) : ∀ (l : List α) (s : σ) (k : Nat) (h : k < l.length), stS q l s (k + 1) = (q l[k] (stS q l s k)).2
  | x :: xs, s, 0, _ => by simp [stS]
  | x :: xs, s, k + 1, h => by
    rw [stS, stS_succ q xs (q x s).2 k (by simpa using h)]
    simp [stS]
theorem contS_hit {α σ : Type} {q : α → σ → Bool × σ} : ∀ {l : List α} {s : σ} {k : Nat} (h : k < l.length), (∀ j (hj : j < l.length), j < k → (q l[j] (stS q l s j)).1 = false) → (q l[k] (stS q l s k)).1 = true → contS q l s = (true, (q l[k] (stS q l s k)).2)
  | x :: xs, s, 0, _, _, ht => by
    simp only [List.getElem_cons_zero, stS] at ht ⊢
    rw [contS, if_pos ht]
  | x :: xs, s, k + 1, h, hz, ht => by
    have h0 := hz 0 (by simp) (by omega)
    simp only [List.getElem_cons_zero, stS] at h0
    rw [contS, if_neg (by simp [h0])]
    exact contS_hit (by simpa using h) (fun j hj hlt => hz (j + 1) (Nat.succ_lt_succ hj) (by omega)) ht
theorem contS_miss {α σ : Type} {q : α → σ → Bool × σ} : ∀ {l : List α} {s : σ}, (∀ j (hj : j < l.length), (q l[j] (stS q l s j)).1 = false) → contS q l s = (false, stS q l s l.length)
  | [], s, _ => by simp [contS, stS]
  | x :: xs, s, hz => by
    have h0 := hz 0 (by simp)
    simp only [List.getElem_cons_zero, stS] at h0
    rw [contS, if_neg (by simp [h0]), contS_miss (fun j hj => hz (j + 1) (Nat.succ_lt_succ hj))]
    simp [stS]
mutual
def visitV : Val → Int → Int → Bool × Int
  | .mk _ _ l, d, s => if 0 ≤ s - 1 ∧ d ≤ 24 then visitVs l (d + 1) (s - 1) else (false, s - 1)
def visitVs : List Val → Int → Int → Bool × Int
  | [], _, s => (true, s)
  | v :: vs, d, s => if (visitV v d s).1 then visitVs vs d (visitV v d s).2 else (false, (visitV v d s).2)
end
theorem visitV_eq (v : Val) (d s : Int) : visitV v d s = if 0 ≤ s - 1 ∧ d ≤ 24 then visitVs v.kids (d + 1) (s - 1) else (false, s - 1) := by cases v; rw [visitV]; rfl
def notQ (d : Int) (v : Val) (s : Int) : Bool × Int := (!(visitV v d s).1, (visitV v d s).2)
theorem contS_visit : ∀ (l : List Val) (d s : Int), contS (notQ d) l s = (!(visitVs l d s).1, (visitVs l d s).2)
  | [], d, s => by simp [contS, visitVs]
  | v :: vs, d, s => by
    rw [contS, visitVs, notQ]
    cases h : (visitV v d s).1 with
    | true => simp [h, contS_visit vs d (visitV v d s).2]
    | false => simp [h]
mutual
theorem visitV_range : ∀ (v : Val) (d s : Int), 0 ≤ s → (visitV v d s).2 ≤ s ∧ ((visitV v d s).1 = true → 0 ≤ (visitV v d s).2)
  | .mk _ _ l, d, s, h => by
    rw [visitV]
    split
    · rename_i hc
      have := visitVs_range l (d + 1) (s - 1) (by omega)
      exact ⟨by omega, this.2⟩
    · exact ⟨by simp; omega, fun h => by simp at h⟩
theorem visitVs_range : ∀ (l : List Val) (d s : Int), 0 ≤ s → (visitVs l d s).2 ≤ s ∧ ((visitVs l d s).1 = true → 0 ≤ (visitVs l d s).2)
  | [], d, s, h => by simp [visitVs, h]
  | v :: vs, d, s, h => by
    have h1 := visitV_range v d s h
    rw [visitVs]
    split
    · rename_i hc
      have h2 := visitVs_range vs d _ (h1.2 hc)
      exact ⟨by omega, h2.2⟩
    · exact ⟨h1.1, fun h => by simp at h⟩
end
def smallV (v : Val) : Prop := (visitV v 1 256).1 = true
instance (v : Val) : Decidable (smallV v) := by unfold smallV; exact inferInstance

/-! ### Values of a type -/
mutual
def fitsB (p : ProgT) : Val → Ty → Bool
  | .mk k n l, t => decide (validT p t) && (if t.kind = 0 then decide (k = 0) && l.isEmpty && decide (-1099511627776 ≤ n ∧ n ≤ 1099511627776)
    else if t.kind = 1 then decide (k = 1) && l.isEmpty && decide (n = 0 ∨ n = 1)
    else if t.kind = 2 then decide (k = 4) && decide (n = 0) && fitsL p l (t.kids.headD ty0)
    else if (theDef p t.df).kind = 1 then decide (k = 3) && decide (0 ≤ n ∧ n < (theDef p t.df).slots.length) && decide (l.length = 1) && fitsL p l (((theDef p t.df).slots.map SlotT.ty).getD n.toNat ty0)
    else decide (k = 2) && decide (n = 0) && decide (l.length = (theDef p t.df).slots.length) && fitsZ p l ((theDef p t.df).slots.map SlotT.ty))
def fitsL (p : ProgT) : List Val → Ty → Bool
  | [], _ => true
  | v :: vs, t => fitsB p v t && fitsL p vs t
def fitsZ (p : ProgT) : List Val → List Ty → Bool
  | [], _ => true
  | _ :: _, [] => false
  | v :: vs, t :: ts => fitsB p v t && fitsZ p vs ts
end
theorem fitsB_eq (p : ProgT) (v : Val) (t : Ty) : fitsB p v t = (decide (validT p t) && (if t.kind = 0 then decide (v.kind = 0) && v.kids.isEmpty && decide (-1099511627776 ≤ v.n ∧ v.n ≤ 1099511627776)
    else if t.kind = 1 then decide (v.kind = 1) && v.kids.isEmpty && decide (v.n = 0 ∨ v.n = 1)
    else if t.kind = 2 then decide (v.kind = 4) && decide (v.n = 0) && fitsL p v.kids (t.kids.headD ty0)
    else if (theDef p t.df).kind = 1 then decide (v.kind = 3) && decide (0 ≤ v.n ∧ v.n < (theDef p t.df).slots.length) && decide (v.kids.length = 1) && fitsL p v.kids (((theDef p t.df).slots.map SlotT.ty).getD v.n.toNat ty0)
    else decide (v.kind = 2) && decide (v.n = 0) && decide (v.kids.length = (theDef p t.df).slots.length) && fitsZ p v.kids ((theDef p t.df).slots.map SlotT.ty))) := by
  cases v; rw [fitsB]; rfl
theorem fitsL_all : ∀ {p : ProgT} {l : List Val} {t : Ty}, fitsL p l t = true ↔ ∀ j (hj : j < l.length), fitsB p l[j] t = true
  | p, [], t => by simp [fitsL]
  | p, v :: vs, t => by
    rw [fitsL, Bool.and_eq_true, fitsL_all]
    constructor
    · rintro ⟨h1, h2⟩ j hj
      cases j with
      | zero => exact h1
      | succ j => exact h2 j (by simpa using hj)
    · exact fun h => ⟨h 0 (by simp), fun j hj => h (j + 1) (Nat.succ_lt_succ hj)⟩
theorem fitsZ_all : ∀ {p : ProgT} {l : List Val} {ts : List Ty}, l.length = ts.length → (fitsZ p l ts = true ↔ ∀ j (hj : j < l.length) (hj2 : j < ts.length), fitsB p l[j] ts[j] = true)
  | p, [], ts, _ => by simp [fitsZ]
  | p, v :: vs, t :: ts, h => by
    rw [fitsZ, Bool.and_eq_true, fitsZ_all (by simpa using h)]
    constructor
    · rintro ⟨h1, h2⟩ j hj hj2
      cases j with
      | zero => exact h1
      | succ j => exact h2 j (by simpa using hj) (by simpa using hj2)
    · exact fun h => ⟨h 0 (by simp) (by simp), fun j hj hj2 => h (j + 1) (Nat.succ_lt_succ hj) (Nat.succ_lt_succ hj2)⟩
theorem contS_unit {α : Type} (q : α → Bool) : ∀ (l : List α) (u : Unit), contS (fun x s => (q x, s)) l u = (l.any q, ())
  | [], u => rfl
  | x :: xs, u => by
    rw [contS, List.any_cons]
    cases h : q x with
    | true => simp
    | false => simp [contS_unit q xs ()]
theorem vbB {p : Prop} [Decidable p] {b : Bool} (h : p ↔ b = true) : Value.bool (decide p) = Value.bool b := by
  cases b <;> simp_all
theorem vbN {b : Bool} : Value.bool (decide (¬ (b = true))) = Value.bool (!b) := by cases b <;> simp
theorem fits_not {p : ProgT} {v : Val} {t : Ty} (h : ¬ validT p t) : ¬ fitsB p v t = true := by rw [fitsB_eq]; simp [h]
theorem fits0 {p : ProgT} {v : Val} {t : Ty} (h : validT p t) (hk : t.kind = 0) : fitsB p v t = true ↔ v.kind = 0 ∧ v.kids.length = 0 ∧ -1099511627776 ≤ v.n ∧ v.n ≤ 1099511627776 := by
  rw [fitsB_eq, if_pos hk]; simp [h, and_assoc]
theorem fits1 {p : ProgT} {v : Val} {t : Ty} (h : validT p t) (hk : t.kind = 1) : fitsB p v t = true ↔ v.kind = 1 ∧ v.kids.length = 0 ∧ (v.n = 0 ∨ v.n = 1) := by
  rw [fitsB_eq, if_neg (by omega), if_pos hk]; simp [h, and_assoc]
theorem fits2 {p : ProgT} {v : Val} {t : Ty} (h : validT p t) (hk : t.kind = 2) : fitsB p v t = true ↔ v.kind = 4 ∧ v.n = 0 ∧ ∀ j (hj : j < v.kids.length), fitsB p v.kids[j] (t.kids.headD ty0) = true := by
  rw [fitsB_eq, if_neg (by omega), if_neg (by omega), if_pos hk, ← fitsL_all]; simp [h, and_assoc]
theorem fits2a {p : ProgT} {v : Val} {t : Ty} (h : validT p t) (hk : t.kind = 2) : fitsB p v t = true ↔ v.kind = 4 ∧ v.n = 0 ∧ v.kids.any (fun x => !(fitsB p x (t.kids.headD ty0))) = false := by
  rw [fits2 h hk]
  refine and_congr_right fun _ => and_congr_right fun _ => ?_
  rw [List.any_eq_false]
  constructor
  · intro hh x hx
    obtain ⟨j, hj, rfl⟩ := List.mem_iff_getElem.1 hx
    rw [hh j hj]; simp
  · intro hh j hj
    have := hh _ (List.getElem_mem hj)
    simpa using this
theorem fitsL_one {p : ProgT} {l : List Val} {t : Ty} (h : l.length = 1) : fitsL p l t = fitsB p (l[0]'(by omega)) t := by
  match l, h with
  | [x], _ => simp [fitsL]
theorem getD_map {l : List SlotT} {n : Nat} (h : n < l.length) : (l.map SlotT.ty).getD n ty0 = l[n].ty := by simp [h]
theorem fits3c {p : ProgT} {v : Val} {t : Ty} (h : validT p t) (hk0 : t.kind ≠ 0) (hk1 : t.kind ≠ 1) (hk2 : t.kind ≠ 2) (hd : (theDef p t.df).kind = 1) :
    fitsB p v t = true ↔ v.kind = 3 ∧ (0 ≤ v.n ∧ v.n < (theDef p t.df).slots.length) ∧ v.kids.length = 1 ∧ fitsL p v.kids (((theDef p t.df).slots.map SlotT.ty).getD v.n.toNat ty0) = true := by
  rw [fitsB_eq, if_neg hk0, if_neg hk1, if_neg hk2, if_pos hd]; simp [h, and_assoc]
theorem fits3k {p : ProgT} {v : Val} {t : Ty} (h : validT p t) (hk0 : t.kind ≠ 0) (hk1 : t.kind ≠ 1) (hk2 : t.kind ≠ 2) (hd : (theDef p t.df).kind = 1) (h1 : v.kind = 3) (h2 : 0 ≤ v.n) (h3 : v.n.toNat < (theDef p t.df).slots.length) (h4 : v.kids.length = 1) :
    fitsB p v t = true ↔ fitsB p (v.kids[0]'(by omega)) ((theDef p t.df).slots[v.n.toNat]).ty = true := by
  rw [fits3c h hk0 hk1 hk2 hd, fitsL_one h4, getD_map h3]
  exact ⟨fun hh => hh.2.2.2, fun hh => ⟨h1, ⟨h2, by omega⟩, h4, hh⟩⟩
theorem fits3r {p : ProgT} {v : Val} {t : Ty} (h : validT p t) (hk0 : t.kind ≠ 0) (hk1 : t.kind ≠ 1) (hk2 : t.kind ≠ 2) (hd : (theDef p t.df).kind ≠ 1) :
    fitsB p v t = true ↔ v.kind = 2 ∧ v.n = 0 ∧ v.kids.length = (theDef p t.df).slots.length ∧ ∀ j (hj : j < v.kids.length) (hj2 : j < (theDef p t.df).slots.length), fitsB p v.kids[j] ((theDef p t.df).slots[j]).ty = true := by
  rw [fitsB_eq, if_neg hk0, if_neg hk1, if_neg hk2, if_neg hd]
  simp only [h, decide_true, Bool.true_and, Bool.and_eq_true, decide_eq_true_eq, and_assoc]
  refine and_congr_right fun _ => and_congr_right fun _ => and_congr_right fun hl => ?_
  rw [fitsZ_all (by simpa using hl)]
  constructor
  · exact fun hh j hj hj2 => by
      have := hh j hj (by simpa using hj2)
      rw [List.getElem_map] at this; exact this
  · exact fun hh j hj hj2 => by
      rw [List.getElem_map]; exact hh j hj (by simpa using hj2)
theorem validT_one {p : ProgT} {t : Ty} (h : validT p t) (hk : t.kind = 2) : t.kids.length = 1 := (validTF_kids hk h).2
theorem headD_0 {l : List Ty} (h : 0 < l.length) : l.headD ty0 = l[0] := by cases l with
  | nil => simp at h
  | cons x xs => rfl
def validV (p : ProgT) (t : Ty) (v : Val) : Prop := smallV v ∧ fitsB p v t = true
instance (p : ProgT) (t : Ty) (v : Val) : Decidable (validV p t v) := by unfold validV; exact inferInstance

/-! ### Zero values -/
def v0 : Val := .mk 0 0 []
abbrev ZR := Val × Int × Int
def zeroL (g : Ty → Int → ZR) : List Ty → Int → List Val × Int × Int
  | [], l => ([], 0, l)
  | t :: ts, l => if (g t l).2.1 ≠ 0 then ([], (g t l).2.1, (g t l).2.2)
    else if (zeroL g ts (g t l).2.2).2.1 ≠ 0 then ([], (zeroL g ts (g t l).2.2).2.1, (zeroL g ts (g t l).2.2).2.2)
    else ((g t l).1 :: (zeroL g ts (g t l).2.2).1, 0, (zeroL g ts (g t l).2.2).2.2)
def zNode (k : Int) (r : List Val × Int × Int) : ZR := if r.2.1 ≠ 0 then (v0, r.2.1, r.2.2) else (.mk k 0 r.1, 0, r.2.2)
def zeroF (p : ProgT) : Nat → Ty → Int → ZR
  | 0, t, l => if ¬ validT p t then (v0, 1, l) else (v0, 4, l - 1)
  | n + 1, t, l => if ¬ validT p t then (v0, 1, l) else if l - 1 < 0 then (v0, 4, l - 1)
    else if t.kind = 0 then (.mk 0 0 [], 0, l - 1) else if t.kind = 1 then (.mk 1 0 [], 0, l - 1) else if t.kind = 2 then (.mk 4 0 [], 0, l - 1)
    else if (theDef p t.df).kind = 1 then (if (theDef p t.df).slots.length = 0 then (v0, 1, l - 1) else zNode 3 (zeroL (zeroF p n) (((theDef p t.df).slots.take 1).map SlotT.ty) (l - 1)))
    else zNode 2 (zeroL (zeroF p n) ((theDef p t.df).slots.map SlotT.ty) (l - 1))
def zJoin (dn : List Val) (r : List Val × Int × Int) : List Val × Int × Int := if r.2.1 ≠ 0 then ([], r.2.1, r.2.2) else (dn ++ r.1, 0, r.2.2)
theorem zeroL_err (g : Ty → Int → ZR) : ∀ (ts : List Ty) (l : Int), (zeroL g ts l).2.1 ≠ 0 → (zeroL g ts l).1 = []
  | [], l, h => by simp [zeroL] at h
  | t :: ts, l, h => by
    rw [zeroL] at h ⊢
    split at h
    · rename_i h1; rw [if_pos h1]
    · rename_i h1
      rw [if_neg h1]
      split at h
      · rename_i h2; rw [if_pos h2]
      · simp at h
theorem zJoin_nil (g : Ty → Int → ZR) (ts : List Ty) (l : Int) : zeroL g ts l = zJoin [] (zeroL g ts l) := by
  unfold zJoin
  split
  · rename_i h
    rw [← zeroL_err g ts l h]
  · rename_i h
    have : (zeroL g ts l).2.1 = 0 := Decidable.not_not.1 h
    rw [← this]; simp
theorem zJoin_err {g : Ty → Int → ZR} {ts : List Ty} {l : Int} {k : Nat} {dn : List Val} {lk : Int} (hk : k < ts.length) (h : zeroL g ts l = zJoin dn (zeroL g (ts.drop k) lk)) (he : (g ts[k] lk).2.1 ≠ 0) : zeroL g ts l = ([], (g ts[k] lk).2.1, (g ts[k] lk).2.2) := by
  rw [h, List.drop_eq_getElem_cons hk, zeroL, if_pos he, zJoin, if_pos he]
theorem zJoin_step {g : Ty → Int → ZR} {ts : List Ty} {l : Int} {k : Nat} {dn : List Val} {lk : Int} (hk : k < ts.length) (h : zeroL g ts l = zJoin dn (zeroL g (ts.drop k) lk)) (he : ¬ (g ts[k] lk).2.1 ≠ 0) : zeroL g ts l = zJoin (dn ++ [(g ts[k] lk).1]) (zeroL g (ts.drop (k + 1)) (g ts[k] lk).2.2) := by
  rw [h, List.drop_eq_getElem_cons hk, zeroL, if_neg he]
  generalize zeroL g (List.drop (k + 1) ts) (g ts[k] lk).2.2 = r
  unfold zJoin
  by_cases h3 : r.2.1 = 0 <;> simp [h3]
theorem zJoin_end {g : Ty → Int → ZR} {ts : List Ty} {l : Int} {k : Nat} {dn : List Val} {lk : Int} (hk : ts.length ≤ k) (h : zeroL g ts l = zJoin dn (zeroL g (ts.drop k) lk)) : zeroL g ts l = (dn, 0, lk) := by
  rw [h, List.drop_of_length_le hk, zeroL, zJoin]; simp
theorem zeroF_arg {p : ProgT} {n : Nat} {t : Ty} {l : Int} (h : ¬ validT p t) : zeroF p n t l = (v0, 1, l) := by
  cases n with
  | zero => rw [zeroF, if_pos h]
  | succ n => rw [zeroF, if_pos h]
theorem zeroF_lim {p : ProgT} {n : Nat} {t : Ty} {l : Int} (h : validT p t) (hl : l - 1 < 0 ∨ n = 0) : zeroF p n t l = (v0, 4, l - 1) := by
  cases n with
  | zero => rw [zeroF, if_neg (by simp [h])]
  | succ n => rw [zeroF, if_neg (by simp [h]), if_pos (by omega)]
theorem zeroF_left (p : ProgT) : ∀ (n : Nat) (t : Ty) (l : Int), (zeroF p n t l).2.1 = 0 → 0 ≤ (zeroF p n t l).2.2 ∧ (zeroF p n t l).2.2 ≤ l - 1
  | 0, t, l, h => by
    rw [zeroF] at h
    split at h <;> simp at h
  | n + 1, t, l, h => by
    have key : ∀ (ts : List Ty) (l0 : Int), 0 ≤ l0 → (zeroL (zeroF p n) ts l0).2.1 = 0 → 0 ≤ (zeroL (zeroF p n) ts l0).2.2 ∧ (zeroL (zeroF p n) ts l0).2.2 ≤ l0 := by
      intro ts
      induction ts with
      | nil => intro l0 h0 _; simp [zeroL]; exact h0
      | cons t ts ih =>
        intro l0 h0 he
        rw [zeroL] at he ⊢
        split at he
        · rename_i h1; exact absurd he h1
        · rename_i h1
          rw [if_neg h1]
          have h2 := zeroF_left p n t l0 (Decidable.not_not.1 h1)
          split at he
          · rename_i h3; exact absurd he h3
          · rename_i h3
            rw [if_neg h3]
            have := ih _ h2.1 (Decidable.not_not.1 h3)
            exact ⟨this.1, by have := this.2; simp only; omega⟩
    have hz : ∀ (k : Int) (ts : List Ty), 0 ≤ l - 1 → (zNode k (zeroL (zeroF p n) ts (l - 1))).2.1 = 0 → 0 ≤ (zNode k (zeroL (zeroF p n) ts (l - 1))).2.2 ∧ (zNode k (zeroL (zeroF p n) ts (l - 1))).2.2 ≤ l - 1 := by
      intro k ts h0 he
      unfold zNode at he ⊢
      split at he
      · rename_i h1; exact absurd he h1
      · rename_i h1
        rw [if_neg h1]
        exact key ts (l - 1) h0 (Decidable.not_not.1 h1)
    rw [zeroF] at h ⊢
    split at h
    · simp at h
    · rename_i h1
      rw [if_neg h1]
      split at h
      · simp at h
      · rename_i h2
        rw [if_neg h2]
        split at h
        · rename_i h3; rw [if_pos h3]; simp; omega
        · rename_i h3
          rw [if_neg h3]
          split at h
          · rename_i h4; rw [if_pos h4]; simp; omega
          · rename_i h4
            rw [if_neg h4]
            split at h
            · rename_i h5; rw [if_pos h5]; simp; omega
            · rename_i h5
              rw [if_neg h5]
              split at h
              · rename_i h6
                rw [if_pos h6]
                split at h
                · simp at h
                · rename_i h7; rw [if_neg h7]; exact hz _ _ (by omega) h
              · rename_i h6; rw [if_neg h6]; exact hz _ _ (by omega) h
def onesN : Nat := 1
/-- The zero value of a type, or what is wrong. -/
def zeroV (p : ProgT) (t : Ty) : ZR := zeroF p 24 t 256
theorem snoc_flat (l : List Val) (v : Val) : (l ++ [v]).flatMap Val.enc = l.flatMap Val.enc ++ v.enc := by simp
end Xe
