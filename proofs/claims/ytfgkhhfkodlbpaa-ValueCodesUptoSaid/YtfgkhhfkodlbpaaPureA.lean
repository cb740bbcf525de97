/- Dat Pure4 Pure5 Pure6 Pure7 Pure8 Pure9 Pure10 Pure11, put together. No program in sight. -/
import Derived.Test.YtfgkhhfkodlbpaaXe4
import Derived.KernelRfl
/- THE DATA of programs and values as plain Lean, and how memory reads as them. No program in sight. -/
namespace Xe
open Go

/-! ### Values -/
inductive Val where
  | mk (kind n : Int) (kids : List Val)
  deriving Inhabited
def Val.kind : Val → Int | .mk k _ _ => k
def Val.n : Val → Int | .mk _ n _ => n
def Val.kids : Val → List Val | .mk _ _ l => l
mutual
def Val.enc : Val → List D
  | .mk k n l => [dint k, dint n, .sl l.length 3 (Val.encs l)]
def Val.encs : List Val → List D
  | [] => []
  | t :: ts => t.enc ++ Val.encs ts
end
theorem Val.encs_eq : ∀ l : List Val, Val.encs l = l.flatMap Val.enc
  | [] => by simp [Val.encs]
  | t :: ts => by rw [Val.encs, Val.encs_eq ts, List.flatMap_cons]
theorem Val.enc_eq (t : Val) : t.enc = [dint t.kind, dint t.n, .sl t.kids.length 3 (t.kids.flatMap Val.enc)] := by
  cases t; rw [Val.enc, Val.encs_eq]; rfl
theorem Val.enc_len (t : Val) : t.enc.length = 3 := by rw [Val.enc_eq]; rfl
mutual
def Val.size : Val → Nat
  | .mk _ _ l => 1 + Val.sizes l
def Val.sizes : List Val → Nat
  | [] => 0
  | t :: ts => t.size + Val.sizes ts
end
theorem Val.size_eq (e : Val) : e.size = 1 + Val.sizes e.kids := by cases e; rw [Val.size]; rfl
theorem Val.size_pos (e : Val) : 0 < e.size := by rw [Val.size_eq]; omega
theorem Val.size_mem : ∀ {l : List Val} {t : Val}, t ∈ l → t.size ≤ Val.sizes l
  | x :: xs, t, h => by
    rw [Val.sizes]
    rcases List.mem_cons.1 h with rfl | h
    · omega
    · have := Val.size_mem h; omega
theorem Val.size_kid {t k : Val} (h : k ∈ t.kids) : k.size < t.size := by
  have := Val.size_mem h; rw [Val.size_eq t]; omega
theorem Val.sizes_append : ∀ (l m : List Val), Val.sizes (l ++ m) = Val.sizes l + Val.sizes m
  | [], m => by simp [Val.sizes]
  | x :: xs, m => by have := Val.sizes_append xs m; simp only [List.cons_append, Val.sizes]; omega
theorem Val.sizes_take : ∀ (l : List Val) (k : Nat), Val.sizes (l.take k) ≤ Val.sizes l
  | [], k => by simp
  | x :: xs, 0 => by simp [Val.sizes]
  | x :: xs, k + 1 => by have := Val.sizes_take xs k; simp only [List.take_succ_cons, Val.sizes]; omega
theorem Val.sizes_succ (l : List Val) (k : Nat) (h : k < l.length) : Val.sizes (l.take (k + 1)) = Val.sizes (l.take k) + l[k].size := by
  rw [List.take_succ_eq_append_getElem h, Val.sizes_append]; simp [Val.sizes]
theorem Val.ext {a b : Val} (h1 : a.kind = b.kind) (h2 : a.n = b.n) (h3 : a.kids = b.kids) : a = b := by
  cases a; cases b; simp only [Val.kind, Val.n, Val.kids] at h1 h2 h3; rw [h1, h2, h3]
theorem Val.rec' {p : Val → Prop} (h : ∀ v, (∀ k ∈ v.kids, p k) → p v) (v : Val) : p v := by
  have : ∀ (n : Nat) (v : Val), v.size = n → p v := by
    intro n
    induction n using Nat.strongRecOn with
    | _ n ih => exact fun v hv => h v fun k hk => ih k.size (by rw [← hv]; exact Val.size_kid hk) k rfl
  exact this _ v rfl
/-- All numbers are words. -/
inductive Val.Ok : Val → Prop
  | mk {v : Val} : InI v.kind → InI v.n → (∀ k ∈ v.kids, Val.Ok k) → Val.Ok v
theorem Val.Ok.kind {v : Val} (h : v.Ok) : InI v.kind := by cases h with | mk a b c => exact a
theorem Val.Ok.n {v : Val} (h : v.Ok) : InI v.n := by cases h with | mk a b c => exact b
theorem Val.Ok.kid {v k : Val} (h : v.Ok) (hk : k ∈ v.kids) : k.Ok := by cases h with | mk a b c => exact c k hk

/-! ### Slots, definitions, modules, programs -/
structure SlotT where
  id : IdT
  name : ByteArray
  ty : Ty
  most : Int
  place : Int
  deriving Inhabited
def SlotT.enc (s : SlotT) : List D := [dint s.id.shop, dint s.id.seq, dint s.id.index, dstr s.name, dint s.ty.kind, dint s.ty.df.shop, dint s.ty.df.seq, dint s.ty.df.index, .sl s.ty.kids.length 5 (s.ty.kids.flatMap Ty.enc), dint s.most, dint s.place]
theorem SlotT.enc_eq (s : SlotT) : s.enc = [dint s.id.shop, dint s.id.seq, dint s.id.index, dstr s.name, dint s.ty.kind, dint s.ty.df.shop, dint s.ty.df.seq, dint s.ty.df.index, .sl s.ty.kids.length 5 (s.ty.kids.flatMap Ty.enc), dint s.most, dint s.place] := rfl
theorem SlotT.enc_len (s : SlotT) : s.enc.length = 11 := rfl
structure DefT where
  id : IdT
  kind : Int
  mod : IdT
  name : ByteArray
  slots : List SlotT
  result : Ty
  body : Ex
  place : Int
  layout : List ByteArray
  deriving Inhabited
def DefT.enc (s : DefT) : List D := [dint s.id.shop, dint s.id.seq, dint s.id.index, dint s.kind, dint s.mod.shop, dint s.mod.seq, dint s.mod.index, dstr s.name, .sl s.slots.length 11 (s.slots.flatMap SlotT.enc),
  dint s.result.kind, dint s.result.df.shop, dint s.result.df.seq, dint s.result.df.index, .sl s.result.kids.length 5 (s.result.kids.flatMap Ty.enc),
  dint s.body.id.shop, dint s.body.id.seq, dint s.body.id.index, dint s.body.kind, dint s.body.n, dint s.body.ref.shop, dint s.body.ref.seq, dint s.body.ref.index, dint s.body.ty.kind, dint s.body.ty.df.shop, dint s.body.ty.df.seq, dint s.body.ty.df.index,
    .sl s.body.ty.kids.length 5 (s.body.ty.kids.flatMap Ty.enc), .sl s.body.kids.length 15 (s.body.kids.flatMap Ex.enc), .sl s.body.names.length 1 (s.body.names.map dstr),
  dint s.place, .sl s.layout.length 1 (s.layout.map dstr)]
theorem DefT.enc_eq (s : DefT) : s.enc = [dint s.id.shop, dint s.id.seq, dint s.id.index, dint s.kind, dint s.mod.shop, dint s.mod.seq, dint s.mod.index, dstr s.name, .sl s.slots.length 11 (s.slots.flatMap SlotT.enc),
  dint s.result.kind, dint s.result.df.shop, dint s.result.df.seq, dint s.result.df.index, .sl s.result.kids.length 5 (s.result.kids.flatMap Ty.enc),
  dint s.body.id.shop, dint s.body.id.seq, dint s.body.id.index, dint s.body.kind, dint s.body.n, dint s.body.ref.shop, dint s.body.ref.seq, dint s.body.ref.index, dint s.body.ty.kind, dint s.body.ty.df.shop, dint s.body.ty.df.seq, dint s.body.ty.df.index,
    .sl s.body.ty.kids.length 5 (s.body.ty.kids.flatMap Ty.enc), .sl s.body.kids.length 15 (s.body.kids.flatMap Ex.enc), .sl s.body.names.length 1 (s.body.names.map dstr),
  dint s.place, .sl s.layout.length 1 (s.layout.map dstr)] := rfl
theorem DefT.enc_len (s : DefT) : s.enc.length = 31 := rfl
structure ModT where
  id : IdT
  name : ByteArray
  uses : List IdT
  defs : List IdT
  deriving Inhabited
def ModT.enc (m : ModT) : List D := [dint m.id.shop, dint m.id.seq, dint m.id.index, dstr m.name, .sl m.uses.length 3 (m.uses.flatMap IdT.enc), .sl m.defs.length 3 (m.defs.flatMap IdT.enc)]
theorem ModT.enc_eq (m : ModT) : m.enc = [dint m.id.shop, dint m.id.seq, dint m.id.index, dstr m.name, .sl m.uses.length 3 (m.uses.flatMap IdT.enc), .sl m.defs.length 3 (m.defs.flatMap IdT.enc)] := rfl
theorem ModT.enc_len (m : ModT) : m.enc.length = 6 := rfl
structure ProgT where
  mods : List ModT
  defs : List DefT
  deriving Inhabited
def ProgT.enc (p : ProgT) : List D := [.sl p.mods.length 6 (p.mods.flatMap ModT.enc), .sl p.defs.length 31 (p.defs.flatMap DefT.enc)]
theorem ProgT.enc_eq (p : ProgT) : p.enc = [.sl p.mods.length 6 (p.mods.flatMap ModT.enc), .sl p.defs.length 31 (p.defs.flatMap DefT.enc)] := rfl
theorem ProgT.enc_len (p : ProgT) : p.enc.length = 2 := rfl
theorem dstr_get {l : List ByteArray} {k : Nat} {n : ByteArray} (h : l[k]? = some n) : (l.map dstr)[k * 1]? = some (dstr n) := by simp [h]
theorem IdT.ext' {a b : IdT} (h1 : a.shop = b.shop) (h2 : a.seq = b.seq) (h3 : a.index = b.index) : a = b := by cases a; cases b; simp only at h1 h2 h3; rw [h1, h2, h3]

/-- What was there as it was; the value as said. -/
abbrev Has (M : Mem) (Γ : List As) (R : Value → Prop) : Post := fun u M' Γ' => M' = M ∧ Γ' = Γ ∧ R u
section
variable {w0 : World} {M : Mem} {Γ : List As}
theorem Kn.ty {t : Ty} {us : List Value} (h : As.rds [dint t.kind, dint t.df.shop, dint t.df.seq, dint t.df.index, .sl t.kids.length 5 (t.kids.flatMap Ty.enc)] us ∈ Γ) : Kn w0 M Γ (RdL M t.enc us) := by rw [Ty.enc_eq]; exact Kn.rds h
theorem Kn.val {t : Val} {us : List Value} (h : As.rds [dint t.kind, dint t.n, .sl t.kids.length 3 (t.kids.flatMap Val.enc)] us ∈ Γ) : Kn w0 M Γ (RdL M t.enc us) := by rw [Val.enc_eq]; exact Kn.rds h
theorem Kn.ex {e : Ex} {us : List Value} (h : As.rds [dint e.id.shop, dint e.id.seq, dint e.id.index, dint e.kind, dint e.n, dint e.ref.shop, dint e.ref.seq, dint e.ref.index, dint e.ty.kind, dint e.ty.df.shop, dint e.ty.df.seq, dint e.ty.df.index,
    .sl e.ty.kids.length 5 (e.ty.kids.flatMap Ty.enc), .sl e.kids.length 15 (e.kids.flatMap Ex.enc), .sl e.names.length 1 (e.names.map dstr)] us ∈ Γ) : Kn w0 M Γ (RdL M e.enc us) := by rw [Ex.enc_eq]; exact Kn.rds h
end
theorem EL {ds : List D} {n : Nat} (h : ds.length = n := by first | rfl | exact Ty.enc_len _ | exact Val.enc_len _ | exact SlotT.enc_len _ | exact DefT.enc_len _ | exact ModT.enc_len _ | exact ProgT.enc_len _ | exact IdT.enc_len _ | exact Ex.enc_len _) : ds.length = n := h
theorem KK {w0 : World} {M : Mem} {Γ : List As} {F : Prop} (h : Kn w0 M Γ F := by first | exact Kn.rds MM | exact Kn.ty MM | exact Kn.val MM | exact Kn.ex MM | exact Kn.rd MM) : Kn w0 M Γ F := h
end Xe

/- THE PLAIN FUNCTIONS of types and values. No program in sight. -/
namespace Xe
open Go

def ex0 : Ex := .mk id0 0 0 id0 ty0 [] []
def def0 : DefT := ⟨id0, 0, id0, ByteArray.empty, [], ty0, ex0, 0, []⟩
def hasDef (p : ProgT) (id : IdT) : Prop := ∃ d ∈ p.defs, d.id = id
instance (p : ProgT) (id : IdT) : Decidable (hasDef p id) := by unfold hasDef; exact inferInstance
def theDef (p : ProgT) (id : IdT) : DefT := (p.defs.find? fun d => decide (d.id = id)).getD def0
theorem theDef_hit {p : ProgT} {id : IdT} {k : Nat} (h : k < p.defs.length) (h1 : ∀ j (hj : j < p.defs.length), j < k → p.defs[j].id ≠ id) (h2 : p.defs[k].id = id) : hasDef p id ∧ theDef p id = p.defs[k] := by
  refine ⟨⟨_, List.getElem_mem h, h2⟩, ?_⟩
  have : p.defs.find? (fun d => decide (d.id = id)) = some p.defs[k] := by
    rw [List.find?_eq_some_iff_getElem]
    exact ⟨by simpa using h2, k, h, rfl, fun j hj => by simpa using h1 j (by omega) hj⟩
  rw [theDef, this]; rfl
theorem theDef_miss {p : ProgT} {id : IdT} (h1 : ∀ j (hj : j < p.defs.length), p.defs[j].id ≠ id) : ¬ hasDef p id ∧ theDef p id = def0 := by
  have hn : ¬ hasDef p id := by
    rintro ⟨d, hd, he⟩
    obtain ⟨j, hj, rfl⟩ := List.mem_iff_getElem.1 hd
    exact h1 j hj he
  refine ⟨hn, ?_⟩
  have : p.defs.find? (fun d => decide (d.id = id)) = none := by
    rw [List.find?_eq_none]
    intro d hd
    simpa using fun e => hn ⟨d, hd, e⟩
  rw [theDef, this]; rfl
/-- The place of the first one that is so, or -1. -/
def idxL {α : Type} (q : α → Bool) (l : List α) : Int := match l.findIdx? q with
  | some i => (i : Int)
  | none => -1
theorem idxL_hit {α : Type} {q : α → Bool} {l : List α} {k : Nat} (h : k < l.length) (h1 : ∀ j (hj : j < l.length), j < k → q l[j] ≠ true) (h2 : q l[k] = true) : idxL q l = k := by
  have : l.findIdx? q = some k := by
    rw [List.findIdx?_eq_some_iff_getElem]
    exact ⟨h, h2, fun j hj => by have := h1 j (by omega) hj; simpa using this⟩
  rw [idxL, this]
theorem idxL_miss {α : Type} {q : α → Bool} {l : List α} (h1 : ∀ j (hj : j < l.length), q l[j] ≠ true) : idxL q l = -1 := by
  have : l.findIdx? q = none := by
    rw [List.findIdx?_eq_none_iff]
    intro y hy
    obtain ⟨j, hj, rfl⟩ := List.mem_iff_getElem.1 hy
    simpa using h1 j hj
  rw [idxL, this]
theorem idxL_cases {α : Type} (q : α → Bool) (l : List α) : (idxL q l = -1 ∧ ∀ j (hj : j < l.length), q l[j] ≠ true) ∨ ∃ k, ∃ h : k < l.length, idxL q l = k ∧ q l[k] = true ∧ ∀ j (hj : j < l.length), j < k → q l[j] ≠ true := by
  unfold idxL
  cases hf : l.findIdx? q with
  | none =>
    refine .inl ⟨rfl, fun j hj => ?_⟩
    have := List.findIdx?_eq_none_iff.1 hf l[j] (List.getElem_mem hj)
    simpa using this
  | some k =>
    obtain ⟨h, h1, h2⟩ := List.findIdx?_eq_some_iff_getElem.1 hf
    exact .inr ⟨k, h, rfl, h1, fun j hj hlt => by simpa using h2 j hlt⟩

theorem idxL_nn {α : Type} {q : α → Bool} {l : List α} (h : ¬ idxL q l < 0) : ∃ k, ∃ h : k < l.length, idxL q l = k ∧ q l[k] = true ∧ ∀ j (hj : j < l.length), j < k → q l[j] ≠ true := by
  rcases idxL_cases q l with ⟨h1, _⟩ | h1
  · omega
  · exact h1
theorem idxL_neg {α : Type} {q : α → Bool} {l : List α} (h : idxL q l < 0) : ∀ j (hj : j < l.length), q l[j] ≠ true := by
  rcases idxL_cases q l with ⟨_, h1⟩ | ⟨k, _, h1, _⟩
  · exact h1
  · omega

/-! ### Types -/
def isTyDef (p : ProgT) (id : IdT) : Prop := hasDef p id ∧ ((theDef p id).kind = 0 ∨ (theDef p id).kind = 1)
instance (p : ProgT) (id : IdT) : Decidable (isTyDef p id) := by unfold isTyDef; exact inferInstance
def validTF (p : ProgT) : Nat → Ty → Bool
  | 0, _ => false
  | n + 1, t => if t.kind = 2 then decide (t.df = id0) && (match t.kids with | [x] => validTF p n x | _ => false)
    else t.kids.isEmpty && (if t.kind = 3 then decide (isTyDef p t.df) else decide (t.df = id0) && decide (t.kind = 0 ∨ t.kind = 1))
def validT (p : ProgT) (t : Ty) : Prop := validTF p 24 t = true
instance (p : ProgT) (t : Ty) : Decidable (validT p t) := by unfold validT; exact inferInstance
theorem validTF_list {p : ProgT} {n : Nat} {t : Ty} (hk : t.kind = 2) : validTF p (n + 1) t = true ↔ t.df = id0 ∧ ∃ y, t.kids = [y] ∧ validTF p n y = true := by
  rw [validTF, if_pos hk, Bool.and_eq_true, decide_eq_true_eq]
  refine and_congr_right fun _ => ?_
  split
  · rename_i x hx; rw [hx]; simp
  · rename_i x hx; simp; exact fun y e => absurd e (hx y)
theorem validTF_kid {p : ProgT} {n : Nat} {t : Ty} (hk : t.kind = 2) (h1 : t.df = id0) (h2 : t.kids.length = 1) : validTF p (n + 1) t = true ↔ validTF p n (t.kids[0]'(by omega)) = true := by
  rw [validTF_list hk]
  have e : t.kids = [t.kids[0]'(by omega)] := by
    apply List.ext_getElem
    · simp [h2]
    · intro i h3 h4; have : i = 0 := by simp at h4; omega
      subst this; rfl
  constructor
  · rintro ⟨_, y, h, hv⟩; simp only [h]; exact hv
  · exact fun hv => ⟨h1, _, e, hv⟩
theorem validTF_kids {p : ProgT} {n : Nat} {t : Ty} (hk : t.kind = 2) (h : validTF p (n + 1) t = true) : t.df = id0 ∧ t.kids.length = 1 := by
  obtain ⟨h1, y, h2, _⟩ := (validTF_list hk).1 h
  exact ⟨h1, by simp [h2]⟩
theorem validTF_def {p : ProgT} {n : Nat} {t : Ty} (hk : t.kind = 3) : validTF p (n + 1) t = true ↔ isTyDef p t.df ∧ t.kids.length = 0 := by
  rw [validTF, if_neg (by omega), if_pos hk, Bool.and_eq_true, decide_eq_true_eq, List.isEmpty_iff, and_comm, List.length_eq_zero_iff]
theorem validTF_one {p : ProgT} {n : Nat} {t : Ty} (hk : t.kind ≠ 2) (hk3 : t.kind ≠ 3) : validTF p (n + 1) t = true ↔ t.kids.length = 0 ∧ t.df = id0 ∧ (t.kind = 0 ∨ t.kind = 1) := by
  rw [validTF, if_neg hk, if_neg hk3, Bool.and_eq_true, Bool.and_eq_true, decide_eq_true_eq, decide_eq_true_eq, List.isEmpty_iff, List.length_eq_zero_iff]

/-! ### Weights, depths, order -/
mutual
def Val.wt : Val → Int
  | .mk k n l => if k = 0 then (if n < 0 then -n else n) else if k = 1 then n else if k = 2 then Val.wts l else if k = 3 then n + Val.wts l else if k = 4 then l.length + Val.wts l else 0
def Val.wts : List Val → Int
  | [] => 0
  | v :: vs => v.wt + Val.wts vs
end
theorem Val.wt_eq (v : Val) : v.wt = if v.kind = 0 then (if v.n < 0 then -v.n else v.n) else if v.kind = 1 then v.n else if v.kind = 2 then Val.wts v.kids else if v.kind = 3 then v.n + Val.wts v.kids else if v.kind = 4 then v.kids.length + Val.wts v.kids else 0 := by
  cases v; rw [Val.wt]; rfl
theorem Val.wts_append : ∀ (l m : List Val), Val.wts (l ++ m) = Val.wts l + Val.wts m
  | [], m => by simp [Val.wts]
  | x :: xs, m => by have := Val.wts_append xs m; simp only [List.cons_append, Val.wts]; omega
theorem Val.wts_succ (l : List Val) (k : Nat) (h : k < l.length) : Val.wts (l.take (k + 1)) = Val.wts (l.take k) + l[k].wt := by
  rw [List.take_succ_eq_append_getElem h, Val.wts_append]; simp [Val.wts]
/-- What a node itself adds. -/
def Val.own (v : Val) : Int := if v.kind = 0 then (if v.n < 0 then -v.n else v.n) else if v.kind = 1 then v.n else if v.kind = 2 then 0 else if v.kind = 3 then v.n else v.kids.length
mutual
def Val.depth : Val → Nat
  | .mk _ _ l => Val.depths l + 1
def Val.depths : List Val → Nat
  | [] => 0
  | v :: vs => max v.depth (Val.depths vs)
end
theorem Val.depth_eq (v : Val) : v.depth = Val.depths v.kids + 1 := by cases v; rw [Val.depth]; rfl
theorem Val.depths_append : ∀ (l m : List Val), Val.depths (l ++ m) = max (Val.depths l) (Val.depths m)
  | [], m => by simp [Val.depths]
  | x :: xs, m => by have := Val.depths_append xs m; simp only [List.cons_append, Val.depths]; omega
theorem Val.depths_succ (l : List Val) (k : Nat) (h : k < l.length) : Val.depths (l.take (k + 1)) = max (Val.depths (l.take k)) l[k].depth := by
  rw [List.take_succ_eq_append_getElem h, Val.depths_append]; simp [Val.depths]
theorem Val.depth_mem : ∀ {l : List Val} {t : Val}, t ∈ l → t.depth ≤ Val.depths l
  | x :: xs, t, h => by
    rw [Val.depths]
    rcases List.mem_cons.1 h with rfl | h
    · omega
    · have := Val.depth_mem h; omega
theorem Val.depth_kid {t k : Val} (h : k ∈ t.kids) : k.depth < t.depth := by
  have := Val.depth_mem h; rw [Val.depth_eq t]; omega
def cmpI (a b : Int) : Int := if a < b then -1 else if b < a then 1 else 0
mutual
def cmpV : Val → Val → Int
  | .mk k n l, .mk k' n' l' => if cmpI k k' ≠ 0 then cmpI k k' else if cmpI n n' ≠ 0 then cmpI n n' else if cmpI l.length l'.length ≠ 0 then cmpI l.length l'.length else cmpVs l l'
def cmpVs : List Val → List Val → Int
  | [], [] => 0
  | [], _ :: _ => -1
  | _ :: _, [] => 1
  | x :: xs, y :: ys => if cmpV x y ≠ 0 then cmpV x y else cmpVs xs ys
end
theorem cmpV_eq (a b : Val) : cmpV a b = if cmpI a.kind b.kind ≠ 0 then cmpI a.kind b.kind else if cmpI a.n b.n ≠ 0 then cmpI a.n b.n else if cmpI a.kids.length b.kids.length ≠ 0 then cmpI a.kids.length b.kids.length else cmpVs a.kids b.kids := by
  cases a; cases b; rw [cmpV]; rfl
theorem cmpVs_hit : ∀ {l m : List Val} {k : Nat} (h : k < l.length) (h' : k < m.length), (∀ j (hj : j < l.length) (hj' : j < m.length), j < k → cmpV l[j] m[j] = 0) → cmpV l[k] m[k] ≠ 0 → cmpVs l m = cmpV l[k] m[k]
  | x :: xs, y :: ys, 0, _, _, _, hn => by rw [cmpVs]; simp only [List.getElem_cons_zero] at hn ⊢; rw [if_pos hn]
  | x :: xs, y :: ys, k + 1, h, h', hz, hn => by
    have h0 := hz 0 (by simp) (by simp) (by omega)
    simp only [List.getElem_cons_zero] at h0
    rw [cmpVs, if_neg (by simp [h0])]
    exact cmpVs_hit (by simpa using h) (by simpa using h') (fun j hj hj' hlt => hz (j + 1) (Nat.succ_lt_succ hj) (Nat.succ_lt_succ hj') (by omega)) hn
theorem cmpVs_zero : ∀ {l m : List Val}, l.length = m.length → (∀ j (hj : j < l.length) (hj' : j < m.length), cmpV l[j] m[j] = 0) → cmpVs l m = 0
  | [], [], _, _ => by rw [cmpVs]
  | x :: xs, y :: ys, hl, hz => by
    have h0 := hz 0 (by simp) (by simp)
    simp only [List.getElem_cons_zero] at h0
    rw [cmpVs, if_neg (by simp [h0])]
    exact cmpVs_zero (by simpa using hl) (fun j hj hj' => hz (j + 1) (Nat.succ_lt_succ hj) (Nat.succ_lt_succ hj'))
theorem cmpVs_short : ∀ {l m : List Val}, l.length < m.length → (∀ j (hj : j < l.length) (hj' : j < m.length), cmpV l[j] m[j] = 0) → cmpVs l m = -1
  | [], y :: ys, _, _ => by rw [cmpVs]
  | x :: xs, y :: ys, hl, hz => by
    have h0 := hz 0 (by simp) (by simp)
    simp only [List.getElem_cons_zero] at h0
    rw [cmpVs, if_neg (by simp [h0])]
    exact cmpVs_short (by simpa using hl) (fun j hj hj' => hz (j + 1) (Nat.succ_lt_succ hj) (Nat.succ_lt_succ hj'))
theorem cmpVs_long : ∀ {l m : List Val} (hl : m.length < l.length), (∀ j (hj : j < l.length) (hj' : j < m.length), cmpV l[j] m[j] = 0) → cmpVs l m = 1
  | x :: xs, [], _, _ => by rw [cmpVs]
  | x :: xs, y :: ys, hl, hz => by
    have h0 := hz 0 (by simp) (by simp)
    simp only [List.getElem_cons_zero] at h0
    rw [cmpVs, if_neg (by simp [h0])]
    exact cmpVs_long (by simpa using hl) (fun j hj hj' => hz (j + 1) (Nat.succ_lt_succ hj) (Nat.succ_lt_succ hj'))
theorem cmpI_range (a b : Int) : cmpI a b = -1 ∨ cmpI a b = 0 ∨ cmpI a b = 1 := by
  unfold cmpI
  split
  · exact .inl rfl
  · split
    · exact .inr (.inr rfl)
    · exact .inr (.inl rfl)
mutual
theorem cmpV_range : ∀ a b : Val, cmpV a b = -1 ∨ cmpV a b = 0 ∨ cmpV a b = 1
  | .mk k n l, .mk k' n' l' => by
    rw [cmpV]
    split
    · exact cmpI_range _ _
    · split
      · exact cmpI_range _ _
      · split
        · exact cmpI_range _ _
        · exact cmpVs_range l l'
theorem cmpVs_range : ∀ l m : List Val, cmpVs l m = -1 ∨ cmpVs l m = 0 ∨ cmpVs l m = 1
  | [], [] => by simp [cmpVs]
  | [], _ :: _ => by simp [cmpVs]
  | _ :: _, [] => by simp [cmpVs]
  | x :: xs, y :: ys => by
    rw [cmpVs]
    split
    · exact cmpV_range x y
    · exact cmpVs_range xs ys
end
def orI : List Int → Int
  | [] => 0
  | x :: xs => if x ≠ 0 then x else orI xs
theorem orI_hit : ∀ {l : List Int} {k : Nat} (h : k < l.length), (∀ j (hj : j < l.length), j < k → ¬ l[j] ≠ 0) → l[k] ≠ 0 → orI l = l[k]
  | x :: xs, 0, _, _, hn => by rw [orI]; simp only [List.getElem_cons_zero] at hn ⊢; rw [if_pos hn]
  | x :: xs, k + 1, h, hz, hn => by
    have h0 := hz 0 (by simp) (by omega)
    simp only [List.getElem_cons_zero] at h0
    rw [orI, if_neg h0]
    exact orI_hit (by simpa using h) (fun j hj hlt => hz (j + 1) (Nat.succ_lt_succ hj) (by omega)) hn
theorem orI_miss : ∀ {l : List Int}, (∀ j (hj : j < l.length), ¬ l[j] ≠ 0) → orI l = 0
  | [], _ => rfl
  | x :: xs, hz => by
    have h0 := hz 0 (by simp)
    simp only [List.getElem_cons_zero] at h0
    rw [orI, if_neg h0]
    exact orI_miss (fun j hj => hz (j + 1) (Nat.succ_lt_succ hj))
def head3 (v : Val) : List Int := [v.kind, v.n, v.kids.length]
theorem head3_eq {a b : Val} (h : ∀ j (hj : j < (head3 a).length), j < 3 → (head3 a)[j] = (head3 b)[j]) : a.kind = b.kind ∧ a.n = b.n ∧ a.kids.length = b.kids.length := by
  have h0 := h 0 (by simp [head3]) (by omega)
  have h1 := h 1 (by simp [head3]) (by omega)
  have h2 := h 2 (by simp [head3]) (by omega)
  simp only [head3, List.getElem_cons_zero, List.getElem_cons_succ] at h0 h1 h2
  exact ⟨h0, h1, by omega⟩
theorem cmpI_self (a : Int) : cmpI a a = 0 := by unfold cmpI; rw [if_neg (by omega), if_neg (by omega)]
theorem cmpI_lt {a b : Int} (h : a < b) : cmpI a b = -1 := by unfold cmpI; rw [if_pos h]
theorem cmpI_gt {a b : Int} (h : b < a) : cmpI a b = 1 := by unfold cmpI; rw [if_neg (by omega), if_pos h]
theorem cmpV_head {a b : Val} {k : Nat} (hk : k < 3) (h : ∀ j (hj : j < (head3 a).length), j < k → (head3 a)[j] = (head3 b)[j]) (c : Int) (hc : c ≠ 0) (hd : cmpI ((head3 a)[k]'(by simpa [head3] using hk)) ((head3 b)[k]'(by simpa [head3] using hk)) = c) : cmpV a b = c := by
  rw [cmpV_eq]
  match k, hk with
  | 0, _ =>
    simp only [head3, List.getElem_cons_zero] at hd
    rw [hd, if_pos hc]
  | 1, _ =>
    have h0 := h 0 (by simp [head3]) (by omega)
    simp only [head3, List.getElem_cons_zero, List.getElem_cons_succ] at h0 hd
    rw [h0, cmpI_self, if_neg (by simp), hd, if_pos hc]
  | 2, _ =>
    have h0 := h 0 (by simp [head3]) (by omega)
    have h1 := h 1 (by simp [head3]) (by omega)
    simp only [head3, List.getElem_cons_zero, List.getElem_cons_succ] at h0 h1 hd
    rw [h0, h1, cmpI_self, cmpI_self, if_neg (by simp), if_neg (by simp), hd, if_pos hc]
theorem cmpV_kids {a b : Val} (h : a.kind = b.kind ∧ a.n = b.n ∧ a.kids.length = b.kids.length) : cmpV a b = cmpVs a.kids b.kids := by
  obtain ⟨h0, h1, h2⟩ := h
  rw [cmpV_eq, h0, h1, h2, cmpI_self, cmpI_self, cmpI_self, if_neg (by simp), if_neg (by simp), if_neg (by simp)]
theorem w64_nat (a b : Nat) : w64 (w64 (a : Int) + w64 (b : Int)) = w64 ((a + b : Nat) : Int) := by rw [w64_add, w64_add2, Int.natCast_add]
theorem cast_max (a b : Nat) : ((max a b : Nat) : Int) = max (a : Int) b := by omega
theorem w64_sum (a b : Int) : w64 (w64 a + w64 b) = w64 (a + b) := by rw [w64_add, w64_add2]
theorem own_get {v : Val} {q : Nat} (h0 : 0 ≤ v.kind) (h4 : v.kind ≤ 4) (hn : InI v.n) (hl : v.kids.length ≤ 140737488355328) (hneg : ¬ (v.kind = 0 ∧ v.n < 0)) (hq : q = v.kind.toNat) :
    ([vint v.n, vint v.n, vint 0, vint v.n, vint v.kids.length] : List Value)[q]? = some (vint (w64 v.own)) := by
  unfold InI at hn
  have e1 : w64 v.n = v.n := w64_in hn
  have e2 : w64 (v.kids.length : Int) = v.kids.length := w64_in (by omega)
  have hk : v.kind = 0 ∨ v.kind = 1 ∨ v.kind = 2 ∨ v.kind = 3 ∨ v.kind = 4 := by omega
  subst hq
  rcases hk with e | e | e | e | e
  · have : ¬ v.n < 0 := fun h => hneg ⟨e, h⟩
    rw [Val.own, if_pos e, if_neg this, e1, e]; rfl
  · rw [Val.own, if_neg (by omega), if_pos e, e1, e]; rfl
  · rw [Val.own, if_neg (by omega), if_neg (by omega), if_pos e, e]; rfl
  · rw [Val.own, if_neg (by omega), if_neg (by omega), if_neg (by omega), if_pos e, e1, e]; rfl
  · rw [Val.own, if_neg (by omega), if_neg (by omega), if_neg (by omega), if_neg (by omega), e2, e]; rfl
theorem wt_leaf {v : Val} (h : v.kind = 0 ∨ v.kind = 1) : v.wt = v.own := by
  rw [Val.wt_eq, Val.own]
  rcases h with e | e
  · rw [if_pos e, if_pos e]
  · rw [if_neg (by omega), if_pos e, if_neg (by omega), if_pos e]
theorem wt_node {v : Val} (h0 : 2 ≤ v.kind) (h4 : v.kind ≤ 4) : v.wt = v.own + Val.wts v.kids := by
  have hk : v.kind = 2 ∨ v.kind = 3 ∨ v.kind = 4 := by omega
  rw [Val.wt_eq, Val.own]
  rcases hk with e | e | e <;> rw [e] <;> simp
theorem wt_none {v : Val} (h : v.kind < 0 ∨ 4 < v.kind) : v.wt = 0 := by
  rw [Val.wt_eq, if_neg (by omega), if_neg (by omega), if_neg (by omega), if_neg (by omega), if_neg (by omega)]
theorem cmpV_or (a b : Val) : cmpV a b = if orI [cmpI a.kind b.kind, cmpI a.n b.n, cmpI a.kids.length b.kids.length] ≠ 0 then orI [cmpI a.kind b.kind, cmpI a.n b.n, cmpI a.kids.length b.kids.length] else cmpVs a.kids b.kids := by
  rw [cmpV_eq]
  generalize cmpI a.kind b.kind = x
  generalize cmpI a.n b.n = y
  generalize cmpI a.kids.length b.kids.length = z
  simp only [orI]
  by_cases h1 : x = 0 <;> by_cases h2 : y = 0 <;> by_cases h3 : z = 0 <;> simp [h1, h2, h3]

/-! ### Searches that turn a state; small values -/
def contS {α σ : Type} (q : α → σ → Bool × σ) : List α → σ → Bool × σ
  | [], s => (false, s)
  | x :: xs, s => if (q x s).1 then (true, (q x s).2) else contS q xs (q x s).2
/-- The state ahead of the k-th. -/
def stS {α σ : Type} (q : α → σ → Bool × σ) : List α → σ → Nat → σ
  | _, s, 0 => s
  | [], s, _ + 1 => s
  | x :: xs, s, k + 1 => stS q xs (q x s).2 k
theorem stS_succ {α σ : Type} (q : α → σ → Bool × σ) : ∀ (l : List α) (s : σ) (k : Nat) (h : k < l.length), stS q l s (k + 1) = (q l[k] (stS q l s k)).2
  | x :: xs, s, 0, _ => by simp [stS]
  | x :: xs, s, k + 1, h => by
    rw [stS, stS_succ q xs (q x s).2 k (by simpa using h)]
    simp [stS]
theorem contS_hit {α σ : Type} {q : α → σ → Bool × σ} : ∀ {l : List α} {s : σ} {k : Nat} (h : k < l.length), (∀ j (hj : j < l.length), j < k → (q l[j] (stS q l s j)).1 = false) → (q l[k] (stS q l s k)).1 = true → contS q l s = (true, (q l[k] (stS q l s k)).2)
  | x :: xs, s, 0, _, _, ht => by
    simp only [List.getElem_cons_zero, stS] at ht ⊢
    rw [contS, if_pos ht]
  | x :: xs, s, k + 1, h, hz, ht => by
    have h0 := hz 0 (by simp) (by omega)
    simp only [List.getElem_cons_zero, stS] at h0
    rw [contS, if_neg (by simp [h0])]
    exact contS_hit (by simpa using h) (fun j hj hlt => hz (j + 1) (Nat.succ_lt_succ hj) (by omega)) ht
theorem contS_miss {α σ : Type} {q : α → σ → Bool × σ} : ∀ {l : List α} {s : σ}, (∀ j (hj : j < l.length), (q l[j] (stS q l s j)).1 = false) → contS q l s = (false, stS q l s l.length)
  | [], s, _ => by simp [contS, stS]
  | x :: xs, s, hz => by
    have h0 := hz 0 (by simp)
    simp only [List.getElem_cons_zero, stS] at h0
    rw [contS, if_neg (by simp [h0]), contS_miss (fun j hj => hz (j + 1) (Nat.succ_lt_succ hj))]
    simp [stS]
mutual
def visitV : Val → Int → Int → Bool × Int
  | .mk _ _ l, d, s => if 0 ≤ s - 1 ∧ d ≤ 24 then visitVs l (d + 1) (s - 1) else (false, s - 1)
def visitVs : List Val → Int → Int → Bool × Int
  | [], _, s => (true, s)
  | v :: vs, d, s => if (visitV v d s).1 then visitVs vs d (visitV v d s).2 else (false, (visitV v d s).2)
end
theorem visitV_eq (v : Val) (d s : Int) : visitV v d s = if 0 ≤ s - 1 ∧ d ≤ 24 then visitVs v.kids (d + 1) (s - 1) else (false, s - 1) := by cases v; rw [visitV]; rfl
def notQ (d : Int) (v : Val) (s : Int) : Bool × Int := (!(visitV v d s).1, (visitV v d s).2)
theorem contS_visit : ∀ (l : List Val) (d s : Int), contS (notQ d) l s = (!(visitVs l d s).1, (visitVs l d s).2)
  | [], d, s => by simp [contS, visitVs]
  | v :: vs, d, s => by
    rw [contS, visitVs, notQ]
    cases h : (visitV v d s).1 with
    | true => simp [h, contS_visit vs d (visitV v d s).2]
    | false => simp [h]
mutual
theorem visitV_range : ∀ (v : Val) (d s : Int), 0 ≤ s → (visitV v d s).2 ≤ s ∧ ((visitV v d s).1 = true → 0 ≤ (visitV v d s).2)
  | .mk _ _ l, d, s, h => by
    rw [visitV]
    split
    · rename_i hc
      have := visitVs_range l (d + 1) (s - 1) (by omega)
      exact ⟨by omega, this.2⟩
    · exact ⟨by simp; omega, fun h => by simp at h⟩
theorem visitVs_range : ∀ (l : List Val) (d s : Int), 0 ≤ s → (visitVs l d s).2 ≤ s ∧ ((visitVs l d s).1 = true → 0 ≤ (visitVs l d s).2)
  | [], d, s, h => by simp [visitVs, h]
  | v :: vs, d, s, h => by
    have h1 := visitV_range v d s h
    rw [visitVs]
    split
    · rename_i hc
      have h2 := visitVs_range vs d _ (h1.2 hc)
      exact ⟨by omega, h2.2⟩
    · exact ⟨h1.1, fun h => by simp at h⟩
end
def smallV (v : Val) : Prop := (visitV v 1 256).1 = true
instance (v : Val) : Decidable (smallV v) := by unfold smallV; exact inferInstance

/-! ### Values of a type -/
mutual
def fitsB (p : ProgT) : Val → Ty → Bool
  | .mk k n l, t => decide (validT p t) && (if t.kind = 0 then decide (k = 0) && l.isEmpty && decide (-1099511627776 ≤ n ∧ n ≤ 1099511627776)
    else if t.kind = 1 then decide (k = 1) && l.isEmpty && decide (n = 0 ∨ n = 1)
    else if t.kind = 2 then decide (k = 4) && decide (n = 0) && fitsL p l (t.kids.headD ty0)
    else if (theDef p t.df).kind = 1 then decide (k = 3) && decide (0 ≤ n ∧ n < (theDef p t.df).slots.length) && decide (l.length = 1) && fitsL p l (((theDef p t.df).slots.map SlotT.ty).getD n.toNat ty0)
    else decide (k = 2) && decide (n = 0) && decide (l.length = (theDef p t.df).slots.length) && fitsZ p l ((theDef p t.df).slots.map SlotT.ty))
def fitsL (p : ProgT) : List Val → Ty → Bool
  | [], _ => true
  | v :: vs, t => fitsB p v t && fitsL p vs t
def fitsZ (p : ProgT) : List Val → List Ty → Bool
  | [], _ => true
  | _ :: _, [] => false
  | v :: vs, t :: ts => fitsB p v t && fitsZ p vs ts
end
theorem fitsB_eq (p : ProgT) (v : Val) (t : Ty) : fitsB p v t = (decide (validT p t) && (if t.kind = 0 then decide (v.kind = 0) && v.kids.isEmpty && decide (-1099511627776 ≤ v.n ∧ v.n ≤ 1099511627776)
    else if t.kind = 1 then decide (v.kind = 1) && v.kids.isEmpty && decide (v.n = 0 ∨ v.n = 1)
    else if t.kind = 2 then decide (v.kind = 4) && decide (v.n = 0) && fitsL p v.kids (t.kids.headD ty0)
    else if (theDef p t.df).kind = 1 then decide (v.kind = 3) && decide (0 ≤ v.n ∧ v.n < (theDef p t.df).slots.length) && decide (v.kids.length = 1) && fitsL p v.kids (((theDef p t.df).slots.map SlotT.ty).getD v.n.toNat ty0)
    else decide (v.kind = 2) && decide (v.n = 0) && decide (v.kids.length = (theDef p t.df).slots.length) && fitsZ p v.kids ((theDef p t.df).slots.map SlotT.ty))) := by
  cases v; rw [fitsB]; rfl
theorem fitsL_all : ∀ {p : ProgT} {l : List Val} {t : Ty}, fitsL p l t = true ↔ ∀ j (hj : j < l.length), fitsB p l[j] t = true
  | p, [], t => by simp [fitsL]
  | p, v :: vs, t => by
    rw [fitsL, Bool.and_eq_true, fitsL_all]
    constructor
    · rintro ⟨h1, h2⟩ j hj
      cases j with
      | zero => exact h1
      | succ j => exact h2 j (by simpa using hj)
    · exact fun h => ⟨h 0 (by simp), fun j hj => h (j + 1) (Nat.succ_lt_succ hj)⟩
theorem fitsZ_all : ∀ {p : ProgT} {l : List Val} {ts : List Ty}, l.length = ts.length → (fitsZ p l ts = true ↔ ∀ j (hj : j < l.length) (hj2 : j < ts.length), fitsB p l[j] ts[j] = true)
  | p, [], ts, _ => by simp [fitsZ]
  | p, v :: vs, t :: ts, h => by
    rw [fitsZ, Bool.and_eq_true, fitsZ_all (by simpa using h)]
    constructor
    · rintro ⟨h1, h2⟩ j hj hj2
      cases j with
      | zero => exact h1
      | succ j => exact h2 j (by simpa using hj) (by simpa using hj2)
    · exact fun h => ⟨h 0 (by simp) (by simp), fun j hj hj2 => h (j + 1) (Nat.succ_lt_succ hj) (Nat.succ_lt_succ hj2)⟩
theorem contS_unit {α : Type} (q : α → Bool) : ∀ (l : List α) (u : Unit), contS (fun x s => (q x, s)) l u = (l.any q, ())
  | [], u => rfl
  | x :: xs, u => by
    rw [contS, List.any_cons]
    cases h : q x with
    | true => simp
    | false => simp [contS_unit q xs ()]
theorem vbB {p : Prop} [Decidable p] {b : Bool} (h : p ↔ b = true) : Value.bool (decide p) = Value.bool b := by
  cases b <;> simp_all
theorem vbN {b : Bool} : Value.bool (decide (¬ (b = true))) = Value.bool (!b) := by cases b <;> simp
theorem fits_not {p : ProgT} {v : Val} {t : Ty} (h : ¬ validT p t) : ¬ fitsB p v t = true := by rw [fitsB_eq]; simp [h]
theorem fits0 {p : ProgT} {v : Val} {t : Ty} (h : validT p t) (hk : t.kind = 0) : fitsB p v t = true ↔ v.kind = 0 ∧ v.kids.length = 0 ∧ -1099511627776 ≤ v.n ∧ v.n ≤ 1099511627776 := by
  rw [fitsB_eq, if_pos hk]; simp [h, and_assoc]
theorem fits1 {p : ProgT} {v : Val} {t : Ty} (h : validT p t) (hk : t.kind = 1) : fitsB p v t = true ↔ v.kind = 1 ∧ v.kids.length = 0 ∧ (v.n = 0 ∨ v.n = 1) := by
  rw [fitsB_eq, if_neg (by omega), if_pos hk]; simp [h, and_assoc]
theorem fits2 {p : ProgT} {v : Val} {t : Ty} (h : validT p t) (hk : t.kind = 2) : fitsB p v t = true ↔ v.kind = 4 ∧ v.n = 0 ∧ ∀ j (hj : j < v.kids.length), fitsB p v.kids[j] (t.kids.headD ty0) = true := by
  rw [fitsB_eq, if_neg (by omega), if_neg (by omega), if_pos hk, ← fitsL_all]; simp [h, and_assoc]
theorem fits2a {p : ProgT} {v : Val} {t : Ty} (h : validT p t) (hk : t.kind = 2) : fitsB p v t = true ↔ v.kind = 4 ∧ v.n = 0 ∧ v.kids.any (fun x => !(fitsB p x (t.kids.headD ty0))) = false := by
  rw [fits2 h hk]
  refine and_congr_right fun _ => and_congr_right fun _ => ?_
  rw [List.any_eq_false]
  constructor
  · intro hh x hx
    obtain ⟨j, hj, rfl⟩ := List.mem_iff_getElem.1 hx
    rw [hh j hj]; simp
  · intro hh j hj
    have := hh _ (List.getElem_mem hj)
    simpa using this
theorem fitsL_one {p : ProgT} {l : List Val} {t : Ty} (h : l.length = 1) : fitsL p l t = fitsB p (l[0]'(by omega)) t := by
  match l, h with
  | [x], _ => simp [fitsL]
theorem getD_map {l : List SlotT} {n : Nat} (h : n < l.length) : (l.map SlotT.ty).getD n ty0 = l[n].ty := by simp [h]
theorem fits3c {p : ProgT} {v : Val} {t : Ty} (h : validT p t) (hk0 : t.kind ≠ 0) (hk1 : t.kind ≠ 1) (hk2 : t.kind ≠ 2) (hd : (theDef p t.df).kind = 1) :
    fitsB p v t = true ↔ v.kind = 3 ∧ (0 ≤ v.n ∧ v.n < (theDef p t.df).slots.length) ∧ v.kids.length = 1 ∧ fitsL p v.kids (((theDef p t.df).slots.map SlotT.ty).getD v.n.toNat ty0) = true := by
  rw [fitsB_eq, if_neg hk0, if_neg hk1, if_neg hk2, if_pos hd]; simp [h, and_assoc]
theorem fits3k {p : ProgT} {v : Val} {t : Ty} (h : validT p t) (hk0 : t.kind ≠ 0) (hk1 : t.kind ≠ 1) (hk2 : t.kind ≠ 2) (hd : (theDef p t.df).kind = 1) (h1 : v.kind = 3) (h2 : 0 ≤ v.n) (h3 : v.n.toNat < (theDef p t.df).slots.length) (h4 : v.kids.length = 1) :
    fitsB p v t = true ↔ fitsB p (v.kids[0]'(by omega)) ((theDef p t.df).slots[v.n.toNat]).ty = true := by
  rw [fits3c h hk0 hk1 hk2 hd, fitsL_one h4, getD_map h3]
  exact ⟨fun hh => hh.2.2.2, fun hh => ⟨h1, ⟨h2, by omega⟩, h4, hh⟩⟩
theorem fits3r {p : ProgT} {v : Val} {t : Ty} (h : validT p t) (hk0 : t.kind ≠ 0) (hk1 : t.kind ≠ 1) (hk2 : t.kind ≠ 2) (hd : (theDef p t.df).kind ≠ 1) :
    fitsB p v t = true ↔ v.kind = 2 ∧ v.n = 0 ∧ v.kids.length = (theDef p t.df).slots.length ∧ ∀ j (hj : j < v.kids.length) (hj2 : j < (theDef p t.df).slots.length), fitsB p v.kids[j] ((theDef p t.df).slots[j]).ty = true := by
  rw [fitsB_eq, if_neg hk0, if_neg hk1, if_neg hk2, if_neg hd]
  simp only [h, decide_true, Bool.true_and, Bool.and_eq_true, decide_eq_true_eq, and_assoc]
  refine and_congr_right fun _ => and_congr_right fun _ => and_congr_right fun hl => ?_
  rw [fitsZ_all (by simpa using hl)]
  constructor
  · exact fun hh j hj hj2 => by
      have := hh j hj (by simpa using hj2)
      rw [List.getElem_map] at this; exact this
  · exact fun hh j hj hj2 => by
      rw [List.getElem_map]; exact hh j hj (by simpa using hj2)
theorem validT_one {p : ProgT} {t : Ty} (h : validT p t) (hk : t.kind = 2) : t.kids.length = 1 := (validTF_kids hk h).2
theorem headD_0 {l : List Ty} (h : 0 < l.length) : l.headD ty0 = l[0] := by cases l with
  | nil => simp at h
  | cons x xs => rfl
def validV (p : ProgT) (t : Ty) (v : Val) : Prop := smallV v ∧ fitsB p v t = true
instance (p : ProgT) (t : Ty) (v : Val) : Decidable (validV p t v) := by unfold validV; exact inferInstance

/-! ### Zero values -/
def v0 : Val := .mk 0 0 []
abbrev ZR := Val × Int × Int
def zeroL (g : Ty → Int → ZR) : List Ty → Int → List Val × Int × Int
  | [], l => ([], 0, l)
  | t :: ts, l => if (g t l).2.1 ≠ 0 then ([], (g t l).2.1, (g t l).2.2)
    else if (zeroL g ts (g t l).2.2).2.1 ≠ 0 then ([], (zeroL g ts (g t l).2.2).2.1, (zeroL g ts (g t l).2.2).2.2)
    else ((g t l).1 :: (zeroL g ts (g t l).2.2).1, 0, (zeroL g ts (g t l).2.2).2.2)
def zNode (k : Int) (r : List Val × Int × Int) : ZR := if r.2.1 ≠ 0 then (v0, r.2.1, r.2.2) else (.mk k 0 r.1, 0, r.2.2)
def zeroF (p : ProgT) : Nat → Ty → Int → ZR
  | 0, t, l => if ¬ validT p t then (v0, 1, l) else (v0, 4, l - 1)
  | n + 1, t, l => if ¬ validT p t then (v0, 1, l) else if l - 1 < 0 then (v0, 4, l - 1)
    else if t.kind = 0 then (.mk 0 0 [], 0, l - 1) else if t.kind = 1 then (.mk 1 0 [], 0, l - 1) else if t.kind = 2 then (.mk 4 0 [], 0, l - 1)
    else if (theDef p t.df).kind = 1 then (if (theDef p t.df).slots.length = 0 then (v0, 1, l - 1) else zNode 3 (zeroL (zeroF p n) (((theDef p t.df).slots.take 1).map SlotT.ty) (l - 1)))
    else zNode 2 (zeroL (zeroF p n) ((theDef p t.df).slots.map SlotT.ty) (l - 1))
def zJoin (dn : List Val) (r : List Val × Int × Int) : List Val × Int × Int := if r.2.1 ≠ 0 then ([], r.2.1, r.2.2) else (dn ++ r.1, 0, r.2.2)
theorem zeroL_err (g : Ty → Int → ZR) : ∀ (ts : List Ty) (l : Int), (zeroL g ts l).2.1 ≠ 0 → (zeroL g ts l).1 = []
  | [], l, h => by simp [zeroL] at h
  | t :: ts, l, h => by
    rw [zeroL] at h ⊢
    split at h
    · rename_i h1; rw [if_pos h1]
    · rename_i h1
      rw [if_neg h1]
      split at h
      · rename_i h2; rw [if_pos h2]
      · simp at h
theorem zJoin_nil (g : Ty → Int → ZR) (ts : List Ty) (l : Int) : zeroL g ts l = zJoin [] (zeroL g ts l) := by
  unfold zJoin
  split
  · rename_i h
    rw [← zeroL_err g ts l h]
  · rename_i h
    have : (zeroL g ts l).2.1 = 0 := Decidable.not_not.1 h
    rw [← this]; simp
theorem zJoin_err {g : Ty → Int → ZR} {ts : List Ty} {l : Int} {k : Nat} {dn : List Val} {lk : Int} (hk : k < ts.length) (h : zeroL g ts l = zJoin dn (zeroL g (ts.drop k) lk)) (he : (g ts[k] lk).2.1 ≠ 0) : zeroL g ts l = ([], (g ts[k] lk).2.1, (g ts[k] lk).2.2) := by
  rw [h, List.drop_eq_getElem_cons hk, zeroL, if_pos he, zJoin, if_pos he]
theorem zJoin_step {g : Ty → Int → ZR} {ts : List Ty} {l : Int} {k : Nat} {dn : List Val} {lk : Int} (hk : k < ts.length) (h : zeroL g ts l = zJoin dn (zeroL g (ts.drop k) lk)) (he : ¬ (g ts[k] lk).2.1 ≠ 0) : zeroL g ts l = zJoin (dn ++ [(g ts[k] lk).1]) (zeroL g (ts.drop (k + 1)) (g ts[k] lk).2.2) := by
  rw [h, List.drop_eq_getElem_cons hk, zeroL, if_neg he]
  generalize zeroL g (List.drop (k + 1) ts) (g ts[k] lk).2.2 = r
  unfold zJoin
  by_cases h3 : r.2.1 = 0 <;> simp [h3]
theorem zJoin_end {g : Ty → Int → ZR} {ts : List Ty} {l : Int} {k : Nat} {dn : List Val} {lk : Int} (hk : ts.length ≤ k) (h : zeroL g ts l = zJoin dn (zeroL g (ts.drop k) lk)) : zeroL g ts l = (dn, 0, lk) := by
  rw [h, List.drop_of_length_le hk, zeroL, zJoin]; simp
theorem zeroF_arg {p : ProgT} {n : Nat} {t : Ty} {l : Int} (h : ¬ validT p t) : zeroF p n t l = (v0, 1, l) := by
  cases n with
  | zero => rw [zeroF, if_pos h]
  | succ n => rw [zeroF, if_pos h]
theorem zeroF_lim {p : ProgT} {n : Nat} {t : Ty} {l : Int} (h : validT p t) (hl : l - 1 < 0 ∨ n = 0) : zeroF p n t l = (v0, 4, l - 1) := by
  cases n with
  | zero => rw [zeroF, if_neg (by simp [h])]
  | succ n => rw [zeroF, if_neg (by simp [h]), if_pos (by omega)]
theorem zeroF_left (p : ProgT) : ∀ (n : Nat) (t : Ty) (l : Int), (zeroF p n t l).2.1 = 0 → 0 ≤ (zeroF p n t l).2.2 ∧ (zeroF p n t l).2.2 ≤ l - 1
  | 0, t, l, h => by
    rw [zeroF] at h
    split at h <;> simp at h
  | n + 1, t, l, h => by
    have key : ∀ (ts : List Ty) (l0 : Int), 0 ≤ l0 → (zeroL (zeroF p n) ts l0).2.1 = 0 → 0 ≤ (zeroL (zeroF p n) ts l0).2.2 ∧ (zeroL (zeroF p n) ts l0).2.2 ≤ l0 := by
      intro ts
      induction ts with
      | nil => intro l0 h0 _; simp [zeroL]; exact h0
      | cons t ts ih =>
        intro l0 h0 he
        rw [zeroL] at he ⊢
        split at he
        · rename_i h1; exact absurd he h1
        · rename_i h1
          rw [if_neg h1]
          have h2 := zeroF_left p n t l0 (Decidable.not_not.1 h1)
          split at he
          · rename_i h3; exact absurd he h3
          · rename_i h3
            rw [if_neg h3]
            have := ih _ h2.1 (Decidable.not_not.1 h3)
            exact ⟨this.1, by have := this.2; simp only; omega⟩
    have hz : ∀ (k : Int) (ts : List Ty), 0 ≤ l - 1 → (zNode k (zeroL (zeroF p n) ts (l - 1))).2.1 = 0 → 0 ≤ (zNode k (zeroL (zeroF p n) ts (l - 1))).2.2 ∧ (zNode k (zeroL (zeroF p n) ts (l - 1))).2.2 ≤ l - 1 := by
      intro k ts h0 he
      unfold zNode at he ⊢
      split at he
      · rename_i h1; exact absurd he h1
      · rename_i h1
        rw [if_neg h1]
        exact key ts (l - 1) h0 (Decidable.not_not.1 h1)
    rw [zeroF] at h ⊢
    split at h
    · simp at h
    · rename_i h1
      rw [if_neg h1]
      split at h
      · simp at h
      · rename_i h2
        rw [if_neg h2]
        split at h
        · rename_i h3; rw [if_pos h3]; simp; omega
        · rename_i h3
          rw [if_neg h3]
          split at h
          · rename_i h4; rw [if_pos h4]; simp; omega
          · rename_i h4
            rw [if_neg h4]
            split at h
            · rename_i h5; rw [if_pos h5]; simp; omega
            · rename_i h5
              rw [if_neg h5]
              split at h
              · rename_i h6
                rw [if_pos h6]
                split at h
                · simp at h
                · rename_i h7; rw [if_neg h7]; exact hz _ _ (by omega) h
              · rename_i h6; rw [if_neg h6]; exact hz _ _ (by omega) h
def onesN : Nat := 1
/-- The zero value of a type, or what is wrong. -/
def zeroV (p : ProgT) (t : Ty) : ZR := zeroF p 24 t 256
theorem snoc_flat (l : List Val) (v : Val) : (l ++ [v]).flatMap Val.enc = l.flatMap Val.enc ++ v.enc := by simp
end Xe

/- THE PLAIN FUNCTIONS of encodings. No program in sight. -/
namespace Xe
open Go

/-- How many bytes a number takes. -/
def nd (m : Nat) : Nat := if m = 0 then 0 else nd (m / 256) + 1
termination_by m
decreasing_by exact Nat.div_lt_self (by omega) (by omega)
theorem nd_zero : nd 0 = 0 := by rw [nd]; simp
theorem nd_pos {m : Nat} (h : m ≠ 0) : nd m = nd (m / 256) + 1 := by rw [nd, if_neg h]
theorem nd_eq : ∀ {j m : Nat}, m < 256 ^ j → (j = 0 ∨ 0 < m / 2 ^ (8 * (j - 1))) → nd m = j
  | 0, m, h, _ => by
    have : m = 0 := by simpa using h
    rw [this, nd_zero]
  | j + 1, m, h, h2 => by
    have h2 : 0 < m / 2 ^ (8 * j) := by rcases h2 with h2 | h2; omega; simpa using h2
    have hm : m ≠ 0 := by rintro rfl; simp at h2
    rw [nd_pos hm, nd_eq (j := j)]
    · rw [Nat.pow_succ] at h; omega
    · rcases Nat.eq_zero_or_pos j with rfl | hj
      · exact .inl rfl
      · refine .inr ?_
        have e : m / 2 ^ (8 * j) = m / 256 / 2 ^ (8 * (j - 1)) := by
          rw [Nat.div_div_eq_div_mul]
          congr 1
          rw [show 8 * j = 8 + 8 * (j - 1) from by omega, Nat.pow_add]
        rw [← e]; exact h2
theorem lt_pow_pred {m j : Nat} (_hj : 0 < j) (h : ¬ 0 < m / 2 ^ (8 * (j - 1))) : m < 256 ^ (j - 1) := by
  have h0 : m / 2 ^ (8 * (j - 1)) = 0 := Nat.eq_zero_of_not_pos h
  have h1 : (256 : Nat) ^ (j - 1) = 2 ^ (8 * (j - 1)) := by rw [Nat.pow_mul]
  rw [h1]
  rcases Nat.div_eq_zero_iff.1 h0 with h | h
  · exact absurd h (by simp)
  · exact h
def mag (n : Int) : Nat := (if n < 0 then -1 - n else n).toNat
def sgn (n : Int) : Nat := if n < 0 then 255 else 0
theorem sgn_or (n : Int) : sgn n = 0 ∨ sgn n = 255 := by unfold sgn; split <;> simp
theorem mag_lt {n : Int} (h : InI n) : mag n < 9223372036854775808 := by unfold InI at h; unfold mag; split <;> omega
theorem mag_nn {n : Int} (h : InI n) (hn : ¬ n < 0) : (n % 18446744073709551616).toNat = mag n := by unfold InI at h; unfold mag; rw [if_neg hn]; omega
theorem mag_ng {n : Int} (h : InI n) (hn : n < 0) : 18446744073709551615 - (n % 18446744073709551616).toNat = mag n := by unfold InI at h; unfold mag; rw [if_pos hn]; omega
def digitJ (n : Int) (j r : Nat) : Nat := flip8 (sgn n) (mag n / 2 ^ (8 * (j - 1 - r)) % 256)
def encP (n : Int) (j r : Nat) : List Nat := flip8 (sgn n) (128 + j) :: (List.range r).map (digitJ n j)
/-- The encoding of a number. -/
def encI (n : Int) : List Nat := encP n (nd (mag n)) (nd (mag n))
theorem encP_len (n : Int) (j r : Nat) : (encP n j r).length = 1 + r := by simp [encP]; omega
theorem encP_succ (n : Int) (j r : Nat) : encP n j (r + 1) = encP n j r ++ [digitJ n j r] := by simp [encP, List.range_succ]
theorem nd_le {m : Nat} (h : m < 18446744073709551616) : nd m ≤ 8 := by
  have key : ∀ (j m : Nat), m < 256 ^ j → nd m ≤ j := by
    intro j
    induction j with
    | zero => intro m h; have : m = 0 := by simpa using h
              rw [this, nd_zero]; exact Nat.le_refl _
    | succ j ih =>
      intro m h
      by_cases hm : m = 0
      · rw [hm, nd_zero]; omega
      · rw [nd_pos hm]
        have := ih (m / 256) (by rw [Nat.pow_succ] at h; omega)
        omega
  exact key 8 m (by simpa using h)
theorem encI_len {n : Int} (h : InI n) : (encI n).length ≤ 9 := by
  have := nd_le (m := mag n) (by have := mag_lt h; omega)
  rw [encI, encP_len]; omega
mutual
def encV : Val → List Nat
  | .mk k n l => encI k ++ encI n ++ encI l.length ++ encVs l
def encVs : List Val → List Nat
  | [] => []
  | v :: vs => encV v ++ encVs vs
end
theorem encV_eq (v : Val) : encV v = encI v.kind ++ encI v.n ++ encI v.kids.length ++ encVs v.kids := by cases v; rw [encV]; rfl
theorem encVs_append : ∀ (l m : List Val), encVs (l ++ m) = encVs l ++ encVs m
  | [], m => by simp [encVs]
  | x :: xs, m => by simp only [List.cons_append, encVs, encVs_append xs m, List.append_assoc]
theorem encVs_succ (l : List Val) (k : Nat) (h : k < l.length) : encVs (l.take (k + 1)) = encVs (l.take k) ++ encV l[k] := by
  rw [List.take_succ_eq_append_getElem h, encVs_append]; simp [encVs]
theorem take_flat_succ {α : Type} (ls : List (List α)) (k : Nat) (h : k < ls.length) : (ls.take (k + 1)).flatten = (ls.take k).flatten ++ ls[k] := by
  rw [List.take_succ_eq_append_getElem h, List.flatten_append]; simp
theorem flat_le {α : Type} (b : Nat) : ∀ (ls : List (List α)), (∀ l ∈ ls, l.length ≤ b) → ls.flatten.length ≤ ls.length * b
  | [], _ => by simp
  | l :: ls, h => by
    have h1 := h l (List.mem_cons_self ..)
    have h2 := flat_le b ls fun x hx => h x (List.mem_cons_of_mem _ hx)
    rw [List.flatten_cons, List.length_append, List.length_cons, Nat.succ_mul]; omega
theorem kids_le_size (v : Val) : v.kids.length < v.size := by
  have : ∀ l : List Val, l.length ≤ Val.sizes l := by
    intro l
    induction l with
    | nil => simp
    | cons x xs ih => have := Val.size_pos x; rw [Val.sizes, List.length_cons]; omega
  have := this v.kids
  rw [Val.size_eq]; omega
theorem encV_len : ∀ (v : Val), v.Ok → v.size ≤ 1099511627776 → (encV v).length ≤ 27 * v.size := by
  intro v
  refine Val.rec' (p := fun v => v.Ok → v.size ≤ 1099511627776 → (encV v).length ≤ 27 * v.size) (fun v ih hok hs => ?_) v
  have hk := kids_le_size v
  have h1 := encI_len hok.kind
  have h2 := encI_len hok.n
  have h3 := encI_len (n := (v.kids.length : Int)) (by unfold InI; omega)
  have key : ∀ l : List Val, (∀ k ∈ l, k ∈ v.kids) → (encVs l).length ≤ 27 * Val.sizes l := by
    intro l
    induction l with
    | nil => intro _; simp [encVs]
    | cons x xs ihl =>
      intro hl
      have hx := hl x (List.mem_cons_self ..)
      have hxs := Val.size_kid hx
      have h4 := ih x hx (hok.kid hx) (by omega)
      have h5 := ihl fun k hk => hl k (List.mem_cons_of_mem _ hk)
      rw [encVs, Val.sizes, List.length_append]; omega
  have h6 := key v.kids fun k hk => hk
  rw [encV_eq, Val.size_eq]
  simp only [List.length_append]
  omega
def headB (v : Val) : List Nat := encI v.kind ++ encI v.n ++ encI v.kids.length
theorem encVs_take_le (l : List Val) (k : Nat) : (encVs (l.take k)).length ≤ (encVs l).length := by
  have h : encVs l = encVs (l.take k) ++ encVs (l.drop k) := by rw [← encVs_append, List.take_append_drop]
  rw [h, List.length_append]; omega
theorem encV_head (v : Val) : encV v = headB v ++ encVs v.kids := by rw [encV_eq]; rfl
theorem encB_le {v : Val} (hok : v.Ok) (hs : v.size ≤ 1099511627776) (k : Nat) : (headB v ++ encVs (v.kids.take k)).length ≤ 29686813949952 := by
  have h1 := encV_len v hok hs
  have h2 := encVs_take_le v.kids k
  rw [encV_head, List.length_append] at h1
  rw [List.length_append]
  omega
theorem flip8_digit (n : Int) (j r : Nat) : digitJ n j r < 256 := flip8_lt (Nat.mod_lt _ (by omega))
theorem encI_byte {n : Int} (h : InI n) : ∀ x ∈ encI n, x < 256 := by
  have := nd_le (m := mag n) (by have := mag_lt h; omega)
  intro x hx
  rw [encI, encP] at hx
  rcases List.mem_cons.1 hx with rfl | hx
  · exact flip8_lt (by omega)
  · obtain ⟨r, _, rfl⟩ := List.mem_map.1 hx
    exact flip8_digit _ _ _

/-! ### Reading a number -/
def flipOf (h : Nat) : Nat := if h < 128 then 255 else 0
theorem flipOf_or (h : Nat) : flipOf h = 0 ∨ flipOf h = 255 := by unfold flipOf; split <;> simp
theorem flipOf_pos {h : Nat} : (0 : Int) < (flipOf h : Int) ↔ h < 128 := by unfold flipOf; split <;> omega
/-- How many bytes stand behind the first one. -/
def kOf (h : Nat) : Nat := flip8 (flipOf h) h - 128
theorem kOf_ge {h : Nat} (hh : h < 256) : 128 ≤ flip8 (flipOf h) h := by
  unfold flip8 flipOf
  by_cases h1 : h < 128
  · rw [if_pos h1, if_neg (by omega)]; omega
  · rw [if_neg h1, if_pos rfl]; omega
theorem kOf_le {h : Nat} (hh : h < 256) : kOf h ≤ 127 := by
  have := flip8_lt (f := flipOf h) hh
  unfold kOf; omega
def wordOf (f : Nat) (l : List Nat) : Nat := l.foldl (fun m c => m * 256 + flip8 f c) 0
theorem wordOf_snoc (f : Nat) (l : List Nat) (c : Nat) : wordOf f (l ++ [c]) = wordOf f l * 256 + flip8 f c := by simp [wordOf]
theorem word_lt (f : Nat) : ∀ (l : List Nat) (acc n : Nat), (∀ c ∈ l, c < 256) → acc < 256 ^ n → l.foldl (fun m c => m * 256 + flip8 f c) acc < 256 ^ (n + l.length)
  | [], acc, n, _, h => by simpa using h
  | c :: l, acc, n, hc, h => by
    have h1 := flip8_lt (f := f) (hc c (List.mem_cons_self ..))
    have h2 := word_lt f l (acc * 256 + flip8 f c) (n + 1) (fun x hx => hc x (List.mem_cons_of_mem _ hx)) (by rw [Nat.pow_succ]; omega)
    rw [List.foldl_cons, List.length_cons, show n + (l.length + 1) = n + 1 + l.length from by omega]
    exact h2
theorem wordOf_lt (f : Nat) (l : List Nat) (h : ∀ c ∈ l, c < 256) : wordOf f l < 256 ^ l.length := by
  have := word_lt f l 0 0 h (by simp)
  simpa [wordOf] using this
def getI (b : List Nat) : Int × Int × Int := match b with
  | [] => (0, 0, 3)
  | h :: t => if 8 < kOf h then (0, 0, 2) else if t.length < kOf h then (0, 0, 3)
    else if 0 < kOf h ∧ flip8 (flipOf h) (t.headD 0) = 0 then (0, 0, 2)
    else if 9223372036854775808 ≤ wordOf (flipOf h) (t.take (kOf h)) then (0, 0, 2)
    else (if h < 128 then -1 - (wordOf (flipOf h) (t.take (kOf h)) : Int) else (wordOf (flipOf h) (t.take (kOf h)) : Int), (kOf h : Int) + 1, 0)

/-! ### Reading a value -/
/-- j numbers from a place on: those read, what was wrong, the place behind. -/
def nums (b : List Nat) : Nat → Nat → List Int → List Int × Int × Nat
  | 0, at_, acc => (acc, 0, at_)
  | j + 1, at_, acc => if (getI (b.drop at_)).2.2 ≠ 0 then (acc, (getI (b.drop at_)).2.2, at_) else nums b j (at_ + (getI (b.drop at_)).2.1.toNat) (acc ++ [(getI (b.drop at_)).1])
abbrev DR := Val × Int × Int × Nat
def decL (g : Int → Nat → DR) : Nat → Int → Nat → List Val × Int × Int × Nat
  | 0, l, a => ([], 0, l, a)
  | m + 1, l, a => if (g l a).2.1 ≠ 0 then ([], (g l a).2)
    else if (decL g m (g l a).2.2.1 (g l a).2.2.2).2.1 ≠ 0 then ([], (decL g m (g l a).2.2.1 (g l a).2.2.2).2)
    else ((g l a).1 :: (decL g m (g l a).2.2.1 (g l a).2.2.2).1, (decL g m (g l a).2.2.1 (g l a).2.2.2).2)
def dNode (k n : Int) (q : List Val × Int × Int × Nat) : DR := if q.2.1 ≠ 0 then (v0, q.2) else (.mk k n q.1, q.2)
def decN (g : Int → Nat → DR) (l : Int) (r : List Int × Int × Nat) : DR :=
  if r.2.1 ≠ 0 then (v0, r.2.1, l, r.2.2) else if r.1.getD 2 0 < 0 then (v0, 2, l, r.2.2) else dNode (r.1.getD 0 0) (r.1.getD 1 0) (decL g (r.1.getD 2 0).toNat l r.2.2)
def decF (b : List Nat) : Nat → Int → Nat → DR
  | 0, l, a => (v0, 4, l - 1, a)
  | n + 1, l, a => if l - 1 < 0 then (v0, 4, l - 1, a) else decN (decF b n) (l - 1) (nums b 3 a [])
def dJoin (dn : List Val) (q : List Val × Int × Int × Nat) : List Val × Int × Int × Nat := if q.2.1 ≠ 0 then ([], q.2) else (dn ++ q.1, q.2)
theorem decL_err (g : Int → Nat → DR) : ∀ (m : Nat) (l : Int) (a : Nat), (decL g m l a).2.1 ≠ 0 → (decL g m l a).1 = []
  | 0, l, a, h => by simp [decL] at h
  | m + 1, l, a, h => by
    rw [decL] at h ⊢
    split at h
    · rename_i h1; rw [if_pos h1]
    · rename_i h1
      rw [if_neg h1]
      split at h
      · rename_i h2; rw [if_pos h2]
      · rename_i h2; exact absurd h h2
theorem dJoin_nil (g : Int → Nat → DR) (m : Nat) (l : Int) (a : Nat) : decL g m l a = dJoin [] (decL g m l a) := by
  unfold dJoin
  split
  · rename_i h; rw [← decL_err g m l a h]
  · simp
theorem dJoin_err {g : Int → Nat → DR} {N k : Nat} {l lk : Int} {a ak : Nat} {dn : List Val} (hk : k < N) (h : decL g N l a = dJoin dn (decL g (N - k) lk ak)) (he : (g lk ak).2.1 ≠ 0) : decL g N l a = ([], (g lk ak).2) := by
  obtain ⟨m, hm⟩ : ∃ m, N - k = m + 1 := ⟨N - k - 1, by omega⟩
  rw [h, hm, decL, if_pos he, dJoin, if_pos he]
theorem dJoin_step {g : Int → Nat → DR} {N k : Nat} {l lk : Int} {a ak : Nat} {dn : List Val} (hk : k < N) (h : decL g N l a = dJoin dn (decL g (N - k) lk ak)) (he : ¬ (g lk ak).2.1 ≠ 0) :
    decL g N l a = dJoin (dn ++ [(g lk ak).1]) (decL g (N - (k + 1)) (g lk ak).2.2.1 (g lk ak).2.2.2) := by
  obtain ⟨m, hm⟩ : ∃ m, N - k = m + 1 := ⟨N - k - 1, by omega⟩
  have hm2 : N - (k + 1) = m := by omega
  rw [h, hm, hm2, decL, if_neg he]
  generalize decL g m (g lk ak).2.2.1 (g lk ak).2.2.2 = r
  unfold dJoin
  by_cases h3 : r.2.1 = 0 <;> simp [h3]
theorem dJoin_end {g : Int → Nat → DR} {N k : Nat} {l lk : Int} {a ak : Nat} {dn : List Val} (hk : N ≤ k) (h : decL g N l a = dJoin dn (decL g (N - k) lk ak)) : decL g N l a = (dn, 0, lk, ak) := by
  rw [h, show N - k = 0 from by omega, decL, dJoin]; simp
/-- What is read lies within. -/
theorem getI_size {b : List Nat} (h : (getI b).2.2 = 0) : 1 ≤ (getI b).2.1 ∧ (getI b).2.1 ≤ b.length := by
  cases b with
  | nil => simp [getI] at h
  | cons x t =>
    rw [getI] at h ⊢
    split at h
    · simp at h
    · rename_i h1
      rw [if_neg h1]
      split at h
      · simp at h
      · rename_i h2
        rw [if_neg h2]
        split at h
        · simp at h
        · rename_i h3
          rw [if_neg h3]
          split at h
          · simp at h
          · rename_i h4
            rw [if_neg h4]
            simp only [List.length_cons]
            omega
theorem nums_at (b : List Nat) : ∀ (j a : Nat) (acc : List Int), a ≤ b.length → (nums b j a acc).2.2 ≤ b.length
  | 0, a, acc, h => h
  | j + 1, a, acc, h => by
    rw [nums]
    split
    · exact h
    · rename_i h1
      have := getI_size (Decidable.not_not.1 h1)
      rw [List.length_drop] at this
      exact nums_at b j _ _ (by omega)
theorem nums_len (b : List Nat) : ∀ (j a : Nat) (acc : List Int), (nums b j a acc).2.1 = 0 → (nums b j a acc).1.length = acc.length + j
  | 0, a, acc, _ => rfl
  | j + 1, a, acc, h => by
    rw [nums] at h ⊢
    split at h
    · rename_i h1; exact absurd h h1
    · rename_i h1
      rw [if_neg h1, nums_len b j _ _ h]
      simp; omega
theorem decF_left (b : List Nat) : ∀ (n : Nat) (l : Int) (a : Nat), a ≤ b.length → (decF b n l a).2.2.2 ≤ b.length ∧ ((decF b n l a).2.1 = 0 → 0 ≤ (decF b n l a).2.2.1 ∧ (decF b n l a).2.2.1 ≤ l - 1)
  | 0, l, a, h => ⟨h, fun h => by simp [decF] at h⟩
  | n + 1, l, a, h => by
    have key : ∀ (m : Nat) (l0 : Int) (a0 : Nat), 0 ≤ l0 → a0 ≤ b.length → (decL (decF b n) m l0 a0).2.2.2 ≤ b.length ∧ ((decL (decF b n) m l0 a0).2.1 = 0 → 0 ≤ (decL (decF b n) m l0 a0).2.2.1 ∧ (decL (decF b n) m l0 a0).2.2.1 ≤ l0) := by
      intro m
      induction m with
      | zero => intro l0 a0 h0 ha; exact ⟨ha, fun _ => ⟨h0, Int.le_refl _⟩⟩
      | succ m ih =>
        intro l0 a0 h0 ha
        have h2 := decF_left b n l0 a0 ha
        rw [decL]
        split
        · rename_i h1; exact ⟨h2.1, fun h => absurd h h1⟩
        · rename_i h1
          have h3 := h2.2 (Decidable.not_not.1 h1)
          have h4 := ih _ _ h3.1 h2.1
          split
          · rename_i h5; exact ⟨h4.1, fun h => absurd h h5⟩
          · exact ⟨h4.1, fun h => by have := h4.2 h; simp only at this ⊢; omega⟩
    rw [decF]
    split
    · exact ⟨h, fun h => by simp at h⟩
    · rename_i h1
      have ha := nums_at b 3 a [] h
      unfold decN
      split
      · rename_i h2; exact ⟨ha, fun h => absurd h h2⟩
      · split
        · exact ⟨ha, fun h => by simp at h⟩
        · have h3 := key ((nums b 3 a []).1.getD 2 0).toNat (l - 1) _ (by omega) ha
          unfold dNode
          split
          · rename_i h4; exact ⟨h3.1, fun h => absurd h h4⟩
          · exact h3
def decV (b : List Nat) : Val × Int × Int := if (decF b 24 256 0).2.1 ≠ 0 then (v0, 0, (decF b 24 256 0).2.1) else ((decF b 24 256 0).1, ((decF b 24 256 0).2.2.2 : Int), 0)
theorem nums_err {b : List Nat} {a i ai : Nat} {acc : List Int} (hi : i < 3) (h : nums b 3 a [] = nums b (3 - i) ai acc) (he : (getI (b.drop ai)).2.2 ≠ 0) : nums b 3 a [] = (acc, (getI (b.drop ai)).2.2, ai) := by
  obtain ⟨j, hj⟩ : ∃ j, 3 - i = j + 1 := ⟨2 - i, by omega⟩
  rw [h, hj, nums, if_pos he]
theorem nums_step {b : List Nat} {a i ai : Nat} {acc : List Int} (hi : i < 3) (h : nums b 3 a [] = nums b (3 - i) ai acc) (he : ¬ (getI (b.drop ai)).2.2 ≠ 0) : nums b 3 a [] = nums b (3 - (i + 1)) (ai + (getI (b.drop ai)).2.1.toNat) (acc ++ [(getI (b.drop ai)).1]) := by
  obtain ⟨j, hj⟩ : ∃ j, 3 - i = j + 1 := ⟨2 - i, by omega⟩
  rw [h, hj, show 3 - (i + 1) = j from by omega, nums, if_neg he]
theorem nums_end {b : List Nat} {a i ai : Nat} {acc : List Int} (hi : 3 ≤ i) (h : nums b 3 a [] = nums b (3 - i) ai acc) : nums b 3 a [] = (acc, 0, ai) := by
  rw [h, show 3 - i = 0 from by omega, nums]
def pad3 (acc : List Int) : List Int := acc ++ List.replicate (3 - acc.length) 0
theorem pad3_len {acc : List Int} (h : acc.length ≤ 3) : (pad3 acc).length = 3 := by simp [pad3]; omega
theorem pad3_set {acc : List Int} {z : Int} (h : acc.length < 3) : (pad3 acc).set acc.length z = pad3 (acc ++ [z]) := by
  rw [pad3, pad3, List.set_append_right _ _ (Nat.le_refl _), Nat.sub_self, List.append_assoc]
  congr 1
  have : 3 - acc.length = (3 - (acc ++ [z]).length) + 1 := by simp; omega
  rw [this, List.replicate_succ]; rfl
theorem pad3_full {acc : List Int} (h : acc.length = 3) : pad3 acc = acc := by simp [pad3, h]
theorem getD3 {acc : List Int} (h : acc.length = 3) (j : Nat) (hj : j < 3) : acc[j]? = some (acc.getD j 0) := by
  rw [List.getElem?_eq_getElem (by omega), List.getD_eq_getElem?_getD, List.getElem?_eq_getElem (by omega)]; rfl
theorem pad3_store {acc : List Int} {i : Nat} {z : Int} (h : acc.length = i) (hi : i < 3) : (ints (pad3 acc)).set (0 + i * 1) (vint z) = ints (pad3 (acc ++ [z])) := by
  rw [show 0 + i * 1 = acc.length from by omega, ← pad3_set (by omega)]
  simp [ints, List.map_set]
theorem pad3_idx {acc : List Int} {i : Nat} (h : acc.length = i) (hi : i < 3) : 0 + i * 1 < (ints (pad3 acc)).length := by
  have := pad3_len (acc := acc) (by omega)
  simp only [ints, List.length_map]; omega
theorem Rd.dropB {M : Mem} {b : List Nat} {a : Option Addr} {c : Nat} (h : Rd M (dbytes b) (.slice a b.length c)) (k : Nat) (hk : k ≤ b.length) : Rd M (dbytes (b.drop k)) (cutV a k b.length c 1) := by
  have hc : b.length ≤ c := by obtain ⟨a', c', h1, h2, _⟩ := h.slice; simp only [Value.slice.injEq] at h1; omega
  have := Rd.cut h k b.length c hk hc (Nat.le_refl _) (Nat.le_refl _)
  rw [dbytes, List.length_drop, List.map_drop]
  rw [Nat.mul_one, Nat.mul_one, List.take_of_length_le (by simp)] at this
  exact this
end Xe

/- THE PLAIN FUNCTIONS of the generator of programs and values. No program in sight. -/
namespace Xe
open Go
def vnum (n : Int) : Val := .mk 0 n []
def idK (n : Int) : IdT := ⟨0, 1 + n.tdiv 32, n.tmod 32⟩
def ofT (i : IdT) : Ty := .mk 3 i []
def listT (t : Ty) : Ty := .mk 2 id0 [t]
/-- A type made of a number. -/
def pickTy (n : Int) (defs : Int) : Ty :=
  if around n (4 + 2 * defs) = 1 then .mk 1 id0 []
  else if around n (4 + 2 * defs) = 2 then listT ty0
  else if 4 ≤ around n (4 + 2 * defs) then
    (if around (n.tdiv 64) 5 = 1 then listT (ofT (idK (1 + (around n (4 + 2 * defs) - 4).tdiv 2))) else ofT (idK (1 + (around n (4 + 2 * defs) - 4).tdiv 2)))
  else ty0
theorem tdiv_InI {z : Int} (h : InI z) (m : Int) (hm : 1 ≤ m) : InI (z.tdiv m) := by
  unfold InI at h ⊢
  by_cases h0 : 0 ≤ z
  · rw [Int.tdiv_eq_ediv_of_nonneg h0]
    have h1 := Int.ediv_nonneg h0 (show 0 ≤ m by omega)
    have h2 := Int.ediv_le_self m h0
    omega
  · have e : z.tdiv m = -((-z) / m) := by
      rw [← Int.tdiv_eq_ediv_of_nonneg (by omega), Int.neg_tdiv]; omega
    have h1 := Int.ediv_nonneg (show 0 ≤ -z by omega) (show 0 ≤ m by omega)
    have h2 := Int.ediv_le_self m (show 0 ≤ -z by omega)
    rw [e]; omega
end Xe

/- THE SMALL EXAMPLE: a program of two types. No program in sight. -/
namespace Xe
open Go
abbrev sX : ByteArray := ⟨#[120]⟩
abbrev sY : ByteArray := ⟨#[121]⟩
abbrev sZ : ByteArray := ⟨#[122]⟩
abbrev sDot : ByteArray := ⟨#[68, 111, 116]⟩
abbrev sBox : ByteArray := ⟨#[66, 111, 120]⟩
abbrev sPoint : ByteArray := ⟨#[80, 111, 105, 110, 116]⟩
abbrev sShape : ByteArray := ⟨#[83, 104, 97, 112, 101]⟩
abbrev sState : ByteArray := ⟨#[83, 116, 97, 116, 101]⟩
abbrev sEvent : ByteArray := ⟨#[69, 118, 101, 110, 116]⟩
def slX : SlotT := ⟨⟨0, 1, 3⟩, sX, ty0, 0, 0⟩
def slY : SlotT := ⟨⟨0, 1, 4⟩, sY, ty0, 0, 0⟩
def slDot : SlotT := ⟨⟨0, 1, 5⟩, sDot, ty0, 0, 0⟩
def slBox : SlotT := ⟨⟨0, 1, 6⟩, sBox, .mk 3 ⟨0, 1, 1⟩ [], 0, 0⟩
def dPoint : DefT := ⟨⟨0, 1, 1⟩, 0, id0, sPoint, [slX, slY], ty0, ex0, 0, []⟩
def dShape : DefT := ⟨⟨0, 1, 2⟩, 1, id0, sShape, [slDot, slBox], ty0, ex0, 0, []⟩
def exP : ProgT := ⟨[], [dPoint, dShape]⟩
/-- The cells of a slot whose type has no kids; of a definition with neither body nor result. -/
def SlotT.vs (s : SlotT) : List Value := [vint s.id.shop, vint s.id.seq, vint s.id.index, .string s.name, vint s.ty.kind, vint s.ty.df.shop, vint s.ty.df.seq, vint s.ty.df.index, .slice none 0 0, vint s.most, vint s.place]
theorem SlotT.vs_rd {M : Mem} (s : SlotT) (h : s.ty.kids = []) : RdL M s.enc s.vs := by
  rw [SlotT.enc, h]
  exact (by repeat (first | exact RdL.nil _ | refine RdL.cons (by first | exact Rd.i _ | exact Rd.nilS | exact Rd.str _ | assumption) ?_))
def dvs (id : IdT) (kind : Int) (mod : IdT) (name : ByteArray) (u : Value) : List Value := [vint id.shop, vint id.seq, vint id.index, vint kind, vint mod.shop, vint mod.seq, vint mod.index, .string name, u,
  vint 0, vint 0, vint 0, vint 0, .slice none 0 0,
  vint 0, vint 0, vint 0, vint 0, vint 0, vint 0, vint 0, vint 0, vint 0, vint 0, vint 0, vint 0, .slice none 0 0, .slice none 0 0, .slice none 0 0, vint 0, .slice none 0 0]
theorem dvs_rd {M : Mem} (id : IdT) (kind : Int) (mod : IdT) (name : ByteArray) (sl : List SlotT) (u : Value) (h : Rd M (.sl sl.length 11 (sl.flatMap SlotT.enc)) u) : RdL M (DefT.enc ⟨id, kind, mod, name, sl, ty0, ex0, 0, []⟩) (dvs id kind mod name u) := by
  rw [DefT.enc]
  exact (by repeat (first | exact RdL.nil _ | refine RdL.cons (by first | exact Rd.i _ | exact Rd.nilS | exact Rd.str _ | exact h) ?_))
end Xe

/- DEFINITIONS OPENED; the small program of a program. No program in sight. -/
namespace Xe
open Go
theorem RdL.uncons {M : Mem} {e : D} {ds : List D} {us : List Value} (h : RdL M (e :: ds) us) : ∃ u us', us = u :: us' ∧ Rd M e u ∧ RdL M ds us' := by
  match us, h with
  | [], h => exact absurd h.1 (by simp)
  | u :: us', h => exact ⟨u, us', rfl, h.2 0 e u rfl rfl, by have := h.1; simpa using this, fun k d v h1 h2 => h.2 (k + 1) d v (by simpa using h1) (by simpa using h2)⟩
theorem RdL.unnil {M : Mem} {us : List Value} (h : RdL M [] us) : us = [] := List.eq_nil_of_length_eq_zero (by simpa using h.1)
theorem Rd.int_eq {M : Mem} {n : Int} {u : Value} (h : Rd M (dint n) u) : u = vint n := by simp only [Rd] at h; exact h.1
theorem Rd.str_eq {M : Mem} {s : ByteArray} {u : Value} (h : Rd M (dstr s) u) : u = .string s := by simp only [dstr, Rd] at h; exact h.1
def DefT.vs (d : DefT) (u8 u13 u26 u27 u28 u30 : Value) : List Value := [vint d.id.shop, vint d.id.seq, vint d.id.index, vint d.kind, vint d.mod.shop, vint d.mod.seq, vint d.mod.index, .string d.name, u8, vint d.result.kind, vint d.result.df.shop, vint d.result.df.seq, vint d.result.df.index, u13, vint d.body.id.shop, vint d.body.id.seq, vint d.body.id.index, vint d.body.kind, vint d.body.n, vint d.body.ref.shop, vint d.body.ref.seq, vint d.body.ref.index, vint d.body.ty.kind, vint d.body.ty.df.shop, vint d.body.ty.df.seq, vint d.body.ty.df.index, u26, u27, u28, vint d.place, u30]
theorem DefT.open {M : Mem} {d : DefT} {us : List Value} (h : RdL M d.enc us) : ∃ u8 u13 u26 u27 u28 u30, us = d.vs u8 u13 u26 u27 u28 u30 ∧ Rd M (.sl d.slots.length 11 (d.slots.flatMap SlotT.enc)) u8 ∧ Rd M (.sl d.result.kids.length 5 (d.result.kids.flatMap Ty.enc)) u13 ∧ Rd M (.sl d.body.ty.kids.length 5 (d.body.ty.kids.flatMap Ty.enc)) u26 ∧ Rd M (.sl d.body.kids.length 15 (d.body.kids.flatMap Ex.enc)) u27 ∧ Rd M (.sl d.body.names.length 1 (d.body.names.map dstr)) u28 ∧ Rd M (.sl d.layout.length 1 (d.layout.map dstr)) u30 := by
  rw [DefT.enc] at h
  obtain ⟨v0, t0, rfl, r0, h⟩ := h.uncons
  obtain ⟨v1, t1, rfl, r1, h⟩ := h.uncons
  obtain ⟨v2, t2, rfl, r2, h⟩ := h.uncons
  obtain ⟨v3, t3, rfl, r3, h⟩ := h.uncons
  obtain ⟨v4, t4, rfl, r4, h⟩ := h.uncons
  obtain ⟨v5, t5, rfl, r5, h⟩ := h.uncons
  obtain ⟨v6, t6, rfl, r6, h⟩ := h.uncons
  obtain ⟨v7, t7, rfl, r7, h⟩ := h.uncons
  obtain ⟨v8, t8, rfl, r8, h⟩ := h.uncons
  obtain ⟨v9, t9, rfl, r9, h⟩ := h.uncons
  obtain ⟨v10, t10, rfl, r10, h⟩ := h.uncons
  obtain ⟨v11, t11, rfl, r11, h⟩ := h.uncons
  obtain ⟨v12, t12, rfl, r12, h⟩ := h.uncons
  obtain ⟨v13, t13, rfl, r13, h⟩ := h.uncons
  obtain ⟨v14, t14, rfl, r14, h⟩ := h.uncons
  obtain ⟨v15, t15, rfl, r15, h⟩ := h.uncons
  obtain ⟨v16, t16, rfl, r16, h⟩ := h.uncons
  obtain ⟨v17, t17, rfl, r17, h⟩ := h.uncons
  obtain ⟨v18, t18, rfl, r18, h⟩ := h.uncons
  obtain ⟨v19, t19, rfl, r19, h⟩ := h.uncons
  obtain ⟨v20, t20, rfl, r20, h⟩ := h.uncons
  obtain ⟨v21, t21, rfl, r21, h⟩ := h.uncons
  obtain ⟨v22, t22, rfl, r22, h⟩ := h.uncons
  obtain ⟨v23, t23, rfl, r23, h⟩ := h.uncons
  obtain ⟨v24, t24, rfl, r24, h⟩ := h.uncons
  obtain ⟨v25, t25, rfl, r25, h⟩ := h.uncons
  obtain ⟨v26, t26, rfl, r26, h⟩ := h.uncons
  obtain ⟨v27, t27, rfl, r27, h⟩ := h.uncons
  obtain ⟨v28, t28, rfl, r28, h⟩ := h.uncons
  obtain ⟨v29, t29, rfl, r29, h⟩ := h.uncons
  obtain ⟨v30, t30, rfl, r30, h⟩ := h.uncons
  obtain rfl := h.unnil
  obtain rfl := r0.int_eq
  obtain rfl := r1.int_eq
  obtain rfl := r2.int_eq
  obtain rfl := r3.int_eq
  obtain rfl := r4.int_eq
  obtain rfl := r5.int_eq
  obtain rfl := r6.int_eq
  obtain rfl := r7.str_eq
  obtain rfl := r9.int_eq
  obtain rfl := r10.int_eq
  obtain rfl := r11.int_eq
  obtain rfl := r12.int_eq
  obtain rfl := r14.int_eq
  obtain rfl := r15.int_eq
  obtain rfl := r16.int_eq
  obtain rfl := r17.int_eq
  obtain rfl := r18.int_eq
  obtain rfl := r19.int_eq
  obtain rfl := r20.int_eq
  obtain rfl := r21.int_eq
  obtain rfl := r22.int_eq
  obtain rfl := r23.int_eq
  obtain rfl := r24.int_eq
  obtain rfl := r25.int_eq
  obtain rfl := r29.int_eq
  exact ⟨v8, v13, v26, v27, v28, v30, rfl, r8, r13, r26, r27, r28, r30⟩
theorem DefT.close {M : Mem} (d : DefT) {u8 u13 u26 u27 u28 u30 : Value} (h8 : Rd M (.sl d.slots.length 11 (d.slots.flatMap SlotT.enc)) u8) (h13 : Rd M (.sl d.result.kids.length 5 (d.result.kids.flatMap Ty.enc)) u13) (h26 : Rd M (.sl d.body.ty.kids.length 5 (d.body.ty.kids.flatMap Ty.enc)) u26) (h27 : Rd M (.sl d.body.kids.length 15 (d.body.kids.flatMap Ex.enc)) u27) (h28 : Rd M (.sl d.body.names.length 1 (d.body.names.map dstr)) u28) (h30 : Rd M (.sl d.layout.length 1 (d.layout.map dstr)) u30) : RdL M d.enc (d.vs u8 u13 u26 u27 u28 u30) := by
  rw [DefT.enc, DefT.vs]
  exact (by repeat (first | exact RdL.nil _ | refine RdL.cons (by first | exact Rd.i _ | exact Rd.str _ | assumption) ?_))
def fewD (d : DefT) : DefT := { d with slots := d.slots.take 4 }
def fewP (p : ProgT) : ProgT := ⟨[], (p.defs.take 6).map fewD⟩
theorem fewD_enc_at {p : ProgT} {k : Nat} (hk : k < p.defs.length) : ((p.defs.take (k + 1)).map fewD).flatMap DefT.enc = ((p.defs.take k).map fewD).flatMap DefT.enc ++ (fewD p.defs[k]).enc := by
  rw [List.take_succ_eq_append_getElem hk, List.map_append, List.flatMap_append]; simp
end Xe

/- THE PROGRAM OF TYPES MADE OF NUMBERS. No program in sight. -/
namespace Xe
open Go
abbrev sCore : ByteArray := ⟨#[99, 111, 114, 101]⟩
def tMany (l : List Int) : Nat := (1 + atL l 0 4).toNat
def tBits (l : List Int) (i : Nat) : Int := atL l (1 + (i : Int)) 65536
def tArity (l : List Int) (i : Nat) : Nat := (1 + ((tBits l i).tdiv 2).tmod 3).toNat
def tNext (l : List Int) : Nat → Int
  | 0 => 1 + (tMany l : Int)
  | i + 1 => tNext l i + tArity l i
def nm3 : Nat → ByteArray
  | 0 => sX
  | 1 => sY
  | _ => sZ
def nm4 : Nat → ByteArray
  | 0 => sPoint
  | 1 => sShape
  | 2 => sState
  | _ => sEvent
def tSlot (l : List Int) (i j : Nat) : SlotT := ⟨idK (tNext l i + j), nm3 j, pickTy (atL l (5 + 3 * (i : Int) + (j : Int)) 65536) i, 0, 0⟩
def tSlots (l : List Int) (i k : Nat) : List SlotT := (List.range k).map (tSlot l i)
def tDef (l : List Int) (i : Nat) : DefT := ⟨idK (1 + (i : Int)), (tBits l i).tmod 2, idK 0, nm4 i, tSlots l i (tArity l i), ty0, ex0, 0, []⟩
def tDefs (l : List Int) (k : Nat) : List DefT := (List.range k).map (tDef l)
def tIds (k : Nat) : List IdT := (List.range k).map fun i : Nat => idK (1 + (i : Int))
def typesP (l : List Int) : ProgT := ⟨[⟨idK 0, sCore, [], tIds (tMany l)⟩], tDefs l (tMany l)⟩
theorem atL_rng (l : List Int) (i m : Int) (hm : 1 ≤ m) : 0 ≤ atL l i m ∧ atL l i m < m := by
  unfold atL
  split
  · omega
  · exact around_lt _ _ hm
theorem tMany_cast (l : List Int) : (tMany l : Int) = 1 + atL l 0 4 := by have := atL_rng l 0 4 (by omega); unfold tMany; omega
theorem tMany_rng (l : List Int) : 1 ≤ tMany l ∧ tMany l ≤ 4 := by have := atL_rng l 0 4 (by omega); unfold tMany; omega
theorem tBits_rng (l : List Int) (i : Nat) : 0 ≤ tBits l i ∧ tBits l i < 65536 := atL_rng l _ _ (by omega)
theorem tBits_div (l : List Int) (i : Nat) : (tBits l i).tdiv 2 = tBits l i / 2 := Int.tdiv_eq_ediv_of_nonneg (tBits_rng l i).1
theorem tBits_mod (l : List Int) (i : Nat) : ((tBits l i).tdiv 2).tmod 3 = tBits l i / 2 % 3 := by rw [tBits_div, Int.tmod_eq_emod_of_nonneg (by have := tBits_rng l i; omega)]
theorem tKind_mod (l : List Int) (i : Nat) : (tBits l i).tmod 2 = tBits l i % 2 := Int.tmod_eq_emod_of_nonneg (tBits_rng l i).1
theorem tArity_cast (l : List Int) (i : Nat) : (tArity l i : Int) = 1 + ((tBits l i).tdiv 2).tmod 3 := by have := tBits_mod l i; unfold tArity; omega
theorem tArity_rng (l : List Int) (i : Nat) : 1 ≤ tArity l i ∧ tArity l i ≤ 3 := by have := tBits_mod l i; unfold tArity; omega
theorem tNext_rng (l : List Int) : ∀ i : Nat, 2 ≤ tNext l i ∧ tNext l i ≤ 5 + 3 * (i : Int)
  | 0 => by have := tMany_rng l; rw [tNext]; omega
  | i + 1 => by have := tNext_rng l i; have := tArity_rng l i; rw [tNext]; omega
theorem tSlots_succ (l : List Int) (i j : Nat) : (tSlots l i (j + 1)).flatMap SlotT.enc = (tSlots l i j).flatMap SlotT.enc ++ (tSlot l i j).enc := by
  simp [tSlots, List.range_succ]
theorem tDefs_succ (l : List Int) (j : Nat) : (tDefs l (j + 1)).flatMap DefT.enc = (tDefs l j).flatMap DefT.enc ++ (tDef l j).enc := by
  simp [tDefs, List.range_succ]
theorem tIds_succ (j : Nat) : (tIds (j + 1)).flatMap IdT.enc = (tIds j).flatMap IdT.enc ++ (idK (1 + (j : Int))).enc := by
  simp [tIds, List.range_succ]
theorem tSlots_len (l : List Int) (i k : Nat) : (tSlots l i k).length = k := by simp [tSlots]
theorem tDefs_len (l : List Int) (k : Nat) : (tDefs l k).length = k := by simp [tDefs]
theorem tIds_len (k : Nat) : (tIds k).length = k := by simp [tIds]
theorem nm3_at {j : Nat} (h : j < 3) : [Value.string sX, .string sY, .string sZ][j * 1]? = some (.string (nm3 j)) := by
  match j, h with
  | 0, _ | 1, _ | 2, _ => rfl
theorem nm4_at {j : Nat} (h : j < 4) : [Value.string sPoint, .string sShape, .string sState, .string sEvent][j * 1]? = some (.string (nm4 j)) := by
  match j, h with
  | 0, _ | 1, _ | 2, _ | 3, _ => rfl
theorem Ty.open {M : Mem} {t : Ty} {us : List Value} (h : RdL M t.enc us) : ∃ u, us = [vint t.kind, vint t.df.shop, vint t.df.seq, vint t.df.index, u] ∧ Rd M (.sl t.kids.length 5 (t.kids.flatMap Ty.enc)) u := by
  rw [Ty.enc_eq] at h
  obtain ⟨v0, t0, rfl, r0, h⟩ := h.uncons
  obtain ⟨v1, t1, rfl, r1, h⟩ := h.uncons
  obtain ⟨v2, t2, rfl, r2, h⟩ := h.uncons
  obtain ⟨v3, t3, rfl, r3, h⟩ := h.uncons
  obtain ⟨v4, t4, rfl, r4, h⟩ := h.uncons
  obtain rfl := h.unnil
  obtain rfl := r0.int_eq
  obtain rfl := r1.int_eq
  obtain rfl := r2.int_eq
  obtain rfl := r3.int_eq
  exact ⟨v4, rfl, r4⟩
def SlotT.vu (s : SlotT) (u : Value) : List Value := [vint s.id.shop, vint s.id.seq, vint s.id.index, .string s.name, vint s.ty.kind, vint s.ty.df.shop, vint s.ty.df.seq, vint s.ty.df.index, u, vint s.most, vint s.place]
theorem SlotT.close {M : Mem} (s : SlotT) {u : Value} (h : Rd M (.sl s.ty.kids.length 5 (s.ty.kids.flatMap Ty.enc)) u) : RdL M s.enc (s.vu u) := by
  rw [SlotT.enc, SlotT.vu]
  exact (by repeat (first | exact RdL.nil _ | refine RdL.cons (by first | exact Rd.i _ | exact Rd.str _ | assumption) ?_))
theorem IdT.vals_rd {M : Mem} (i : IdT) : RdL M i.enc i.vals := RdL.cons (Rd.i _) (RdL.cons (Rd.i _) (RdL.cons (Rd.i _) (RdL.nil _)))
end Xe

/- WHAT THE SMALL EXAMPLE MEANS. No program in sight. -/
namespace Xe
open Go
def tyA : Ty := ofT (idK 1)
def tyB : Ty := ofT (idK 2)
def tyC : Ty := ofT (idK 3)
def valP : Val := .mk 2 0 [vnum 1, vnum (-2)]
def valA : Val := .mk 3 1 [valP]
def valB : Val := .mk 3 1 [vnum 1]
def valC : Val := .mk 4 0 [vnum 3, vnum 0]
def valD : Val := .mk 4 0 [vnum 9]
def valE : Val := .mk 4 0 [vnum 1, vnum 1]
def valF : Val := .mk 2 0 [vnum 0, vnum 0]
def valG : Val := .mk 4 0 [vnum 5]
def valH : Val := .mk 3 0 [vnum 0]
def valI : Val := .mk 1 1 []
abbrev codeG : List Nat := [129, 4, 128, 129, 1, 128, 129, 5, 128]
theorem zA1 : (zeroV exP tyA).1 = valF := by kernel_rfl
theorem zA2 : (zeroV exP tyA).2.1 = 0 := by kernel_rfl
theorem zB1 : (zeroV exP tyB).1 = valH := by kernel_rfl
theorem zB2 : (zeroV exP tyB).2.1 = 0 := by kernel_rfl
theorem dG1 : (decV codeG).1 = valG := by kernel_rfl
theorem dG2 : (decV codeG).2.1 = 9 := by kernel_rfl
theorem dG3 : (decV codeG).2.2 = 0 := by kernel_rfl
theorem dB1 : theDef exP (idK 2) = dShape := by kernel_rfl
theorem dB2 : decide (hasDef exP (idK 2)) = true := by kernel_rfl
theorem vB : decide (validT exP tyB) = true := by kernel_rfl
theorem vC : decide (validT exP tyC) = false := by kernel_rfl
theorem sBB : decide (tyB = tyB) = true := by simp
theorem sBA : decide (tyB = tyA) = false := by simp [tyA, tyB, ofT, idK]
theorem c1 : cmpV (vnum 2) valI = -1 := by kernel_rfl
theorem c2 : cmpV valD valE = -1 := by kernel_rfl
theorem c3 : cmpV valE valD = 1 := by kernel_rfl
theorem eA : decide (cmpV valF valF = 0) = true := by kernel_rfl
theorem eB : decide (cmpV valH valH = 0) = true := by kernel_rfl
theorem wA : decide (validV exP tyB valA) = true := by kernel_rfl
theorem wB : decide (validV exP tyB valB) = false := by kernel_rfl
theorem sA : valA.size = 4 := by kernel_rfl
theorem encI_0 : encI 0 = [128] := by rw [encI, show nd (mag 0) = 0 from nd_eq (by decide) (by decide)]; rfl
theorem encI_1 : encI 1 = [129, 1] := by rw [encI, show nd (mag 1) = 1 from nd_eq (by decide) (by decide)]; rfl
theorem encI_4 : encI 4 = [129, 4] := by rw [encI, show nd (mag 4) = 1 from nd_eq (by decide) (by decide)]; rfl
theorem encI_5 : encI 5 = [129, 5] := by rw [encI, show nd (mag 5) = 1 from nd_eq (by decide) (by decide)]; rfl
theorem encG : encV valG = codeG := by
  simp only [valG, vnum, encV, encVs, List.length_cons, List.length_nil]
  simp [encI_0, encI_1, encI_4, encI_5]

/-! ### The cells of the examples -/
abbrev nvs (n : Int) : List Value := [vint 0, vint n, .slice none 0 0]
theorem leaf_rd {M : Mem} (k n : Int) : RdL M (Val.mk k n []).enc [vint k, vint n, .slice none 0 0] := by
  rw [Val.enc_eq]
  exact RdL.cons (Rd.i _) (RdL.cons (Rd.i _) (RdL.cons Rd.nilS (RdL.nil _)))
theorem node_rd {M : Mem} (k n : Int) (l : List Val) {u : Value} (h : Rd M (.sl l.length 3 (l.flatMap Val.enc)) u) : RdL M (Val.mk k n l).enc [vint k, vint n, u] := by
  rw [Val.enc_eq]
  exact RdL.cons (Rd.i _) (RdL.cons (Rd.i _) (RdL.cons h (RdL.nil _)))
theorem kids1 {M : Mem} {v : Val} {us : List Value} (h : RdL M v.enc us) : RdL M ([v].flatMap Val.enc) us := by simpa using h
theorem kids2 {M : Mem} {v w : Val} {us xs : List Value} (h : RdL M v.enc us) (k : RdL M w.enc xs) : RdL M ([v, w].flatMap Val.enc) (us ++ xs) := by simpa using h.append k
theorem ty_rd {M : Mem} (i : IdT) : RdL M (ofT i).enc [vint 3, vint i.shop, vint i.seq, vint i.index, .slice none 0 0] := by
  rw [Ty.enc_eq]
  exact RdL.cons (Rd.i _) (RdL.cons (Rd.i _) (RdL.cons (Rd.i _) (RdL.cons (Rd.i _) (RdL.cons Rd.nilS (RdL.nil _)))))
theorem InI_small {n : Int} (h : -1000 ≤ n ∧ n ≤ 1000) : InI n := by unfold InI; omega
theorem okN (n : Int) (h : -1000 ≤ n ∧ n ≤ 1000) : (vnum n).Ok := .mk (InI_small (show -1000 ≤ (0 : Int) ∧ (0 : Int) ≤ 1000 by decide)) (InI_small h) (by simp [vnum, Val.kids])
theorem okP : valP.Ok := .mk (InI_small (by decide)) (InI_small (by decide)) (by
  intro k hk
  simp only [valP, Val.kids, List.mem_cons, List.not_mem_nil, or_false] at hk
  rcases hk with rfl | rfl <;> exact okN _ (by decide))
theorem okA : valA.Ok := .mk (InI_small (by decide)) (InI_small (by decide)) (by
  intro k hk
  simp only [valA, Val.kids, List.mem_cons, List.not_mem_nil, or_false] at hk
  rcases hk with rfl
  exact okP)
theorem okC : valC.Ok := .mk (InI_small (by decide)) (InI_small (by decide)) (by
  intro k hk
  simp only [valC, Val.kids, List.mem_cons, List.not_mem_nil, or_false] at hk
  rcases hk with rfl | rfl <;> exact okN _ (by decide))
theorem okG : valG.Ok := .mk (InI_small (by decide)) (InI_small (by decide)) (by
  intro k hk
  simp only [valG, Val.kids, List.mem_cons, List.not_mem_nil, or_false] at hk
  rcases hk with rfl
  exact okN _ (by decide))
theorem wtA : w64 valA.wt = 4 := by kernel_rfl
theorem wtC : w64 valC.wt = 5 := by kernel_rfl
theorem szA : w64 (valA.size : Nat) = 4 := by kernel_rfl
theorem fill9s {v0 v1 v2 v3 v4 v5 v6 v7 v8 : Value} (h0 : cellsL v0 = [v0]) (h1 : cellsL v1 = [v1]) (h2 : cellsL v2 = [v2]) (h3 : cellsL v3 = [v3]) (h4 : cellsL v4 = [v4]) (h5 : cellsL v5 = [v5]) (h6 : cellsL v6 = [v6]) (h7 : cellsL v7 = [v7]) (h8 : cellsL v8 = [v8]) :
    ∀ zs : List Value, zs.length = 9 * 1 → fillL (fun i => some (i * 1, 1)) zs ([(0, v0), (1, v1), (2, v2), (3, v3), (4, v4), (5, v5), (6, v6), (7, v7), (8, v8)].map fun p => (p.1, cellsL p.2)) = some [v0, v1, v2, v3, v4, v5, v6, v7, v8] := fun zs hz => by
  match zs, hz with
  | [a, b, c, d, e, f, g, h, i], _ => simp [fillL, splice, h0, h1, h2, h3, h4, h5, h6, h7, h8]
end Xe

/- TYPES PUT INTO A ROW; the first definition of the made program. No program in sight. -/
namespace Xe
open Go
def nest : Nat → Ty
  | 0 => ty0
  | k + 1 => listT (nest k)
theorem ty0_rd {M : Mem} : RdL M ty0.enc [vint 0, vint 0, vint 0, vint 0, .slice none 0 0] := by
  rw [Ty.enc_eq]
  exact RdL.cons (Rd.i _) (RdL.cons (Rd.i _) (RdL.cons (Rd.i _) (RdL.cons (Rd.i _) (RdL.cons Rd.nilS (RdL.nil _)))))
theorem tDefs_head (l : List Int) : (typesP l).defs[0]'(by rw [show (typesP l).defs = tDefs l (tMany l) from rfl, tDefs_len]; exact (tMany_rng l).1) = tDef l 0 := by
  simp [typesP, tDefs]
theorem types_def1 (l : List Int) : hasDef (typesP l) (idK 1) ∧ theDef (typesP l) (idK 1) = tDef l 0 := by
  have h := theDef_hit (p := typesP l) (id := idK 1) (k := 0) (by rw [show (typesP l).defs = tDefs l (tMany l) from rfl, tDefs_len]; exact (tMany_rng l).1) (fun j _ h => absurd h (Nat.not_lt_zero _)) (by rw [tDefs_head]; rfl)
  rw [tDefs_head] at h
  exact h
theorem types_has1 (l : List Int) : decide (hasDef (typesP l) (idK 1)) = true := decide_eq_true (types_def1 l).1
/-- The parts of a row, one behind the other. -/
def partsK : Nat → List Value → List (Nat × List Value)
  | _, [] => []
  | k, v :: vs => (k, cellsL v) :: partsK (k + 1) vs
theorem fillFrom {sz : Nat} : ∀ (vs : List Value) (outs : List (List Value)) (k : Nat) (pre rest : List Value), vs.map cellsL = outs → (∀ o ∈ outs, o.length = sz) → pre.length = k * sz → rest.length = outs.length * sz →
    fillL (fun i => some (i * sz, sz)) (pre ++ rest) (partsK k vs) = some (pre ++ outs.flatten)
  | [], _, k, pre, rest, rfl, _, _, hr => by
    have : rest = [] := List.eq_nil_of_length_eq_zero (by simpa using hr)
    simp [partsK, fillL, this]
  | v :: vs, _, k, pre, rest, rfl, ho, hp, hr => by
    have h1 : (cellsL v).length = sz := ho _ (by simp)
    have h2 : rest.length = sz + (vs.map cellsL).length * sz := by rw [hr]; simp [Nat.succ_mul]; omega
    have e : splice (pre ++ rest) (k * sz) (cellsL v) = (pre ++ cellsL v) ++ rest.drop sz := by
      simp only [splice, h1, ← hp]
      rw [List.take_left', List.drop_append, List.drop_of_length_le (by omega)]
      · simp
      · rfl
    simp only [partsK, fillL]
    rw [if_pos ⟨h1, by rw [List.length_append]; omega⟩, e]
    rw [fillFrom vs (vs.map cellsL) (k + 1) (pre ++ cellsL v) (rest.drop sz) rfl (fun o h => ho o (by simp at h ⊢; exact .inr h)) (by rw [List.length_append, hp, h1, Nat.succ_mul]) (by rw [List.length_drop]; omega)]
    simp
theorem fillRow {sz : Nat} {vs : List Value} {outs : List (List Value)} (h : vs.map cellsL = outs) (ho : ∀ o ∈ outs, o.length = sz) : ∀ zs : List Value, zs.length = outs.length * sz → fillL (fun i => some (i * sz, sz)) zs (partsK 0 vs) = some outs.flatten := fun zs hz => by
  have := fillFrom vs outs 0 [] zs h ho (by simp) hz
  simpa using this
end Xe
