/- THE DATA of programs and values as plain Lean, and how memory reads as them. No program in sight. -/
import Derived.Test.YtfgkhhfkodlbpaaXeR
namespace Xe
open Go

/-! ### Values -/
inductive Val where
  | mk (kind n : Int) (kids : List Val)
  deriving Inhabited
def Val.kind : Val → Int | .mk k _ _ => k
def Val.n : Val → Int | .mk _ n _ => n
def Val.kids : Val → List Val | .mk _ _ l => l
mutual
def Val.enc : Val → List D
  | .mk k n l => [dint k, dint n, .sl l.length 3 (Val.encs l)]
def Val.encs : List Val → List D
  | [] => []
  | t :: ts => t.enc ++ Val.encs ts
end
theorem Val.encs_eq : ∀ l : List Val, Val.encs l = l.flatMap Val.enc
  | [] => by simp [Val.encs]
  | t :: ts => by rw [Val.encs, Val.encs_eq ts, List.flatMap_cons]
theorem Val.enc_eq (t : Val) : t.enc = [dint t.kind, dint t.n, .sl t.kids.length 3 (t.kids.flatMap Val.enc)] := by
  cases t; rw [Val.enc, Val.encs_eq]; rfl
theorem Val.enc_len (t : Val) : t.enc.length = 3 := by rw [Val.enc_eq]; rfl
mutual
def Val.size : Val → Nat
  | .mk _ _ l => 1 + Val.sizes l
def Val.sizes : List Val → Nat
  | [] => 0
  | t :: ts => t.size + Val.sizes ts
end
theorem Val.size_eq (e : Val) : e.size = 1 + Val.sizes e.kids := by cases e; rw [Val.size]; rfl
theorem Val.size_pos (e : Val) : 0 < e.size := by rw [Val.size_eq]; omega
theorem Val.size_mem : ∀ {l : List Val} {t : Val}, t ∈ l → t.size ≤ Val.sizes l
  | x :: xs, t, h => by
    rw [Val.sizes]
    rcases List.mem_cons.1 h with rfl | h
    · omega
    · have := Val.size_mem h; omega
theorem Val.size_kid {t k : Val} (h : k ∈ t.kids) : k.size < t.size := by
  have := Val.size_mem h; rw [Val.size_eq t]; omega
theorem Val.sizes_append : ∀ (l m : List Val), Val.sizes (l ++ m) = Val.sizes l + Val.sizes m
  | [], m => by simp [Val.sizes]
  | x :: xs, m => by have := Val.sizes_append xs m; simp only [List.cons_append, Val.sizes]; omega
theorem Val.sizes_take : ∀ (l : List Val) (k : Nat), Val.sizes (l.take k) ≤ Val.sizes l
  | [], k => by simp
  | x :: xs, 0 => by simp [Val.sizes]
  | x :: xs, k + 1 => by have := Val.sizes_take xs k; simp only [List.take_succ_cons, Val.sizes]; omega
theorem Val.sizes_succ (l : List Val) (k : Nat) (h : k < l.length) : Val.sizes (l.take (k + 1)) = Val.sizes (l.take k) + l[k].size := by
  rw [List.take_succ_eq_append_getElem h, Val.sizes_append]; simp [Val.sizes]
theorem Val.ext {a b : Val} (h1 : a.kind = b.kind) (h2 : a.n = b.n) (h3 : a.kids = b.kids) : a = b := by
  cases a; cases b; simp only [Val.kind, Val.n, Val.kids] at h1 h2 h3; rw [h1, h2, h3]
theorem Val.rec' {p : Val → Prop} (h : ∀ v, (∀ k ∈ v.kids, p k) → p v) (v : Val) : p v := by
  have : ∀ (n : Nat) (v : Val), v.size = n → p v := by
    intro n
    induction n using Nat.strongRecOn with
    | _ n ih => exact fun v hv => h v fun k hk => ih k.size (by rw [← hv]; exact Val.size_kid hk) k rfl
  exact this _ v rfl
/-- All numbers are words. -/
inductive Val.Ok : Val → Prop
  | mk {v : Val} : InI v.kind → InI v.n → (∀ k ∈ v.kids, Val.Ok k) → Val.Ok v
theorem Val.Ok.kind {v : Val} (h : v.Ok) : InI v.kind := by cases h with | mk a b c => exact a
theorem Val.Ok.n {v : Val} (h : v.Ok) : InI v.n := by cases h with | mk a b c => exact b
theorem Val.Ok.kid {v k : Val} (h : v.Ok) (hk : k ∈ v.kids) : k.Ok := by cases h with | mk a b c => exact c k hk

/-! ### Slots, definitions, modules, programs -/
structure SlotT where
  id : IdT
  name : ByteArray
  ty : Ty
  most : Int
  place : Int
  deriving Inhabited
def SlotT.enc (s : SlotT) : List D := [dint s.id.shop, dint s.id.seq, dint s.id.index, dstr s.name, dint s.ty.kind, dint s.ty.df.shop, dint s.ty.df.seq, dint s.ty.df.index, .sl s.ty.kids.length 5 (s.ty.kids.flatMap Ty.enc), dint s.most, dint s.place]
theorem SlotT.enc_eq (s : SlotT) : s.enc = [dint s.id.shop, dint s.id.seq, dint s.id.index, dstr s.name, dint s.ty.kind, dint s.ty.df.shop, dint s.ty.df.seq, dint s.ty.df.index, .sl s.ty.kids.length 5 (s.ty.kids.flatMap Ty.enc), dint s.most, dint s.place] := rfl
theorem SlotT.enc_len (s : SlotT) : s.enc.length = 11 := rfl
structure DefT where
  id : IdT
  kind : Int
  mod : IdT
  name : ByteArray
  slots : List SlotT
  result : Ty
  body : Ex
  place : Int
  layout : List ByteArray
  deriving Inhabited
def DefT.enc (s : DefT) : List D := [dint s.id.shop, dint s.id.seq, dint s.id.index, dint s.kind, dint s.mod.shop, dint s.mod.seq, dint s.mod.index, dstr s.name, .sl s.slots.length 11 (s.slots.flatMap SlotT.enc),
  dint s.result.kind, dint s.result.df.shop, dint s.result.df.seq, dint s.result.df.index, .sl s.result.kids.length 5 (s.result.kids.flatMap Ty.enc),
  dint s.body.id.shop, dint s.body.id.seq, dint s.body.id.index, dint s.body.kind, dint s.body.n, dint s.body.ref.shop, dint s.body.ref.seq, dint s.body.ref.index, dint s.body.ty.kind, dint s.body.ty.df.shop, dint s.body.ty.df.seq, dint s.body.ty.df.index,
    .sl s.body.ty.kids.length 5 (s.body.ty.kids.flatMap Ty.enc), .sl s.body.kids.length 15 (s.body.kids.flatMap Ex.enc), .sl s.body.names.length 1 (s.body.names.map dstr),
  dint s.place, .sl s.layout.length 1 (s.layout.map dstr)]
theorem DefT.enc_eq (s : DefT) : s.enc = [dint s.id.shop, dint s.id.seq, dint s.id.index, dint s.kind, dint s.mod.shop, dint s.mod.seq, dint s.mod.index, dstr s.name, .sl s.slots.length 11 (s.slots.flatMap SlotT.enc),
  dint s.result.kind, dint s.result.df.shop, dint s.result.df.seq, dint s.result.df.index, .sl s.result.kids.length 5 (s.result.kids.flatMap Ty.enc),
  dint s.body.id.shop, dint s.body.id.seq, dint s.body.id.index, dint s.body.kind, dint s.body.n, dint s.body.ref.shop, dint s.body.ref.seq, dint s.body.ref.index, dint s.body.ty.kind, dint s.body.ty.df.shop, dint s.body.ty.df.seq, dint s.body.ty.df.index,
    .sl s.body.ty.kids.length 5 (s.body.ty.kids.flatMap Ty.enc), .sl s.body.kids.length 15 (s.body.kids.flatMap Ex.enc), .sl s.body.names.length 1 (s.body.names.map dstr),
  dint s.place, .sl s.layout.length 1 (s.layout.map dstr)] := rfl
theorem DefT.enc_len (s : DefT) : s.enc.length = 31 := rfl
structure ModT where
  id : IdT
  name : ByteArray
  uses : List IdT
  defs : List IdT
  deriving Inhabited
def ModT.enc (m : ModT) : List D := [dint m.id.shop, dint m.id.seq, dint m.id.index, dstr m.name, .sl m.uses.length 3 (m.uses.flatMap IdT.enc), .sl m.defs.length 3 (m.defs.flatMap IdT.enc)]
theorem ModT.enc_eq (m : ModT) : m.enc = [dint m.id.shop, dint m.id.seq, dint m.id.index, dstr m.name, .sl m.uses.length 3 (m.uses.flatMap IdT.enc), .sl m.defs.length 3 (m.defs.flatMap IdT.enc)] := rfl
theorem ModT.enc_len (m : ModT) : m.enc.length = 6 := rfl
structure ProgT where
  mods : List ModT
  defs : List DefT
  deriving Inhabited
def ProgT.enc (p : ProgT) : List D := [.sl p.mods.length 6 (p.mods.flatMap ModT.enc), .sl p.defs.length 31 (p.defs.flatMap DefT.enc)]
theorem ProgT.enc_eq (p : ProgT) : p.enc = [.sl p.mods.length 6 (p.mods.flatMap ModT.enc), .sl p.defs.length 31 (p.defs.flatMap DefT.enc)] := rfl
theorem ProgT.enc_len (p : ProgT) : p.enc.length = 2 := rfl
theorem dstr_get {l : List ByteArray} {k : Nat} {n : ByteArray} (h : l[k]? = some n) : (l.map dstr)[k * 1]? = some (dstr n) := by simp [h]
theorem IdT.ext' {a b : IdT} (h1 : a.shop = b.shop) (h2 : a.seq = b.seq) (h3 : a.index = b.index) : a = b := by cases a; cases b; simp only at h1 h2 h3; rw [h1, h2, h3]

/-- What was there as it was; the value as said. -/
abbrev Has (M : Mem) (Γ : List As) (R : Value → Prop) : Post := fun u M' Γ' => M' = M ∧ Γ' = Γ ∧ R u
section
variable {w0 : World} {M : Mem} {Γ : List As}
theorem Kn.ty {t : Ty} {us : List Value} (h : As.rds [dint t.kind, dint t.df.shop, dint t.df.seq, dint t.df.index, .sl t.kids.length 5 (t.kids.flatMap Ty.enc)] us ∈ Γ) : Kn w0 M Γ (RdL M t.enc us) := by rw [Ty.enc_eq]; exact Kn.rds h
theorem Kn.val {t : Val} {us : List Value} (h : As.rds [dint t.kind, dint t.n, .sl t.kids.length 3 (t.kids.flatMap Val.enc)] us ∈ Γ) : Kn w0 M Γ (RdL M t.enc us) := by rw [Val.enc_eq]; exact Kn.rds h
theorem Kn.ex {e : Ex} {us : List Value} (h : As.rds [dint e.id.shop, dint e.id.seq, dint e.id.index, dint e.kind, dint e.n, dint e.ref.shop, dint e.ref.seq, dint e.ref.index, dint e.ty.kind, dint e.ty.df.shop, dint e.ty.df.seq, dint e.ty.df.index,
    .sl e.ty.kids.length 5 (e.ty.kids.flatMap Ty.enc), .sl e.kids.length 15 (e.kids.flatMap Ex.enc), .sl e.names.length 1 (e.names.map dstr)] us ∈ Γ) : Kn w0 M Γ (RdL M e.enc us) := by rw [Ex.enc_eq]; exact Kn.rds h
end
theorem EL {ds : List D} {n : Nat} (h : ds.length = n := by first | rfl | exact Ty.enc_len _ | exact Val.enc_len _ | exact SlotT.enc_len _ | exact DefT.enc_len _ | exact ModT.enc_len _ | exact ProgT.enc_len _ | exact IdT.enc_len _ | exact Ex.enc_len _) : ds.length = n := h
theorem KK {w0 : World} {M : Mem} {Γ : List As} {F : Prop} (h : Kn w0 M Γ F := by first | exact Kn.rds MM | exact Kn.ty MM | exact Kn.val MM | exact Kn.ex MM | exact Kn.rd MM) : Kn w0 M Γ F := h
end Xe
