/-
  THE DATA: IDs, types, expressions as plain Lean trees, and how memory reads as them. No program in sight.
-/
import Derived.Test.YtfgkhhfkodlbpaaXe2
namespace Xe
open Go

def InI (n : Int) : Prop := -9223372036854775808 ≤ n ∧ n ≤ 9223372036854775807
/-- One known value, memory as it was. -/
abbrev Is (M : Mem) (Γ : List As) (v : Value) : Post := fun u M' Γ' => u = v ∧ M' = M ∧ Γ' = Γ
/-- New data, what was there as it was. -/
abbrev Gives (M : Mem) (Γ : List As) (R : Mem → Value → Prop) : Post := fun u M' Γ' => Sub M M' ∧ Γ' = Γ ∧ R M' u

abbrev vint (n : Int) : Value := .int .i64 n
abbrev dint (n : Int) : D := .v (.int .i64 n)

/-! ### Lists of elements of one size -/
section
variable {α : Type} {enc : α → List D} {sz : Nat}
theorem flat_length (h : ∀ x, (enc x).length = sz) : ∀ xs : List α, (xs.flatMap enc).length = xs.length * sz
  | [] => by simp
  | x :: xs => by rw [List.flatMap_cons, List.length_append, h, flat_length h xs, List.length_cons, Nat.succ_mul, Nat.add_comm]
theorem flat_take (h : ∀ x, (enc x).length = sz) : ∀ (xs : List α) (k : Nat) (x : α), xs[k]? = some x → ((xs.flatMap enc).drop (k * sz)).take sz = enc x
  | [], k, x, hk => by simp at hk
  | y :: ys, 0, x, hk => by
    simp only [List.getElem?_cons_zero, Option.some.injEq] at hk
    subst hk
    simp [List.flatMap_cons, List.take_append_of_le_length (Nat.le_of_eq (h y).symm), List.take_of_length_le (Nat.le_of_eq (h y))]
  | y :: ys, k + 1, x, hk => by
    have hk' : ys[k]? = some x := by simpa using hk
    rw [List.flatMap_cons, Nat.succ_mul, Nat.add_comm, ← List.drop_drop, List.drop_append_of_le_length (Nat.le_of_eq (h y).symm), List.drop_of_length_le (Nat.le_of_eq (h y)), List.nil_append]
    exact flat_take h ys k x hk'
theorem flat_get (h : ∀ x, (enc x).length = sz) (xs : List α) (k : Nat) (x : α) (hk : xs[k]? = some x) (j : Nat) (d : D) (hd : (enc x)[j]? = some d) : (xs.flatMap enc)[k * sz + j]? = some d :=
  sub_get (flat_take h xs k x hk) hd
end

/-- A slice of ints. -/
def dints (l : List Int) : D := .sl l.length 1 (l.map dint)
theorem dints_get {l : List Int} {k : Nat} {n : Int} (h : l[k]? = some n) : (l.map dint)[k * 1]? = some (dint n) := by simp [h]

/-! ### IDs -/
structure IdT where
  shop : Int
  seq : Int
  index : Int
  deriving DecidableEq, Repr, Inhabited
def IdT.vals (x : IdT) : List Value := [vint x.shop, vint x.seq, vint x.index]
def IdT.enc (x : IdT) : List D := [dint x.shop, dint x.seq, dint x.index]

/-! ### Types -/
inductive Ty where
  | mk (kind : Int) (df : IdT) (kids : List Ty)
  deriving Inhabited
def Ty.kind : Ty → Int | .mk k _ _ => k
def Ty.df : Ty → IdT | .mk _ d _ => d
def Ty.kids : Ty → List Ty | .mk _ _ l => l
mutual
def Ty.enc : Ty → List D
  | .mk k d l => [dint k, dint d.shop, dint d.seq, dint d.index, .sl l.length 5 (Ty.encs l)]
def Ty.encs : List Ty → List D
  | [] => []
  | t :: ts => t.enc ++ Ty.encs ts
end
theorem Ty.encs_eq : ∀ l : List Ty, Ty.encs l = l.flatMap Ty.enc
  | [] => by simp [Ty.encs]
  | t :: ts => by rw [Ty.encs, Ty.encs_eq ts, List.flatMap_cons]
theorem Ty.enc_eq (t : Ty) : t.enc = [dint t.kind, dint t.df.shop, dint t.df.seq, dint t.df.index, .sl t.kids.length 5 (t.kids.flatMap Ty.enc)] := by
  cases t; rw [Ty.enc, Ty.encs_eq]; rfl
theorem Ty.enc_len (t : Ty) : t.enc.length = 5 := by rw [Ty.enc_eq]; rfl
mutual
def Ty.size : Ty → Nat
  | .mk _ _ l => 1 + Ty.sizes l
def Ty.sizes : List Ty → Nat
  | [] => 0
  | t :: ts => t.size + Ty.sizes ts
end
theorem Ty.size_mem : ∀ {l : List Ty} {t : Ty}, t ∈ l → t.size ≤ Ty.sizes l
  | x :: xs, t, h => by
    rw [Ty.sizes]
    rcases List.mem_cons.1 h with rfl | h
    · omega
    · have := Ty.size_mem h; omega
theorem Ty.size_kid {t k : Ty} (h : k ∈ t.kids) : k.size < t.size := by
  cases t with
  | mk a b l => have := Ty.size_mem (l := l) h; rw [Ty.size]; omega

mutual
def Ty.beq : Ty → Ty → Bool
  | .mk a b l, .mk c d m => decide (a = c) && decide (b = d) && Ty.beqs l m
def Ty.beqs : List Ty → List Ty → Bool
  | [], [] => true
  | x :: xs, y :: ys => x.beq y && Ty.beqs xs ys
  | [], _ :: _ => false
  | _ :: _, [] => false
end
mutual
theorem Ty.beq_iff : ∀ a b : Ty, a.beq b = true ↔ a = b
  | .mk a b l, .mk c d m => by
    simp only [Ty.beq, Bool.and_eq_true, decide_eq_true_eq, Ty.mk.injEq, Ty.beqs_iff l m, and_assoc]
theorem Ty.beqs_iff : ∀ a b : List Ty, Ty.beqs a b = true ↔ a = b
  | [], [] => by simp [Ty.beqs]
  | x :: xs, y :: ys => by simp only [Ty.beqs, Bool.and_eq_true, List.cons.injEq, Ty.beq_iff x y, Ty.beqs_iff xs ys]
  | [], _ :: _ => by simp [Ty.beqs]
  | _ :: _, [] => by simp [Ty.beqs]
end
instance : DecidableEq Ty := fun a b => decidable_of_iff (a.beq b = true) (Ty.beq_iff a b)
theorem Ty.ext {a b : Ty} (h1 : a.kind = b.kind) (h2 : a.df = b.df) (h3 : a.kids = b.kids) : a = b := by
  cases a; cases b; simp only [Ty.kind, Ty.df, Ty.kids] at h1 h2 h3; rw [h1, h2, h3]

/-! ### Expressions -/
inductive Ex where
  | mk (id : IdT) (kind n : Int) (ref : IdT) (ty : Ty) (kids : List Ex) (names : List ByteArray)
  deriving Inhabited
def Ex.id : Ex → IdT | .mk i _ _ _ _ _ _ => i
def Ex.kind : Ex → Int | .mk _ k _ _ _ _ _ => k
def Ex.n : Ex → Int | .mk _ _ n _ _ _ _ => n
def Ex.ref : Ex → IdT | .mk _ _ _ r _ _ _ => r
def Ex.ty : Ex → Ty | .mk _ _ _ _ t _ _ => t
def Ex.kids : Ex → List Ex | .mk _ _ _ _ _ l _ => l
def Ex.names : Ex → List ByteArray | .mk _ _ _ _ _ _ s => s
def dstr (s : ByteArray) : D := .v (.string s)
def dstrs (l : List ByteArray) : D := .sl l.length 1 (l.map dstr)
mutual
def Ex.enc : Ex → List D
  | .mk i k n r t l s => [dint i.shop, dint i.seq, dint i.index, dint k, dint n, dint r.shop, dint r.seq, dint r.index, dint t.kind, dint t.df.shop, dint t.df.seq, dint t.df.index, .sl t.kids.length 5 (t.kids.flatMap Ty.enc), .sl l.length 15 (Ex.encs l), dstrs s]
def Ex.encs : List Ex → List D
  | [] => []
  | t :: ts => t.enc ++ Ex.encs ts
end
theorem Ex.encs_eq : ∀ l : List Ex, Ex.encs l = l.flatMap Ex.enc
  | [] => by simp [Ex.encs]
  | t :: ts => by rw [Ex.encs, Ex.encs_eq ts, List.flatMap_cons]
theorem Ex.enc_eq (e : Ex) : e.enc = [dint e.id.shop, dint e.id.seq, dint e.id.index, dint e.kind, dint e.n, dint e.ref.shop, dint e.ref.seq, dint e.ref.index, dint e.ty.kind, dint e.ty.df.shop, dint e.ty.df.seq, dint e.ty.df.index,
    .sl e.ty.kids.length 5 (e.ty.kids.flatMap Ty.enc), .sl e.kids.length 15 (e.kids.flatMap Ex.enc), .sl e.names.length 1 (e.names.map dstr)] := by
  cases e; rw [Ex.enc, Ex.encs_eq]; rfl
theorem Ex.enc_len (e : Ex) : e.enc.length = 15 := by rw [Ex.enc_eq]; rfl
mutual
def Ex.size : Ex → Nat
  | .mk _ _ _ _ _ l _ => 1 + Ex.sizes l
def Ex.sizes : List Ex → Nat
  | [] => 0
  | t :: ts => t.size + Ex.sizes ts
end
theorem Ex.size_eq (e : Ex) : e.size = 1 + Ex.sizes e.kids := by cases e; rw [Ex.size]; rfl
theorem Ex.size_mem : ∀ {l : List Ex} {t : Ex}, t ∈ l → t.size ≤ Ex.sizes l
  | x :: xs, t, h => by
    rw [Ex.sizes]
    rcases List.mem_cons.1 h with rfl | h
    · omega
    · have := Ex.size_mem h; omega
theorem Ex.size_kid {e k : Ex} (h : k ∈ e.kids) : k.size < e.size := by
  have := Ex.size_mem h; rw [Ex.size_eq e]; omega
theorem Ex.size_pos (e : Ex) : 0 < e.size := by rw [Ex.size_eq]; omega
theorem Ex.sizes_take : ∀ (l : List Ex) (k : Nat), Ex.sizes (l.take k) ≤ Ex.sizes l
  | [], k => by simp
  | x :: xs, 0 => by simp [Ex.sizes]
  | x :: xs, k + 1 => by have := Ex.sizes_take xs k; simp only [List.take_succ_cons, Ex.sizes]; omega
theorem Ex.sizes_append : ∀ (l m : List Ex), Ex.sizes (l ++ m) = Ex.sizes l + Ex.sizes m
  | [], m => by simp [Ex.sizes]
  | x :: xs, m => by have := Ex.sizes_append xs m; simp only [List.cons_append, Ex.sizes]; omega
theorem Ex.sizes_succ (l : List Ex) (k : Nat) (h : k < l.length) : Ex.sizes (l.take (k + 1)) = Ex.sizes (l.take k) + l[k].size := by
  rw [List.take_succ_eq_append_getElem h, Ex.sizes_append]; simp [Ex.sizes]
/-- Two nodes are alike. -/
def Ex.like (a b : Ex) : Prop := a.kind = b.kind ∧ a.n = b.n ∧ a.ref = b.ref ∧ a.ty = b.ty
instance (a b : Ex) : Decidable (a.like b) := by unfold Ex.like; exact inferInstance
end Xe
