/- THE PLAIN FUNCTIONS. No program in sight. -/
import Derived.Test.YtfgkhhfkodlbpaaApi
namespace Xe
open Go
def around (n m : Int) : Int := (if n < 0 then -(n + 1) else n) % m
theorem around_eq (n m : Int) (_hm : 1 ≤ m) : around n m = (if n < 0 then -(n + 1) else n).tmod m := by
  unfold around
  rw [Int.tmod_eq_emod_of_nonneg]
  split <;> omega
theorem around_lt (n m : Int) (hm : 1 ≤ m) : 0 ≤ around n m ∧ around n m < m := by
  unfold around
  exact ⟨Int.emod_nonneg _ (by omega), Int.emod_lt_of_pos _ (by omega)⟩
def atL (l : List Int) (i most : Int) : Int := if i < 0 ∨ (l.length : Int) ≤ i then 0 else around (l.getD i.toNat 0) most
theorem take_all_eq {α : Type} {a b : List α} {k : Nat} (_hk : k ≤ a.length) (h : a.take k = b.take k) (ha : a.length ≤ k) (hb : b.length ≤ k) : a = b := by
  rwa [List.take_of_length_le ha, List.take_of_length_le hb] at h

/-! ### Nodes in postorder -/
structure MNode where
  e : Ex
  first : Nat
  deriving Inhabited
def MNode.enc (x : MNode) : List D := x.e.enc ++ [dint x.first]
theorem MNode.enc_eq (x : MNode) : x.enc = [dint x.e.id.shop, dint x.e.id.seq, dint x.e.id.index, dint x.e.kind, dint x.e.n, dint x.e.ref.shop, dint x.e.ref.seq, dint x.e.ref.index, dint x.e.ty.kind, dint x.e.ty.df.shop, dint x.e.ty.df.seq, dint x.e.ty.df.index,
    .sl x.e.ty.kids.length 5 (x.e.ty.kids.flatMap Ty.enc), .sl x.e.kids.length 15 (x.e.kids.flatMap Ex.enc), .sl x.e.names.length 1 (x.e.names.map dstr), dint x.first] := by
  rw [MNode.enc, Ex.enc_eq]; rfl
theorem MNode.enc_len (x : MNode) : x.enc.length = 16 := by rw [MNode.enc_eq]; rfl
structure RNode where
  e : Ex
  first : Nat
  level : Nat
  deriving Inhabited
def RNode.enc (x : RNode) : List D := x.e.enc ++ [dint x.first, dint x.level]
theorem RNode.enc_eq (x : RNode) : x.enc = [dint x.e.id.shop, dint x.e.id.seq, dint x.e.id.index, dint x.e.kind, dint x.e.n, dint x.e.ref.shop, dint x.e.ref.seq, dint x.e.ref.index, dint x.e.ty.kind, dint x.e.ty.df.shop, dint x.e.ty.df.seq, dint x.e.ty.df.index,
    .sl x.e.ty.kids.length 5 (x.e.ty.kids.flatMap Ty.enc), .sl x.e.kids.length 15 (x.e.kids.flatMap Ex.enc), .sl x.e.names.length 1 (x.e.names.map dstr), dint x.first, dint x.level] := by
  rw [RNode.enc, Ex.enc_eq]; rfl
theorem RNode.enc_len (x : RNode) : x.enc.length = 17 := by rw [RNode.enc_eq]; rfl
def MNode.encs (l : List MNode) : D := .sl l.length 16 (l.flatMap MNode.enc)
def RNode.encs (l : List RNode) : D := .sl l.length 17 (l.flatMap RNode.enc)

theorem flat_sub {α : Type} {enc : α → List D} {sz : Nat} (h : ∀ x, (enc x).length = sz) (xs : List α) (k : Nat) (x : α) (hk : xs[k]? = some x) (j m : Nat) (hj : j + m ≤ sz) : ((xs.flatMap enc).drop (k * sz + j)).take m = ((enc x).drop j).take m := by
  rw [← flat_take h xs k x hk, List.drop_take, List.take_take, List.drop_drop, Nat.min_eq_left (by omega)]

/-- The number of a node. -/
def numOf (l : List RNode) (id : IdT) : Int := match l.findIdx? (fun x => decide (x.e.id = id)) with
  | some i => (i : Int)
  | none => -1
theorem numOf_hit {l : List RNode} {id : IdT} {k : Nat} (h : k < l.length) (h1 : ∀ j (hj : j < k), (l[j]'(by omega)).e.id ≠ id) (h2 : l[k].e.id = id) : numOf l id = k := by
  have : l.findIdx? (fun x => decide (x.e.id = id)) = some k := by
    rw [List.findIdx?_eq_some_iff_getElem]
    exact ⟨h, by simpa using h2, fun j hj => by simpa using h1 j hj⟩
  rw [numOf, this]
theorem numOf_miss {l : List RNode} {id : IdT} (h1 : ∀ j (hj : j < l.length), l[j].e.id ≠ id) : numOf l id = -1 := by
  have : l.findIdx? (fun x => decide (x.e.id = id)) = none := by
    rw [List.findIdx?_eq_none_iff]
    intro x hx
    obtain ⟨j, hj, rfl⟩ := List.mem_iff_getElem.1 hx
    simpa using h1 j hj
  rw [numOf, this]

theorem IdT.rd {M : Mem} (i : IdT) : RdL M i.enc i.vals := RdL.vals (vs := i.vals) (by simp [IdT.vals, Value.oneCell'])
theorem IdT.enc_len (i : IdT) : i.enc.length = 3 := rfl
/-- A pair of IDs. -/
structure PairD where
  frm : IdT
  to : IdT
  deriving DecidableEq, Inhabited, Repr
def PairD.enc (p : PairD) : List D := [dint p.frm.shop, dint p.frm.seq, dint p.frm.index, dint p.to.shop, dint p.to.seq, dint p.to.index]
def PairD.vals (p : PairD) : List Value := [vint p.frm.shop, vint p.frm.seq, vint p.frm.index, vint p.to.shop, vint p.to.seq, vint p.to.index]
theorem PairD.rd {M : Mem} (p : PairD) : RdL M p.enc p.vals := RdL.vals (vs := p.vals) (by simp [PairD.vals, Value.oneCell'])
theorem PairD.enc_len (p : PairD) : p.enc.length = 6 := rfl
def PairD.encs (l : List PairD) : D := .sl l.length 6 (l.flatMap PairD.enc)
theorem flat_snoc {α : Type} (enc : α → List D) (l : List α) (k : Nat) (h : k < l.length) : (l.take (k + 1)).flatMap enc = (l.take k).flatMap enc ++ enc l[k] := by
  rw [List.take_succ_eq_append_getElem h, List.flatMap_append]; simp

theorem vb {p q : Prop} [Decidable p] [Decidable q] (h : p ↔ q) : Value.bool (decide p) = Value.bool (decide q) := by rw [decide_eq_decide.2 h]
theorem vbF {p : Prop} [Decidable p] (h : ¬ p) : Value.bool false = Value.bool (decide p) := by rw [decide_eq_false h]
theorem vbT {p : Prop} [Decidable p] (h : p) : Value.bool true = Value.bool (decide p) := by rw [decide_eq_true h]
theorem all_step {α : Type} {l : List α} {p : α → Prop} {k : Nat} (hT : ∀ j (hj : j < l.length), j < k → p l[j]) (hk : k < l.length) (h2 : p l[k]) : ∀ j (hj : j < l.length), j < k + 1 → p l[j] := by
  intro j hj hlt
  by_cases h : j < k
  · exact hT j hj h
  · obtain rfl : j = k := by omega
    exact h2

/-! ### The reference's nodes -/
mutual
def rput (l : List RNode) : Ex → Nat → List RNode
  | .mk i k n r t kids s, lev => rputs l kids lev ++ [⟨.mk i k n r t kids s, l.length, lev⟩]
def rputs (l : List RNode) : List Ex → Nat → List RNode
  | [], _ => l
  | k :: ks, lev => if l.length < 130 ∧ lev < 26 then rputs (rput l k (lev + 1)) ks lev else l
end
theorem rput_eq (l : List RNode) (e : Ex) (lev : Nat) : rput l e lev = rputs l e.kids lev ++ [⟨e, l.length, lev⟩] := by
  cases e; rw [rput]; rfl
mutual
theorem rput_le : ∀ (l : List RNode) (e : Ex) (lev : Nat), lev ≤ 26 → (rput l e lev).length ≤ max l.length (156 - lev) + 1
  | l, .mk i k n r t kids s, lev, h => by
    have := rputs_le l kids lev h
    simp only [rput, List.length_append, List.length_singleton]; omega
theorem rputs_le : ∀ (l : List RNode) (ks : List Ex) (lev : Nat), lev ≤ 26 → (rputs l ks lev).length ≤ max l.length (156 - lev)
  | l, [], lev, _ => by simp only [rputs]; omega
  | l, k :: ks, lev, h => by
    simp only [rputs]
    split
    · rename_i hc
      have h1 := rput_le l k (lev + 1) (by omega)
      have h2 := rputs_le (rput l k (lev + 1)) ks lev h
      omega
    · omega
end
def RNode.vals (us : List Value) (first level : Nat) : List Value := us ++ [vint first, vint level]
theorem RNode.rd {M : Mem} {x : RNode} {us : List Value} (h : RdL M x.e.enc us) : RdL M x.enc (us ++ [vint x.first, vint x.level]) :=
  h.append (RdL.vals (vs := [vint x.first, vint x.level]) (by simp [Value.oneCell']))
def usable (l : List RNode) : Bool := decide (∀ x ∈ l, x.level ≤ 24) && decide ((l.map (·.e.id)).Nodup)
def rnodes (e : Ex) : List RNode × Bool := if usable (rput [] e 1) then (rput [] e 1, decide ((rput [] e 1).length ≤ 128)) else ([], false)
theorem rputs_stop {l : List RNode} {ks : List Ex} {lev k : Nat} (h : ks.length ≤ k ∨ ¬ (l.length < 130 ∧ lev < 26)) : rputs l (ks.drop k) lev = l := by
  rcases h with h | h
  · rw [List.drop_of_length_le h, rputs]
  · cases hk : ks.drop k with
    | nil => rw [rputs]
    | cons x xs => rw [rputs, if_neg h]
theorem Rd.nilS {M : Mem} {sz : Nat} : Rd M (.sl 0 sz []) (.slice none 0 0) := by
  simp only [Rd]
  exact ⟨none, 0, rfl, Nat.le_refl _, Nat.zero_le _, Nat.zero_le _, by simp, by simp, by simp [RdC]⟩
theorem usable_iff {l : List RNode} : usable l = true ↔ (∀ i (hi : i < l.length), l[i].level ≤ 24) ∧ ∀ i (hi : i < l.length) j (hj : j < l.length), j < i → l[j].e.id ≠ l[i].e.id := by
  rw [usable, Bool.and_eq_true, decide_eq_true_eq, decide_eq_true_eq]
  refine and_congr ?_ ?_
  · constructor
    · exact fun h i hi => h _ (List.getElem_mem hi)
    · intro h x hx
      obtain ⟨i, hi, rfl⟩ := List.mem_iff_getElem.1 hx
      exact h i hi
  · rw [List.Nodup, List.pairwise_iff_getElem]
    constructor
    · intro h i hi j hj hji
      have := h j i (by simpa using hj) (by simpa using hi) hji
      simpa using this
    · intro h i j hi hj hij
      have := h j (by simpa using hj) i (by simpa using hi) hij
      simpa using this
theorem rnodes_lev {e : Ex} {l : List RNode} (hl : rput [] e 1 = l) {k : Nat} (hk : k < l.length) (h : 24 < l[k].level) : rnodes e = ([], false) := by
  have : usable l ≠ true := fun hu => by have := (usable_iff.1 hu).1 k hk; omega
  rw [rnodes, hl, if_neg this]
theorem rnodes_dup {e : Ex} {l : List RNode} (hl : rput [] e 1 = l) {k j : Nat} (hk : k < l.length) (hj : j < l.length) (hjk : j < k) (h : l[j].e.id = l[k].e.id) : rnodes e = ([], false) := by
  have : usable l ≠ true := fun hu => (usable_iff.1 hu).2 k hk j hj hjk h
  rw [rnodes, hl, if_neg this]
theorem rnodes_ok {e : Ex} {l : List RNode} (hl : rput [] e 1 = l) (h1 : ∀ i (hi : i < l.length), l[i].level ≤ 24) (h2 : ∀ i (hi : i < l.length) j (hj : j < l.length), j < i → l[j].e.id ≠ l[i].e.id) : rnodes e = (l, decide (l.length ≤ 128)) := by
  rw [rnodes, hl, if_pos (usable_iff.2 ⟨h1, h2⟩)]
/-- A table of numbers that is only read. -/
def dtab (a : List (List Int)) : D := .sl a.length 1 (a.map dints)
theorem dtab_get {a : List (List Int)} {k : Nat} {r : List Int} (h : a[k]? = some r) : (a.map dints)[k * 1]? = some (.sl r.length 1 (r.map dint)) := by simp [h, dints]
def evenT (a : List (List Int)) : Prop := a ≠ [] ∧ ∀ r ∈ a, r.length = (a.headD []).length ∧ r.length ≠ 0
instance (a : List (List Int)) : Decidable (evenT a) := by unfold evenT; exact inferInstance
theorem evenT_iff {a : List (List Int)} (h : 0 < a.length) : evenT a ↔ ∀ j (hj : j < a.length), a[j].length = a[0].length ∧ a[j].length ≠ 0 := by
  unfold evenT
  have e : a.headD [] = a[0] := by cases a with
    | nil => simp at h
    | cons x xs => rfl
  rw [e]
  constructor
  · exact fun h j hj => h.2 _ (List.getElem_mem hj)
  · intro hh
    refine ⟨fun e => by subst e; simp at h, fun r hr => ?_⟩
    obtain ⟨i, hi, rfl⟩ := List.mem_iff_getElem.1 hr
    exact hh i hi
theorem evenT_nil : ¬ evenT [] := fun h => h.1 rfl
/-! ### Generated nodes -/
def idN (n : Int) : IdT := ⟨0, 1, n⟩
def idOf (n : Int) : IdT := ⟨n.tmod 3, 1 + n.tdiv 96, n.tmod 32⟩
def id0 : IdT := ⟨0, 0, 0⟩
def ty0 : Ty := .mk 0 id0 []
def contentE (n : Int) (id : IdT) : Ex :=
  .mk id ((around n 1000).tmod 4) (((around n 1000).tdiv 4).tmod 3) (if (around n 1000).tmod 11 = 0 then idOf ((around n 1000).tmod 7) else id0)
    (if (around n 1000).tmod 13 = 0 then .mk 2 id0 [.mk ((around n 1000).tmod 2) id0 []] else ty0) [] []
theorem Rd.i {M : Mem} (n : Int) : Rd M (dint n) (vint n) := by
  simp [Rd, Value.oneCell']
theorem atL_lt (l : List Int) (i m : Int) (hm : 1 ≤ m) : 0 ≤ atL l i m ∧ atL l i m < m := by
  unfold atL
  split
  · omega
  · exact around_lt _ _ hm
def treeK (l : List Int) (n i : Nat) (list : List Ex) : Nat := if i + 1 = n then list.length else min list.length (atL l (21 + i) 4).toNat
def withKids (c : Ex) (kids : List Ex) (names : List ByteArray) : Ex := .mk c.id c.kind c.n c.ref c.ty kids names
def strX : ByteArray := { data := #[120] }
def treeNames (l : List Int) (i : Nat) : List ByteArray := if atL l (41 + i) 5 = 1 then [strX] else []
def treeStep (l : List Int) (n : Nat) (frm : Int) (list : List Ex) (i : Nat) : List Ex :=
  list.take (list.length - treeK l n i list) ++ [withKids (contentE ((atL l (1 + i) 1000).tmod 9) (idOf (frm + i))) (list.drop (list.length - treeK l n i list)) (treeNames l i)]
def treeGo (l : List Int) (n : Nat) (frm : Int) : Nat → List Ex
  | 0 => []
  | i + 1 => treeStep l n frm (treeGo l n frm i) i
def tree (l : List Int) (most frm : Int) : Ex := (treeGo l (1 + atL l 0 most).toNat frm (1 + atL l 0 most).toNat).headD default
theorem treeK_le (l : List Int) (n i : Nat) (list : List Ex) : treeK l n i list ≤ list.length := by
  unfold treeK; split <;> omega
theorem treeGo_len (l : List Int) (n : Nat) (frm : Int) : ∀ i, (treeGo l n frm i).length ≤ i
  | 0 => by simp [treeGo]
  | i + 1 => by
    have := treeGo_len l n frm i
    simp only [treeGo, treeStep, List.length_append, List.length_take, List.length_singleton]; omega
theorem treeGo_pos (l : List Int) (n : Nat) (frm : Int) (i : Nat) (h : 0 < i) : 0 < (treeGo l n frm i).length := by
  cases i with
  | zero => omega
  | succ i => simp [treeGo, treeStep]
theorem flat_drop {α : Type} {enc : α → List D} {sz : Nat} (h : ∀ x, (enc x).length = sz) : ∀ (xs : List α) (k : Nat), (xs.flatMap enc).drop (k * sz) = (xs.drop k).flatMap enc
  | xs, 0 => by simp
  | [], k + 1 => by simp
  | x :: xs, k + 1 => by
    rw [List.flatMap_cons, Nat.succ_mul, Nat.add_comm, ← List.drop_drop, List.drop_append_of_le_length (Nat.le_of_eq (h x).symm), List.drop_of_length_le (Nat.le_of_eq (h x)), List.nil_append, flat_drop h xs k, List.drop_succ_cons]
theorem flat_takeN {α : Type} {enc : α → List D} {sz : Nat} (h : ∀ x, (enc x).length = sz) : ∀ (xs : List α) (k : Nat), (xs.flatMap enc).take (k * sz) = (xs.take k).flatMap enc
  | xs, 0 => by simp
  | [], k + 1 => by simp
  | x :: xs, k + 1 => by
    rw [List.flatMap_cons, Nat.succ_mul, Nat.add_comm, List.take_append, List.take_of_length_le (by rw [h]; omega), h, List.take_succ_cons, List.flatMap_cons, Nat.add_sub_cancel_left, flat_takeN h xs k]
theorem withKids_enc (c : Ex) (kids : List Ex) (names : List ByteArray) : (withKids c kids names).enc = (c.enc.set 14 (dstrs names)).set 13 (.sl kids.length 15 (kids.flatMap Ex.enc)) := by
  rw [Ex.enc_eq, Ex.enc_eq]; rfl
theorem Rd.str {M : Mem} (s : ByteArray) : Rd M (dstr s) (.string s) := by
  simp [dstr, Rd, Value.oneCell']
theorem cut_tail (xs : List Ex) (k : Nat) : D.sl (0 + (xs.length - k)) 15 (((xs.flatMap Ex.enc).drop (k * 15)).take ((xs.length - k) * 15)) = .sl (xs.drop k).length 15 ((xs.drop k).flatMap Ex.enc) := by
  rw [flat_drop Ex.enc_len, flat_takeN Ex.enc_len, Nat.zero_add, List.length_drop, List.take_of_length_le (by simp)]
theorem cut_head (xs : List Ex) (k : Nat) (hk : k ≤ xs.length) (y : Ex) : D.sl (k - 0 + 1) 15 ((((xs.flatMap Ex.enc).drop (0 * 15)).take ((k - 0) * 15)) ++ y.enc) = .sl (xs.take k ++ [y]).length 15 ((xs.take k ++ [y]).flatMap Ex.enc) := by
  rw [flat_drop Ex.enc_len, flat_takeN Ex.enc_len, Nat.sub_zero, List.drop_zero, List.flatMap_append, List.length_append, List.length_take, Nat.min_eq_left hk]
  simp
theorem content_names (n : Int) (id : IdT) : (contentE n id).enc.set 14 (dstrs []) = (contentE n id).enc := by
  rw [Ex.enc_eq]; rfl
theorem headD0 {x : List Ex} (h : 0 < x.length) : x.headD default = x[0] := by
  cases x with
  | nil => simp at h
  | cons y ys => rfl
end Xe
