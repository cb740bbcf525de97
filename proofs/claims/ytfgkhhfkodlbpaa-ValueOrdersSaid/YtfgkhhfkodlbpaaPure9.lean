/- THE PROGRAM OF TYPES MADE OF NUMBERS. No program in sight. -/
import Derived.Test.YtfgkhhfkodlbpaaPure8
namespace Xe
open Go
abbrev sCore : ByteArray := ⟨#[99, 111, 114, 101]⟩
def tMany (l : List Int) : Nat := (1 + atL l 0 4).toNat
def tBits (l : List Int) (i : Nat) : Int := atL l (1 + (i : Int)) 65536
def tArity (l : List Int) (i : Nat) : Nat := (1 + ((tBits l i).tdiv 2).tmod 3).toNat
def tNext (l : List Int) : Nat → Int
  | 0 => 1 + (tMany l : Int)
  | i + 1 => tNext l i + tArity l i
def nm3 : Nat → ByteArray
  | 0 => sX
  | 1 => sY
  | _ => sZ
def nm4 : Nat → ByteArray
  | 0 => sPoint
  | 1 => sShape
  | 2 => sState
  | _ => sEvent
def tSlot (l : List Int) (i j : Nat) : SlotT := ⟨idK (tNext l i + j), nm3 j, pickTy (atL l (5 + 3 * (i : Int) + (j : Int)) 65536) i, 0, 0⟩
def tSlots (l : List Int) (i k : Nat) : List SlotT := (List.range k).map (tSlot l i)
def tDef (l : List Int) (i : Nat) : DefT := ⟨idK (1 + (i : Int)), (tBits l i).tmod 2, idK 0, nm4 i, tSlots l i (tArity l i), ty0, ex0, 0, []⟩
def tDefs (l : List Int) (k : Nat) : List DefT := (List.range k).map (tDef l)
def tIds (k : Nat) : List IdT := (List.range k).map fun i : Nat => idK (1 + (i : Int))
def typesP (l : List Int) : ProgT := ⟨[⟨idK 0, sCore, [], tIds (tMany l)⟩], tDefs l (tMany l)⟩
theorem atL_rng (l : List Int) (i m : Int) (hm : 1 ≤ m) : 0 ≤ atL l i m ∧ atL l i m < m := by
  unfold atL
  split
  · omega
  · exact around_lt _ _ hm
theorem tMany_cast (l : List Int) : (tMany l : Int) = 1 + atL l 0 4 := by have := atL_rng l 0 4 (by omega); unfold tMany; omega
theorem tMany_rng (l : List Int) : 1 ≤ tMany l ∧ tMany l ≤ 4 := by have := atL_rng l 0 4 (by omega); unfold tMany; omega
theorem tBits_rng (l : List Int) (i : Nat) : 0 ≤ tBits l i ∧ tBits l i < 65536 := atL_rng l _ _ (by omega)
theorem tBits_div (l : List Int) (i : Nat) : (tBits l i).tdiv 2 = tBits l i / 2 := Int.tdiv_eq_ediv_of_nonneg (tBits_rng l i).1
theorem tBits_mod (l : List Int) (i : Nat) : ((tBits l i).tdiv 2).tmod 3 = tBits l i / 2 % 3 := by rw [tBits_div, Int.tmod_eq_emod_of_nonneg (by have := tBits_rng l i; omega)]
theorem tKind_mod (l : List Int) (i : Nat) : (tBits l i).tmod 2 = tBits l i % 2 := Int.tmod_eq_emod_of_nonneg (tBits_rng l i).1
theorem tArity_cast (l : List Int) (i : Nat) : (tArity l i : Int) = 1 + ((tBits l i).tdiv 2).tmod 3 := by have := tBits_mod l i; unfold tArity; omega
theorem tArity_rng (l : List Int) (i : Nat) : 1 ≤ tArity l i ∧ tArity l i ≤ 3 := by have := tBits_mod l i; unfold tArity; omega
theorem tNext_rng (l : List Int) : ∀ i : Nat, 2 ≤ tNext l i ∧ tNext l i ≤ 5 + 3 * (i : Int)
  | 0 => by have := tMany_rng l; rw [tNext]; omega
  | i + 1 => by have := tNext_rng l i; have := tArity_rng l i; rw [tNext]; omega
theorem tSlots_succ (l : List Int) (i j : Nat) : (tSlots l i (j + 1)).flatMap SlotT.enc = (tSlots l i j).flatMap SlotT.enc ++ (tSlot l i j).enc := by
  simp [tSlots, List.range_succ]
theorem tDefs_succ (l : List Int) (j : Nat) : (tDefs l (j + 1)).flatMap DefT.enc = (tDefs l j).flatMap DefT.enc ++ (tDef l j).enc := by
  simp [tDefs, List.range_succ]
theorem tIds_succ (j : Nat) : (tIds (j + 1)).flatMap IdT.enc = (tIds j).flatMap IdT.enc ++ (idK (1 + (j : Int))).enc := by
  simp [tIds, List.range_succ]
theorem tSlots_len (l : List Int) (i k : Nat) : (tSlots l i k).length = k := by simp [tSlots]
theorem tDefs_len (l : List Int) (k : Nat) : (tDefs l k).length = k := by simp [tDefs]
theorem tIds_len (k : Nat) : (tIds k).length = k := by simp [tIds]
theorem nm3_at {j : Nat} (h : j < 3) : [Value.string sX, .string sY, .string sZ][j * 1]? = some (.string (nm3 j)) := by
  match j, h with
  | 0, _ | 1, _ | 2, _ => rfl
theorem nm4_at {j : Nat} (h : j < 4) : [Value.string sPoint, .string sShape, .string sState, .string sEvent][j * 1]? = some (.string (nm4 j)) := by
  match j, h with
  | 0, _ | 1, _ | 2, _ | 3, _ => rfl
theorem Ty.open {M : Mem} {t : Ty} {us : List Value} (h : RdL M t.enc us) : ∃ u, us = [vint t.kind, vint t.df.shop, vint t.df.seq, vint t.df.index, u] ∧ Rd M (.sl t.kids.length 5 (t.kids.flatMap Ty.enc)) u := by
  rw [Ty.enc_eq] at h
  obtain ⟨v0, t0, rfl, r0, h⟩ := h.uncons
  obtain ⟨v1, t1, rfl, r1, h⟩ := h.uncons
  obtain ⟨v2, t2, rfl, r2, h⟩ := h.uncons
  obtain ⟨v3, t3, rfl, r3, h⟩ := h.uncons
  obtain ⟨v4, t4, rfl, r4, h⟩ := h.uncons
  obtain rfl := h.unnil
  obtain rfl := r0.int_eq
  obtain rfl := r1.int_eq
  obtain rfl := r2.int_eq
  obtain rfl := r3.int_eq
  exact ⟨v4, rfl, r4⟩
def SlotT.vu (s : SlotT) (u : Value) : List Value := [vint s.id.shop, vint s.id.seq, vint s.id.index, .string s.name, vint s.ty.kind, vint s.ty.df.shop, vint s.ty.df.seq, vint s.ty.df.index, u, vint s.most, vint s.place]
theorem SlotT.close {M : Mem} (s : SlotT) {u : Value} (h : Rd M (.sl s.ty.kids.length 5 (s.ty.kids.flatMap Ty.enc)) u) : RdL M s.enc (s.vu u) := by
  rw [SlotT.enc, SlotT.vu]
  exact (by repeat (first | exact RdL.nil _ | refine RdL.cons (by first | exact Rd.i _ | exact Rd.str _ | assumption) ?_))
theorem IdT.vals_rd {M : Mem} (i : IdT) : RdL M i.enc i.vals := RdL.cons (Rd.i _) (RdL.cons (Rd.i _) (RdL.cons (Rd.i _) (RdL.nil _)))
end Xe
