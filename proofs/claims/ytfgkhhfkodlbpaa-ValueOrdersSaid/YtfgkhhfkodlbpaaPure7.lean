/- THE SMALL EXAMPLE: a program of two types. No program in sight. -/
import Derived.Test.YtfgkhhfkodlbpaaPure6
namespace Xe
open Go
abbrev sX : ByteArray := ⟨#[120]⟩
abbrev sY : ByteArray := ⟨#[121]⟩
abbrev sZ : ByteArray := ⟨#[122]⟩
abbrev sDot : ByteArray := ⟨#[68, 111, 116]⟩
abbrev sBox : ByteArray := ⟨#[66, 111, 120]⟩
abbrev sPoint : ByteArray := ⟨#[80, 111, 105, 110, 116]⟩
abbrev sShape : ByteArray := ⟨#[83, 104, 97, 112, 101]⟩
abbrev sState : ByteArray := ⟨#[83, 116, 97, 116, 101]⟩
abbrev sEvent : ByteArray := ⟨#[69, 118, 101, 110, 116]⟩
def slX : SlotT := ⟨⟨0, 1, 3⟩, sX, ty0, 0, 0⟩
def slY : SlotT := ⟨⟨0, 1, 4⟩, sY, ty0, 0, 0⟩
def slDot : SlotT := ⟨⟨0, 1, 5⟩, sDot, ty0, 0, 0⟩
def slBox : SlotT := ⟨⟨0, 1, 6⟩, sBox, .mk 3 ⟨0, 1, 1⟩ [], 0, 0⟩
def dPoint : DefT := ⟨⟨0, 1, 1⟩, 0, id0, sPoint, [slX, slY], ty0, ex0, 0, []⟩
def dShape : DefT := ⟨⟨0, 1, 2⟩, 1, id0, sShape, [slDot, slBox], ty0, ex0, 0, []⟩
def exP : ProgT := ⟨[], [dPoint, dShape]⟩
/-- The cells of a slot whose type has no kids; of a definition with neither body nor result. -/
def SlotT.vs (s : SlotT) : List Value := [vint s.id.shop, vint s.id.seq, vint s.id.index, .string s.name, vint s.ty.kind, vint s.ty.df.shop, vint s.ty.df.seq, vint s.ty.df.index, .slice none 0 0, vint s.most, vint s.place]
theorem SlotT.vs_rd {M : Mem} (s : SlotT) (h : s.ty.kids = []) : RdL M s.enc s.vs := by
  rw [SlotT.enc, h]
  exact (by repeat (first | exact RdL.nil _ | refine RdL.cons (by first | exact Rd.i _ | exact Rd.nilS | exact Rd.str _ | assumption) ?_))
def dvs (id : IdT) (kind : Int) (mod : IdT) (name : ByteArray) (u : Value) : List Value := [vint id.shop, vint id.seq, vint id.index, vint kind, vint mod.shop, vint mod.seq, vint mod.index, .string name, u,
  vint 0, vint 0, vint 0, vint 0, .slice none 0 0,
  vint 0, vint 0, vint 0, vint 0, vint 0, vint 0, vint 0, vint 0, vint 0, vint 0, vint 0, vint 0, .slice none 0 0, .slice none 0 0, .slice none 0 0, vint 0, .slice none 0 0]
theorem dvs_rd {M : Mem} (id : IdT) (kind : Int) (mod : IdT) (name : ByteArray) (sl : List SlotT) (u : Value) (h : Rd M (.sl sl.length 11 (sl.flatMap SlotT.enc)) u) : RdL M (DefT.enc ⟨id, kind, mod, name, sl, ty0, ex0, 0, []⟩) (dvs id kind mod name u) := by
  rw [DefT.enc]
  exact (by repeat (first | exact RdL.nil _ | refine RdL.cons (by first | exact Rd.i _ | exact Rd.nilS | exact Rd.str _ | exact h) ?_))
end Xe
