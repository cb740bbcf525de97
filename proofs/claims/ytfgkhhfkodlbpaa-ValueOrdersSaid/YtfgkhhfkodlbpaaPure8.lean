/- DEFINITIONS OPENED; the small program of a program. No program in sight. -/
import Derived.Test.YtfgkhhfkodlbpaaPure7
namespace Xe
open Go
theorem RdL.uncons {M : Mem} {e : D} {ds : List D} {us : List Value} (h : RdL M (e :: ds) us) : ∃ u us', us = u :: us' ∧ Rd M e u ∧ RdL M ds us' := by
  match us, h with
  | [], h => exact absurd h.1 (by simp)
  | u :: us', h => exact ⟨u, us', rfl, h.2 0 e u rfl rfl, by have := h.1; simpa using this, fun k d v h1 h2 => h.2 (k + 1) d v (by simpa using h1) (by simpa using h2)⟩
theorem RdL.unnil {M : Mem} {us : List Value} (h : RdL M [] us) : us = [] := List.eq_nil_of_length_eq_zero (by simpa using h.1)
theorem Rd.int_eq {M : Mem} {n : Int} {u : Value} (h : Rd M (dint n) u) : u = vint n := by simp only [Rd] at h; exact h.1
theorem Rd.str_eq {M : Mem} {s : ByteArray} {u : Value} (h : Rd M (dstr s) u) : u = .string s := by simp only [dstr, Rd] at h; exact h.1
def DefT.vs (d : DefT) (u8 u13 u26 u27 u28 u30 : Value) : List Value := [vint d.id.shop, vint d.id.seq, vint d.id.index, vint d.kind, vint d.mod.shop, vint d.mod.seq, vint d.mod.index, .string d.name, u8, vint d.result.kind, vint d.result.df.shop, vint d.result.df.seq, vint d.result.df.index, u13, vint d.body.id.shop, vint d.body.id.seq, vint d.body.id.index, vint d.body.kind, vint d.body.n, vint d.body.ref.shop, vint d.body.ref.seq, vint d.body.ref.index, vint d.body.ty.kind, vint d.body.ty.df.shop, vint d.body.ty.df.seq, vint d.body.ty.df.index, u26, u27, u28, vint d.place, u30]
theorem DefT.open {M : Mem} {d : DefT} {us : List Value} (h : RdL M d.enc us) : ∃ u8 u13 u26 u27 u28 u30, us = d.vs u8 u13 u26 u27 u28 u30 ∧ Rd M (.sl d.slots.length 11 (d.slots.flatMap SlotT.enc)) u8 ∧ Rd M (.sl d.result.kids.length 5 (d.result.kids.flatMap Ty.enc)) u13 ∧ Rd M (.sl d.body.ty.kids.length 5 (d.body.ty.kids.flatMap Ty.enc)) u26 ∧ Rd M (.sl d.body.kids.length 15 (d.body.kids.flatMap Ex.enc)) u27 ∧ Rd M (.sl d.body.names.length 1 (d.body.names.map dstr)) u28 ∧ Rd M (.sl d.layout.length 1 (d.layout.map dstr)) u30 := by
  rw [DefT.enc] at h
  obtain ⟨v0, t0, rfl, r0, h⟩ := h.uncons
  obtain ⟨v1, t1, rfl, r1, h⟩ := h.uncons
  obtain ⟨v2, t2, rfl, r2, h⟩ := h.uncons
  obtain ⟨v3, t3, rfl, r3, h⟩ := h.uncons
  obtain ⟨v4, t4, rfl, r4, h⟩ := h.uncons
  obtain ⟨v5, t5, rfl, r5, h⟩ := h.uncons
  obtain ⟨v6, t6, rfl, r6, h⟩ := h.uncons
  obtain ⟨v7, t7, rfl, r7, h⟩ := h.uncons
  obtain ⟨v8, t8, rfl, r8, h⟩ := h.uncons
  obtain ⟨v9, t9, rfl, r9, h⟩ := h.uncons
  obtain ⟨v10, t10, rfl, r10, h⟩ := h.uncons
  obtain ⟨v11, t11, rfl, r11, h⟩ := h.uncons
  obtain ⟨v12, t12, rfl, r12, h⟩ := h.uncons
  obtain ⟨v13, t13, rfl, r13, h⟩ := h.uncons
  obtain ⟨v14, t14, rfl, r14, h⟩ := h.uncons
  obtain ⟨v15, t15, rfl, r15, h⟩ := h.uncons
  obtain ⟨v16, t16, rfl, r16, h⟩ := h.uncons
  obtain ⟨v17, t17, rfl, r17, h⟩ := h.uncons
  obtain ⟨v18, t18, rfl, r18, h⟩ := h.uncons
  obtain ⟨v19, t19, rfl, r19, h⟩ := h.uncons
  obtain ⟨v20, t20, rfl, r20, h⟩ := h.uncons
  obtain ⟨v21, t21, rfl, r21, h⟩ := h.uncons
  obtain ⟨v22, t22, rfl, r22, h⟩ := h.uncons
  obtain ⟨v23, t23, rfl, r23, h⟩ := h.uncons
  obtain ⟨v24, t24, rfl, r24, h⟩ := h.uncons
  obtain ⟨v25, t25, rfl, r25, h⟩ := h.uncons
  obtain ⟨v26, t26, rfl, r26, h⟩ := h.uncons
  obtain ⟨v27, t27, rfl, r27, h⟩ := h.uncons
  obtain ⟨v28, t28, rfl, r28, h⟩ := h.uncons
  obtain ⟨v29, t29, rfl, r29, h⟩ := h.uncons
  obtain ⟨v30, t30, rfl, r30, h⟩ := h.uncons
  obtain rfl := h.unnil
  obtain rfl := r0.int_eq
  obtain rfl := r1.int_eq
  obtain rfl := r2.int_eq
  obtain rfl := r3.int_eq
  obtain rfl := r4.int_eq
  obtain rfl := r5.int_eq
  obtain rfl := r6.int_eq
  obtain rfl := r7.str_eq
  obtain rfl := r9.int_eq
  obtain rfl := r10.int_eq
  obtain rfl := r11.int_eq
  obtain rfl := r12.int_eq
  obtain rfl := r14.int_eq
  obtain rfl := r15.int_eq
  obtain rfl := r16.int_eq
  obtain rfl := r17.int_eq
  obtain rfl := r18.int_eq
  obtain rfl := r19.int_eq
  obtain rfl := r20.int_eq
  obtain rfl := r21.int_eq
  obtain rfl := r22.int_eq
  obtain rfl := r23.int_eq
  obtain rfl := r24.int_eq
  obtain rfl := r25.int_eq
  obtain rfl := r29.int_eq
  exact ⟨v8, v13, v26, v27, v28, v30, rfl, r8, r13, r26, r27, r28, r30⟩
theorem DefT.close {M : Mem} (d : DefT) {u8 u13 u26 u27 u28 u30 : Value} (h8 : Rd M (.sl d.slots.length 11 (d.slots.flatMap SlotT.enc)) u8) (h13 : Rd M (.sl d.result.kids.length 5 (d.result.kids.flatMap Ty.enc)) u13) (h26 : Rd M (.sl d.body.ty.kids.length 5 (d.body.ty.kids.flatMap Ty.enc)) u26) (h27 : Rd M (.sl d.body.kids.length 15 (d.body.kids.flatMap Ex.enc)) u27) (h28 : Rd M (.sl d.body.names.length 1 (d.body.names.map dstr)) u28) (h30 : Rd M (.sl d.layout.length 1 (d.layout.map dstr)) u30) : RdL M d.enc (d.vs u8 u13 u26 u27 u28 u30) := by
  rw [DefT.enc, DefT.vs]
  exact (by repeat (first | exact RdL.nil _ | refine RdL.cons (by first | exact Rd.i _ | exact Rd.str _ | assumption) ?_))
def fewD (d : DefT) : DefT := { d with slots := d.slots.take 4 }
def fewP (p : ProgT) : ProgT := ⟨[], (p.defs.take 6).map fewD⟩
theorem fewD_enc_at {p : ProgT} {k : Nat} (hk : k < p.defs.length) : ((p.defs.take (k + 1)).map fewD).flatMap DefT.enc = ((p.defs.take k).map fewD).flatMap DefT.enc ++ (fewD p.defs[k]).enc := by
  rw [List.take_succ_eq_append_getElem hk, List.map_append, List.flatMap_append]; simp
end Xe
