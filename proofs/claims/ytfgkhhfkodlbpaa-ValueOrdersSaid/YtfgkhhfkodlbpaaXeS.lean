/-
  THE ENGINE, PART S: bytes and words, labels without a jump, room that is asked for. No program in sight.
-/
import Derived.Test.YtfgkhhfkodlbpaaXeR
import Derived.Scope
import Derived.Lib.AppendZeros
import Derived.Laws.Bits64b
namespace Xe
open Go

/-! ### Labels -/
def noGotoX (X : Pst) : Pst
  | .goto _, _, _, _ => False
  | e, L, M, Γ => X e L M Γ
theorem CW.scope {P : Program} {n : Nat} {w0 : World} {X : Pst} {L : Lm} {M : Mem} {Γ : List As} {c : Code} (h : CW P n w0 c (noGotoX X) L M Γ) : CW P n w0 (.scope c) X L M Γ := by
  intro a w ha hw
  refine wp_scope_straight (wp_mono (h a w ha hw) ?_)
  rintro e a w ⟨L, M, Γ, hX, h1, h2⟩
  cases e <;> first | exact hX.elim | exact ⟨L, M, Γ, hX, h1, h2⟩

/-- A region that turns two blocks. -/
theorem CW.regionHP2 {P : Program} {n : Nat} {w0 : World} {L : Lm} {M : Mem} {Γ : List As} {id : Nat} {X : Pst} {l : List Oper} {x y : As} {R R2 : List As} (hm : P.follows .mixedOrders = true) (hp : Pick x Γ R) (hp2 : Pick y R R2)
    (h : HL P n w0 l.toArray M R2 l.length (Array.replicate l.length false) L M Γ (X .normal)) : CW P n w0 (.region id l.toArray true) X L M Γ :=
  CW.regionH hm M R2 (fun _ hw => (((hw.perm hp.perm).sub (List.sublist_cons_self _ _)).perm hp2.perm).sub (List.sublist_cons_self _ _)) h

/-! ### Numbers of any kind -/
section
variable {P : Program} {w0 : World} {L : Lm} {M : Mem} {Γ : List As} {d : Option Nat} {ty : TypeId} {pos : String} {af : Array Edge} {g : Option (Nat × Bool)}
namespace Y
theorem lssK {ik : IntKind} {x y : Operand} {m k : Int} {t : TypeId} (hx : evL L x = some (.int ik m)) (hy : evL L y = some (.int ik k)) :
    Yq P w0 L M Γ ⟨d, .binOp .lss t x y t, ty, pos, af, g⟩ (.bool (decide (m < k))) := fun n a w ha _ => by
  simp [execOp, ha.ev hx, ha.ev hy, eqGuard, Go.binOp, Op.intCmp]
theorem gtrK {ik : IntKind} {x y : Operand} {m k : Int} {t : TypeId} (hx : evL L x = some (.int ik m)) (hy : evL L y = some (.int ik k)) :
    Yq P w0 L M Γ ⟨d, .binOp .gtr t x y t, ty, pos, af, g⟩ (.bool (decide (k < m))) := fun n a w ha _ => by
  simp [execOp, ha.ev hx, ha.ev hy, eqGuard, Go.binOp, Op.intCmp]
theorem eqlK {ik : IntKind} {x y : Operand} {m k : Int} {t : TypeId} (hx : evL L x = some (.int ik m)) (hy : evL L y = some (.int ik k)) :
    Yq P w0 L M Γ ⟨d, .binOp .eql t x y t, ty, pos, af, g⟩ (.bool (decide (m = k))) := fun n a w ha _ => by
  simp [execOp, ha.ev hx, ha.ev hy, eqGuard, Go.binOp, Op.intCmp]
  by_cases h : m = k <;> simp [h]
theorem neqK {ik : IntKind} {x y : Operand} {m k : Int} {t : TypeId} (hx : evL L x = some (.int ik m)) (hy : evL L y = some (.int ik k)) :
    Yq P w0 L M Γ ⟨d, .binOp .neq t x y t, ty, pos, af, g⟩ (.bool (decide (m ≠ k))) := fun n a w ha _ => by
  simp [execOp, ha.ev hx, ha.ev hy, eqGuard, Go.binOp, Op.intCmp]
  by_cases h : m = k <;> simp [h]
def intB (P : Program) (t : TypeId) (k : IntKind) : Bool := match P.underlying t with
  | some (.int k') => decide (k' = k)
  | _ => false
theorem intB_spec {t : TypeId} {k : IntKind} (h : intB P t k = true) : P.underlying t = some (.int k) := by
  unfold intB at h
  cases hu : P.underlying t with
  | none => simp [hu] at h
  | some dd =>
    rw [hu] at h
    cases dd <;> simp at h
    rw [h]
theorem convK {ik ik' : IntKind} {x : Operand} {m : Int} {s t : TypeId} (hs : intB P s ik = true) (ht : intB P t ik' = true) (hx : evL L x = some (.int ik m)) :
    Yq P w0 L M Γ ⟨d, .convert s t x, ty, pos, af, g⟩ (.int ik' (ik'.wrap m)) := fun n a w ha _ => by
  simp [execOp, ha.ev hx, Go.convert, run_underlying (intB_spec hs), run_underlying (intB_spec ht), Conv.intToInt]
theorem convTo {ik ik' : IntKind} {x : Operand} {m r : Int} {s t : TypeId} (hs : intB P s ik = true) (ht : intB P t ik' = true) (hx : evL L x = some (.int ik m)) (h : ik'.wrap m = r) :
    Yq P w0 L M Γ ⟨d, .convert s t x, ty, pos, af, g⟩ (.int ik' r) := h ▸ convK hs ht hx
end Y
end
theorem wrap_u8 (n : Int) : IntKind.u8.wrap n = n % 256 := by simp [IntKind.wrap, IntKind.bits, IntKind.signed]
theorem wrap_u64' (n : Int) : IntKind.u64.wrap n = n % 18446744073709551616 := IntKind.wrap_u64 n

/-! ### Bytes -/
abbrev vbyte (n : Nat) : Value := .int .u8 (n : Int)
abbrev dbyte (n : Nat) : D := .v (.int .u8 (n : Int))
abbrev vword (n : Nat) : Value := .int .u64 (n : Int)
abbrev byteV (l : List Nat) : List Value := l.map vbyte
def dbytes (l : List Nat) : D := .sl l.length 1 (l.map dbyte)
theorem dbyte_get {l : List Nat} {k : Nat} {n : Nat} (h : l[k]? = some n) : (l.map dbyte)[k * 1]? = some (dbyte n) := by simp [h]
theorem bytes_rd {M : Mem} (l : List Nat) : RdL M (l.map dbyte) (byteV l) := by
  have := RdL.vals (M := M) (vs := byteV l) (by
    intro v hv
    obtain ⟨z, _, rfl⟩ := List.mem_map.1 hv
    rfl)
  rw [byteV, List.map_map] at this
  exact this
theorem bytes_of_rd {M : Mem} : ∀ {l : List Nat} {us : List Value}, RdL M (l.map dbyte) us → us = byteV l
  | [], us, h => by have := h.1; exact List.eq_nil_of_length_eq_zero (by simpa using this)
  | n :: l, us, h => by
    cases us with
    | nil => have := h.1; simp at this
    | cons u us =>
      have h0 := h.2 0 (dbyte n) u rfl rfl
      simp only [Rd] at h0
      have h1 : RdL M (l.map dbyte) us := ⟨by have := h.1; simpa using this, fun k e x h1 h2 => h.2 (k + 1) e x (by simpa using h1) (by simpa using h2)⟩
      rw [bytes_of_rd h1, h0.1]; rfl
theorem bytes_one (l : List Nat) : ∀ u ∈ byteV l, u.oneCell' = true := fun u hu => by
  obtain ⟨z, _, rfl⟩ := List.mem_map.1 hu
  rfl
/-- A byte, or what is left to 255. -/
def flip8 (f a : Nat) : Nat := if f = 0 then a else 255 - a
theorem xor8_0 : ∀ n : Fin 256, bits .xor .u8 (n.val : Int) 0 = (n.val : Int) := by decide +kernel
theorem xor8_255 : ∀ n : Fin 256, bits .xor .u8 (n.val : Int) 255 = ((255 - n.val : Nat) : Int) := by decide +kernel
theorem flip8_lt {f a : Nat} (h : a < 256) : flip8 f a < 256 := by unfold flip8; split <;> omega
section
variable {P : Program} {w0 : World} {L : Lm} {M : Mem} {Γ : List As} {d : Option Nat} {ty : TypeId} {pos : String} {af : Array Edge} {g : Option (Nat × Bool)}
namespace Y
theorem xor8 {x y : Operand} {m f : Nat} {t : TypeId} (hx : evL L x = some (vbyte m)) (hy : evL L y = some (vbyte f)) (hm : m < 256) (hf : f = 0 ∨ f = 255) :
    Yq P w0 L M Γ ⟨d, .binOp .xor t x y t, ty, pos, af, g⟩ (vbyte (flip8 f m)) := fun n a w ha _ => by
  have e : bits .xor .u8 (m : Int) (f : Int) = ((flip8 f m : Nat) : Int) := by
    rcases hf with rfl | rfl
    · exact xor8_0 ⟨m, hm⟩
    · exact xor8_255 ⟨m, hm⟩
  simp only [execOp, ha.ev hx, ha.ev hy]
  simp [eqGuard, Go.binOp]
  rw [intBits_xor, e]
  simp
theorem not64 {x : Operand} {m : Nat} {t : TypeId} (hx : evL L x = some (vword m)) (hm : m < 18446744073709551616) :
    Yq P w0 L M Γ ⟨d, .unOp .xor t x, ty, pos, af, g⟩ (vword (18446744073709551615 - m)) := fun n a w ha _ => by
  have e : bits .xor .u64 (18446744073709551615 : Int) (m : Int) = ((18446744073709551615 - m : Nat) : Int) := by
    have h := bits_xor_u64_nat 18446744073709551615 m (by omega) hm
    have h2 : 18446744073709551615 ^^^ m = 18446744073709551615 - m := by
      have h3 : (BitVec.allOnes 64 ^^^ BitVec.ofNat 64 m).toNat = (~~~ BitVec.ofNat 64 m).toNat := by rw [BitVec.allOnes_xor]
      rw [BitVec.toNat_xor, BitVec.toNat_not, BitVec.toNat_allOnes, BitVec.toNat_ofNat, Nat.mod_eq_of_lt (by simpa using hm)] at h3
      simpa using h3
    rw [h2] at h
    exact h
  have hu : Op.unary .xor (.int .u64 (m : Int)) = Op.intBits .xor .u64 18446744073709551615 (m : Int) := rfl
  simp only [execOp, ha.ev hx, hu, intBits_xor, e]
  simp
theorem shl8 {x y : Operand} {m : Nat} {t t' : TypeId} (hx : evL L x = some (vword m)) (hy : evL L y = some (.int .u64 8)) :
    Yq P w0 L M Γ ⟨d, .binOp .shl t x y t', ty, pos, af, g⟩ (vword (m * 256 % 18446744073709551616)) := fun n a w ha _ => by
  have e : IntKind.u64.wrap ((m : Int) * 2 ^ (8 : Int).toNat) = ((m * 256 % 18446744073709551616 : Nat) : Int) := by
    rw [wrap_u64']; show ((m : Int) * 256) % _ = _; omega
  simp only [execOp, ha.ev hx, ha.ev hy]
  simp [eqGuard, Go.binOp]
  rw [shift_shl .u64 .u64 (m : Int) 8 (by decide) (by decide), e]
  simp
theorem shrN {ik : IntKind} {x y : Operand} {m : Nat} {s : Int} {t t' : TypeId} (j : Nat) (hx : evL L x = some (vword m)) (hy : evL L y = some (.int ik s)) (hs : s = (j : Int)) (hj : j ≤ 64) :
    Yq P w0 L M Γ ⟨d, .binOp .shr t x y t', ty, pos, af, g⟩ (vword (m / 2 ^ j)) := fun n a w ha _ => by
  subst hs
  have e : ((m : Int) / 2 ^ ((j : Int)).toNat) = ((m / 2 ^ j : Nat) : Int) := by
    rw [Int.toNat_natCast, Int.natCast_ediv]; congr 1 <;> simp
  simp only [execOp, ha.ev hx, ha.ev hy]
  simp [eqGuard, Go.binOp] <;> rw [shift_shr .u64 ik (m : Int) (j : Int) (by omega) (by simpa [IntKind.bits] using hj), e] <;> simp
theorem or8 {x y : Operand} {m c : Nat} {t : TypeId} (hx : evL L x = some (vword m)) (hy : evL L y = some (vword c)) (hm : m < 18446744073709551616) (h0 : m % 256 = 0) (hc : c < 256) :
    Yq P w0 L M Γ ⟨d, .binOp .or t x y t, ty, pos, af, g⟩ (vword (m + c)) := fun n a w ha _ => by
  have e : bits .or .u64 (m : Int) (c : Int) = ((m + c : Nat) : Int) := by
    rw [bits_or_u64_nat m c hm (by omega)]
    congr 1
    have h1 : m = (m / 256) <<< 8 := by rw [Nat.shiftLeft_eq]; omega
    rw [h1, ← Nat.shiftLeft_add_eq_or_of_lt (by simpa using hc)]
  simp only [execOp, ha.ev hx, ha.ev hy]
  simp [eqGuard, Go.binOp]
  rw [intBits_or, e]
  simp
end Y
end

/-! ### Room -/
theorem append_zeros {P : Program} {w0 w : World} {M : Mem} {Γ : List As} {t tn ty e sz bytes n : Nat} {kn : IntKind} (hE : ElemOk P t e sz bytes) (htn : P.underlying tn = some (.int kn)) (hw : St w0 M Γ w) (h0 : 0 < n) (hb : n * bytes ≤ 140737488355328) (hm : n ≤ lim) :
    ∃ b c us w', (Builtin.append_ #[t, tn] ty #[.slice none 0 0, .int .i64 n]).run P w = .ok (.slice (some ⟨b, 0, none⟩) n c) w' ∧ us.length = n * sz ∧ n ≤ c ∧ St w0 M (.acc (.slice (some ⟨b, 0, none⟩) n c) e sz n us :: Γ) w' := by
  obtain ⟨ht, ⟨i, z, hi, hz, hsize, hby, hzs⟩, hpos⟩ := hE
  subst hsize hby
  have hlm : lim = 140737488355328 := rfl
  have hr := Lib.run_append_nil_zeros (P := P) w t tn ty e i z .i64 kn ht htn hi hz n h0 hpos (by omega) (by omega)
  have hc1 := grownCap_ge w n 0 e
  have hc2 := grownCap_le_maxLen w n 0 e (by unfold maxLen; omega)
  refine ⟨w.heap.size, grownCap w n 0 e, (Builtin.zeroCells z.cells n).toList, _, hr, by rw [Array.length_toList, size_zeroCells, hzs], hc1, ?_⟩
  have h5 := (hw.draw (w.drawn + 1)).alloc e (Builtin.zeroCells z.cells n ++ Builtin.zeroCells z.cells (grownCap w n 0 e - n)).toList
  have h6 : St w0 M (.own w.heap.size e (Builtin.zeroCells z.cells n ++ Builtin.zeroCells z.cells (grownCap w n 0 e - n)).toList :: Γ) (w.drew.alloc (.cells (Builtin.zeroCells z.cells n ++ Builtin.zeroCells z.cells (grownCap w n 0 e - n)) e (0, 0))) := by
    have : (Builtin.zeroCells z.cells n ++ Builtin.zeroCells z.cells (grownCap w n 0 e - n)).toList.toArray = (Builtin.zeroCells z.cells n ++ Builtin.zeroCells z.cells (grownCap w n 0 e - n)) := by simp
    rw [this] at h5
    exact h5
  refine St.own_acc2 h6 (by rw [Array.length_toList, size_zeroCells, hzs]) ?_ ?_ hc1 hc2
  · rw [Array.toList_append, List.length_append, Array.length_toList, Array.length_toList, size_zeroCells, size_zeroCells, hzs, ← Nat.add_mul]
    congr 1
    omega
  · rw [Array.toList_append, List.take_append_of_le_length (by rw [Array.length_toList, size_zeroCells, hzs]; exact Nat.le_refl _), List.take_of_length_le (by rw [Array.length_toList, size_zeroCells, hzs]; exact Nat.le_refl _)]
theorem RL.appendZeros {P : Program} {n : Nat} {w0 : World} {ops : Array Oper} {rest : List Oper} {L : Lm} {M : Mem} {Γ : List As} {K : Lm → Mem → List As → Prop} {ty : TypeId} {pos : String} {af : Array Edge} {d : Nat} {t tn e sz bytes : Nat} {kn : IntKind} {x y : Operand} {z : Int} (k : Nat)
    (hE : ElemOk P t e sz bytes) (htn : P.underlying tn = some (.int kn)) (hx : evL L x = some (.slice none 0 0)) (hy : evL L y = some (.int .i64 z)) (hz : z = (k : Int)) (h0 : 0 < k) (hb : k * bytes ≤ 140737488355328) (hm : k ≤ lim) (hd : Nat.blt d n = true)
    (h : ∀ b c us, us.length = k * sz → k ≤ c → RL P n w0 ops rest ((d, .slice (some ⟨b, 0, none⟩) k c) :: L) M (.acc (.slice (some ⟨b, 0, none⟩) k c) e sz k us :: Γ) K) : RL P n w0 ops (⟨some d, .call ⟨.builtin .append, #[x, y], #[t, tn]⟩, ty, pos, af, none⟩ :: rest) L M Γ K := by
  subst hz
  refine RL.e (fun v M' Γ' => ∃ b c us, v = .slice (some ⟨b, 0, none⟩) k c ∧ us.length = k * sz ∧ k ≤ c ∧ M' = M ∧ Γ' = .acc v e sz k us :: Γ) (fun n a w ha hw => ?_) hd ?_
  · obtain ⟨b, c, us, w', h1, h2, h3, h4⟩ := append_zeros (P := P) (ty := ty) hE htn hw h0 hb hm
    refine ⟨_, w', M, _, ?_, ⟨b, c, us, rfl, h2, h3, rfl, rfl⟩, h4⟩
    simp [execOp, resolve, invoke, Go.builtin, ha.ev hx, ha.ev hy, h1]
  · rintro v M' Γ' ⟨b, c, us, rfl, h2, h3, rfl, rfl⟩
    exact h b c us h2 h3
section
variable {P : Program} {w0 : World} {L : Lm} {M : Mem} {Γ : List As} {d : Option Nat} {ty : TypeId} {pos : String} {af : Array Edge} {g : Option (Nat × Bool)}
theorem Y.cap {x : Operand} {t : TypeId} {a : Option Addr} {k c : Nat} {e : Nat} (hx : evL L x = some (.slice a k c)) (ht : P.underlying t = some (.slice e)) :
    Yq P w0 L M Γ ⟨d, .call ⟨.builtin .cap, #[x], #[t]⟩, ty, pos, af, g⟩ (.int .i64 (c : Int)) := fun n a w ha _ => by
  simp [execOp, resolve, invoke, Go.builtin, Builtin.cap_, ha.ev hx, run_underlying ht, goInt]
end
end Xe
