/-
  THE ENGINE, PART T: tests whose outcome is known; bytes as text; text compared. No program in sight.
-/
import Derived.Test.YtfgkhhfkodlbpaaXeS
namespace Xe
open Go

section
variable {P : Program} {n : Nat} {w0 : World} {ops : Array Oper} {rest : List Oper} {L : Lm} {M : Mem} {Γ : List As}
theorem Y.litB (b : Bool) {o : Oper} {v : Value} (h : Yq P w0 L M Γ o v) (e : v = .bool b) : Yq P w0 L M Γ o (.bool b) := e ▸ h
theorem CallOk.val {f : FuncId} {args : Array Value} {v v' : Value} (h : CallOk P w0 M Γ f args (Is M Γ v)) (e : v = v') : CallOk P w0 M Γ f args (Is M Γ v') := e ▸ h
/-- An operation whose guard lets it run is the operation without a guard. -/
theorem RL.unguard {op : Op} {ty : TypeId} {pos : String} {after : Array Edge} {g : Nat × Bool} {d : Option Nat} {K : Lm → Mem → List As → Prop} (hg : Want ops L ⟨d, op, ty, pos, after, some g⟩ true)
    (h : RL P n w0 ops (⟨d, op, ty, pos, after, none⟩ :: rest) L M Γ K) : RL P n w0 ops (⟨d, op, ty, pos, after, some g⟩ :: rest) L M Γ K := by
  intro R hR a w ha hw
  have h1 := h R hR a w ha hw
  unfold wpList at h1 ⊢
  rw [if_pos (hg.spec ha)]
  rw [if_pos (by simp [Region.wanted])] at h1
  exact h1
end
def strOf (ns : List Nat) : ByteArray := (ns.map fun k : Nat => (k : Int)).foldl (fun r z => r.push (UInt8.ofNat z.toNat)) ByteArray.empty
def byteB (P : Program) (src dst : TypeId) : Bool := match P.underlying src, P.underlying dst with
  | some (.slice e), some .string => match P.underlying e with
    | some (.int .u8) => true
    | _ => false
  | _, _ => false
theorem byteB_spec {P : Program} {src dst : TypeId} (h : byteB P src dst = true) : ∃ e, P.underlying src = some (.slice e) ∧ P.underlying e = some (.int .u8) ∧ P.underlying dst = some .string := by
  unfold byteB at h
  split at h
  · rename_i e h1 h2
    split at h
    · rename_i h3
      exact ⟨e, h1, h3, h2⟩
    · cases h
  · cases h
section
variable {P : Program} {w0 : World} {L : Lm} {M : Mem} {Γ : List As} {d : Option Nat} {ty : TypeId} {pos : String} {af : Array Edge} {g : Option (Nat × Bool)}
theorem toList_ne {s t : ByteArray} (h : ¬ s = t) : ¬ s.toList = t.toList := fun e => h (by
  rw [ByteArray.toList_eq, ByteArray.toList_eq] at e
  exact ByteArray.ext (Array.toList_inj.mp e))
namespace Y
theorem convS {x : Operand} {src dst : TypeId} {a : Addr} {m c : Nat} (ns : List Nat) (hx : evL L x = some (.slice (some a) m c)) (hn : ns.length = m) (hb : byteB P src dst = true)
    (hc : ∀ w, St w0 M Γ w → ∀ j v, (byteV ns)[j]? = some v → w.cell? (a.add j) = some v) : Yq P w0 L M Γ ⟨d, .convert src dst x, ty, pos, af, g⟩ (.string (strOf ns)) := fun n ac w ha hw => by
  obtain ⟨e, h1, h2, h3⟩ := byteB_spec hb
  have r1 := run_convert_bytes_string (P := P) w src dst e (some a) m c h1 h2 h3
  have r2 := run_bytesToString (P := P) w a m c (ns.map fun k : Nat => (k : Int)) (by
    have h := run_loadCells_list (P := P) w a (byteV ns) (hc w hw)
    rw [show (byteV ns).length = m by simp [hn]] at h
    rw [h]
    simp [List.map_map, Function.comp_def])
  simp only [execOp, ha.ev hx]
  simp only [Sem.run_bind, r1, r2]
  rfl
theorem convSRd {x : Operand} {src dst : TypeId} {a : Addr} {c : Nat} (ns : List Nat) (hx : evL L x = some (.slice (some a) ns.length c)) (hm : As.rd (dbytes ns) (.slice (some a) ns.length c) ∈ Γ) (hb : byteB P src dst = true) :
    Yq P w0 L M Γ ⟨d, .convert src dst x, ty, pos, af, g⟩ (.string (strOf ns)) := convS ns hx rfl hb fun w hw j v hj => by
  obtain ⟨k, hk, rfl⟩ : ∃ k, ns[j]? = some k ∧ vbyte k = v := by simpa using hj
  obtain ⟨u, h1, h2⟩ := hw.rd_cell (q := j) (e := dbyte k) hm (by simp [hk])
  have h3 := hw.cell h1
  simp only [dbyte, Rd] at h2
  rw [h2.1] at h3
  exact h3
theorem convSOwn {x : Operand} {src dst : TypeId} {b e m c : Nat} (ns : List Nat) (hx : evL L x = some (.slice (some ⟨b, 0, none⟩) m c)) (hn : ns.length = m) (hm : As.own b e (byteV ns) ∈ Γ) (hb : byteB P src dst = true) :
    Yq P w0 L M Γ ⟨d, .convert src dst x, ty, pos, af, g⟩ (.string (strOf ns)) := convS ns hx hn hb fun w hw j v hj => by
  exact hw.own_cell hm hj
theorem eqlS {x y : Operand} {s t : ByteArray} {u : TypeId} (hx : evL L x = some (.string s)) (hy : evL L y = some (.string t)) :
    Yq P w0 L M Γ ⟨d, .binOp .eql u x y u, ty, pos, af, g⟩ (.bool (decide (s = t))) := fun n a w ha _ => by
  simp [execOp, ha.ev hx, ha.ev hy, eqGuard, Go.binOp, Op.stringOp]
  by_cases h : s = t
  · simp [h]
  · simp [h, toList_ne h]
theorem neqS {x y : Operand} {s t : ByteArray} {u : TypeId} (hx : evL L x = some (.string s)) (hy : evL L y = some (.string t)) :
    Yq P w0 L M Γ ⟨d, .binOp .neq u x y u, ty, pos, af, g⟩ (.bool (decide (s ≠ t))) := fun n a w ha _ => by
  simp [execOp, ha.ev hx, ha.ev hy, eqGuard, Go.binOp, Op.stringOp]
  by_cases h : s = t
  · simp [h]
  · simp [h, toList_ne h]
end Y
end
end Xe
