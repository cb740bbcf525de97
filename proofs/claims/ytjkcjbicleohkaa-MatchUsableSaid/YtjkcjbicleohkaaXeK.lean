/-
  THE ENGINE, PART K: maps whose keys are structs of numbers; function values. No program in sight.
-/
import Derived.Test.YtjkcjbicleohkaaXeJ
namespace Xe
open Go

/-- Keys of this type may be asked for, and tell each other apart as eq says. -/
structure KeyOk (P : Program) (kt : TypeId) {κ : Type} [DecidableEq κ] (kv : κ → Value) : Prop where
  kind : ∃ fs, P.underlying kt = some (.struct fs)
  check : ∀ k b w, (Instr.checkKey b 10000 kt (kv k)).run P w = .ok () w
  eq : ∀ k k' w, (Op.equal kt (kv k) (kv k')).run P w = .ok (decide (k = k')) w

variable {P : Program} {κ : Type} [DecidableEq κ] {kv : κ → Value}

def findK (k : κ) : List (κ × Value) → Option Value
  | [] => none
  | p :: l => if k = p.1 then some p.2 else findK k l
abbrev kvs (kv : κ → Value) (l : List (κ × Value)) : List (Value × Value) := l.map fun p => (kv p.1, p.2)

theorem run_findAsking {kt : TypeId} (hK : KeyOk P kt kv) (k : κ) : ∀ (l : List (κ × Value)) (es : List MapEntry) (i : Nat) (w : World), es.map (fun e => (e.key, e.val)) = kvs kv l →
    ∃ r : Option (Nat × Value), (Instr.findAsking kt (kv k) es i).run P w = .ok r w ∧ r.map (·.2) = findK k l
  | [], [], i, w, _ => ⟨none, by simp [Instr.findAsking], rfl⟩
  | p :: l, e :: es, i, w, h => by
    simp only [kvs, List.map_cons, List.cons.injEq, Prod.mk.injEq] at h
    obtain ⟨⟨h0, h00⟩, ht⟩ := h
    have h1 := hK.eq k p.1 w
    by_cases he : k = p.1
    · refine ⟨some (i, e.val), ?_, by simp [findK, he, h00]⟩
      rw [decide_eq_true he] at h1
      simp only [Instr.findAsking, h0]
      simp [h1]
    · obtain ⟨r, h2, h3⟩ := run_findAsking hK k l es (i + 1) w ht
      rw [decide_eq_false he] at h1
      refine ⟨r, ?_, by simp only [findK]; rw [if_neg he]; exact h3⟩
      simp only [Instr.findAsking, h0]
      simp [h1, h2]
  | [], _ :: _, _, _, h => by simp [kvs] at h
  | _ :: _, [], _, _, h => by simp [kvs] at h
theorem run_findKey {kt : TypeId} (hK : KeyOk P kt kv) (k : κ) (l : List (κ × Value)) (es : List MapEntry) (w : World) (h : es.map (fun e => (e.key, e.val)) = kvs kv l) :
    ∃ r : Option (Nat × Value), (Instr.findKey kt (kv k) es).run P w = .ok r w ∧ r.map (·.2) = findK k l := by
  obtain ⟨fs, hfs⟩ := hK.kind
  obtain ⟨r, h1, h2⟩ := run_findAsking hK k l es 0 w h
  cases es with
  | nil =>
    refine ⟨none, by simp [Instr.findKey, run_underlying hfs, Instr.findNow], ?_⟩
    cases l with
    | nil => rfl
    | cons p l => simp [kvs] at h
  | cons e es =>
    refine ⟨r, ?_, h2⟩
    simp [Instr.findKey, run_underlying hfs, Instr.findNow, Instr.sameNow, h1]

def mapB (P : Program) (t k e : Nat) : Bool := match P.underlying t with
  | some (.map k' e') => Nat.beq k k' && Nat.beq e e'
  | _ => false
theorem mapB_spec {t k e : Nat} (h : mapB P t k e = true) : P.underlying t = some (.map k e) := by
  unfold mapB at h
  cases hu : P.underlying t with
  | none => simp [hu] at h
  | some d =>
    rw [hu] at h
    cases d <;> simp at h
    obtain ⟨h1, h2⟩ := h
    rw [h1, h2]

section
variable {w0 : World} {L : Lm} {M : Mem} {Γ : List As} {d : Option Nat} {ty : TypeId} {pos : String} {af : Array Edge} {g : Option (Nat × Bool)}
theorem run_lookup {w : World} {t kt e b : Nat} {l : List (κ × Value)} {k : κ} {z : Value} (hK : KeyOk P kt kv) (ht : mapB P t kt e = true) (hz : zeroB P e = some z) (hw : St w0 M Γ w) (hm : As.mp b (kvs kv l) ∈ Γ) (cm : Bool) :
    (Instr.lookup t (.map (some b)) (kv k) cm).run P w = .ok (if cm then .tuple #[(findK k l).getD z, .bool (findK k l).isSome] else (findK k l).getD z) w := by
  obtain ⟨hM, es, clock, hb, hes⟩ := hw.all _ hm
  obtain ⟨r, h1, h2⟩ := run_findKey hK k l es.toList w hes
  have h3 := fun b => hK.check k b w
  have h4 : (getObj b).run P w = .ok (.map es clock) w := MapKept.run_getObj_map hb
  rw [← h2]
  cases r with
  | none => cases cm <;> simp [Instr.lookup, run_underlying (mapB_spec ht), h4, h3, h1, run_zeroB hz]
  | some r => cases cm <;> simp [Instr.lookup, run_underlying (mapB_spec ht), h4, h3, h1]
theorem Y.lookup {x y : Operand} {t kt e b : Nat} {l : List (κ × Value)} {k : κ} {z : Value} (hx : evL L x = some (.map (some b))) (hy : evL L y = some (kv k)) (hK : KeyOk P kt kv) (ht : mapB P t kt e = true) (hz : zeroB P e = some z) (hm : As.mp b (kvs kv l) ∈ Γ) :
    Yq P w0 L M Γ ⟨d, .lookup t x y false, ty, pos, af, g⟩ ((findK k l).getD z) := fun n a w ha hw => by
  have := run_lookup (k := k) hK ht hz hw hm false
  simp only [Bool.false_eq_true, if_false] at this
  simp [execOp, ha.ev hx, ha.ev hy, this]
theorem Y.lookup2 {x y : Operand} {t kt e b : Nat} {l : List (κ × Value)} {k : κ} {z : Value} (hx : evL L x = some (.map (some b))) (hy : evL L y = some (kv k)) (hK : KeyOk P kt kv) (ht : mapB P t kt e = true) (hz : zeroB P e = some z) (hm : As.mp b (kvs kv l) ∈ Γ) :
    Yq P w0 L M Γ ⟨d, .lookup t x y true, ty, pos, af, g⟩ (.tuple [(findK k l).getD z, .bool (findK k l).isSome].toArray) := fun n a w ha hw => by
  have := run_lookup (k := k) hK ht hz hw hm true
  simp only [if_true] at this
  simp [execOp, ha.ev hx, ha.ev hy, this]
theorem Y.makeFunc {f : FuncId} {first cap : List Operand} {vs us : List Value} (h1 : evs L first = some vs) (h2 : evs L cap = some us) :
    Yq P w0 L M Γ ⟨d, .makeFunc (.func f) first.toArray cap.toArray, ty, pos, af, g⟩ (.func (.func f) vs.toArray us.toArray) := fun n a w ha _ => by
  have e1 : first.toArray.map a.eval = vs.toArray := by rw [List.map_toArray, ha.evs h1]
  have e2 : cap.toArray.map a.eval = us.toArray := by rw [List.map_toArray, ha.evs h2]
  simp [execOp, Instr.makeFunc, e1, e2]
end

section
variable {n : Nat} {w0 : World} {ops : Array Oper} {rest : List Oper} {L : Lm} {M : Mem} {Γ : List As} {K : Lm → Mem → List As → Prop} {ty : TypeId} {pos : String} {af : Array Edge} {d : Nat}
theorem St.newMap {w : World} (h : St w0 M Γ w) : St w0 M (.mp w.heap.size [] :: Γ) { w with heap := w.heap.push (.map #[] 0) } := by
  have hold : ∀ b, b < w.heap.size → (w.heap.push (.map #[] 0))[b]? = w.heap[b]? := fun b hb => by
    rw [Array.getElem?_push, if_neg (by omega)]
  refine ⟨h.os, h.tape, h.output, by simp; have := h.size; omega, fun b o hb => ?_, fun x hx => ?_, ?_⟩
  · rw [hold b (h.lt hb)]; exact h.mem b o hb
  · rcases List.mem_cons.1 hx with rfl | hx
    · exact ⟨h.fresh, #[], 0, by simp, rfl⟩
    · exact As.ok_keep (h.all x hx) (Sub.refl M) fun b hb => ⟨hold b (As.ok_blk_lt (h.all x hx) hb).1, (As.ok_blk_lt (h.all x hx) hb).2⟩
  · simp only [List.filterMap_cons, As.blk]
    refine List.nodup_cons.2 ⟨fun hm => ?_, h.nodup⟩
    obtain ⟨x, hx, hb⟩ := List.mem_filterMap.1 hm
    have := (As.ok_blk_lt (h.all x hx) hb).1
    omega
theorem RL.makeMap {t : TypeId} (hd : Nat.blt d n = true)
    (h : ∀ b, RL P n w0 ops rest ((d, .map (some b)) :: L) M (.mp b [] :: Γ) K) : RL P n w0 ops (⟨some d, .makeMap t none, ty, pos, af, none⟩ :: rest) L M Γ K := by
  refine RL.e (fun v M' Γ' => ∃ b, v = .map (some b) ∧ M' = M ∧ Γ' = .mp b [] :: Γ) (fun n a w ha hw => ?_) hd ?_
  · refine ⟨.map (some w.heap.size), _, M, _, ?_, ⟨_, rfl, rfl, rfl⟩, hw.newMap⟩
    have : (Instr.makeMap t none).run P w = .ok (.map (some w.heap.size)) { w with heap := w.heap.push (.map #[] 0) } := rfl
    simp [execOp, this]
  · rintro v M' Γ' ⟨b, rfl, rfl, rfl⟩
    exact h b
/-- A key that is not there yet. -/
theorem RL.mapNew {t kt e b : Nat} {x y z : Operand} {l : List (κ × Value)} {k : κ} {v : Value} {Γ' : List As} (hx : evL L x = some (.map (some b))) (hy : evL L y = some (kv k)) (hz : evL L z = some v) (hK : KeyOk P kt kv) (ht : mapB P t kt e = true)
    (hr : Repl (.mp b (kvs kv l)) (.mp b (kvs kv (l ++ [(k, v)]))) Γ Γ') (hn : findK k l = none)
    (h : RL P n w0 ops rest L M Γ' K) : RL P n w0 ops (⟨none, .mapUpdate t x y z, ty, pos, af, none⟩ :: rest) L M Γ K := by
  refine RL.s (Γ' := Γ') (fun n a w ha hw => ?_) h
  obtain ⟨hM, es, clock, hb, hes⟩ := hw.all _ hr.mem
  obtain ⟨r, h1, h2⟩ := run_findKey hK k l es.toList w hes
  rw [hn] at h2
  have hr0 : r = none := by cases r <;> simp at h2 ⊢
  subst hr0
  have h3 := fun b => hK.check k b w
  have h4 : (getObj b).run P w = .ok (.map es clock) w := MapKept.run_getObj_map hb
  have hlt : b < w.heap.size := (Array.getElem?_eq_some_iff.1 hb).1
  refine ⟨{ w with heap := w.heap.setIfInBounds b (.map (es.push { key := kv k, val := v, born := clock }) (clock + 1)) }, ?_, ?_⟩
  · simp [execOp, ha.ev hx, ha.ev hy, ha.ev hz, Instr.mapUpdate, run_underlying (mapB_spec ht), h4, h3, h1, MapKept.run_setObj_map _ hb]
  · obtain ⟨R, p1, p2⟩ := hr.perm
    refine St.perm ?_ p2
    have hw1 := hw.perm p1
    have hne : ∀ c, c ≠ b → (w.heap.setIfInBounds b (.map (es.push { key := kv k, val := v, born := clock }) (clock + 1)))[c]? = w.heap[c]? := fun c hc => Array.getElem?_setIfInBounds_ne (by omega)
    have hnd := hw1.nodup
    simp only [List.filterMap_cons, As.blk] at hnd
    refine ⟨hw1.os, hw1.tape, hw1.output, by simp; exact hw1.size, fun c o hc => ?_, fun x hx => ?_, by simpa [List.filterMap_cons, As.blk] using hw1.nodup⟩
    · rw [hne c (fun e => by subst e; rw [hM] at hc; cases hc)]; exact hw1.mem c o hc
    · rcases List.mem_cons.1 hx with rfl | hm
      · exact ⟨hM, es.push { key := kv k, val := v, born := clock }, clock + 1, by simp [hlt], by simp [hes, kvs]⟩
      · have hx' := hw1.all x (List.mem_cons_of_mem _ hm)
        refine As.ok_keep hx' (Sub.refl M) fun c hc => ⟨hne c fun e => ?_, (As.ok_blk_lt hx' hc).2⟩
        subst e
        exact (List.nodup_cons.1 hnd).1 (mem_blk hm hc)
end
section
variable {n : Nat} {w0 : World} {ops : Array Oper} {rest : List Oper} {L : Lm} {M : Mem} {Γ : List As} {K : Lm → Mem → List As → Prop} {ty : TypeId} {pos : String} {af : Array Edge} {d : Nat}
/-- A function value's call, its arguments written out. -/
theorem RL.callfA {g : Option (Nat × Bool)} {f : FuncId} {y : Operand} {first captured : Array Value} {xs : List Operand} {ts : Array TypeId} {vs : List Value} {F : Post} (args : Array Value) (hg : Want ops L ⟨some d, .call ⟨.value y, xs.toArray, ts⟩, ty, pos, af, g⟩ true) (hf : funcB P f = true) (hy : evL L y = some (.func (.func f) first captured)) (hx : evs L xs = some vs) (hd : Nat.blt d n = true)
    (ha : first ++ vs.toArray ++ captured = args) (hc : CallOk P w0 M Γ f args F) (h : ∀ v M' Γ', F v M' Γ' → RL P n w0 ops rest ((d, v) :: L) M' Γ' K) :
    RL P n w0 ops (⟨some d, .call ⟨.value y, xs.toArray, ts⟩, ty, pos, af, g⟩ :: rest) L M Γ K := RL.callf hg hf hy hx hd (by rw [ha]; exact hc) h
end
theorem Turn.front {w0 : World} {M : Mem} {Γ R : List As} {x : As} {F : Mem → List As → Prop} (hp : Pick x Γ R) (h : Turn w0 M (x :: R) F) : Turn w0 M Γ F := fun w hw => h w (hw.perm hp.perm)
/-! ### Arrays, bools -/
def arrB (P : Program) (t n e sz : Nat) : Bool := (match P.underlying t with
  | some (.array n' e') => Nat.beq n n' && Nat.beq e e'
  | _ => false) && sizeB P e sz && Nat.blt 1 n
theorem arrB_spec {t n e sz : Nat} (h : arrB P t n e sz = true) : P.underlying t = some (.array n e) ∧ sizeB P e sz = true ∧ 1 < n := by
  unfold arrB at h
  simp only [Bool.and_eq_true] at h
  obtain ⟨⟨h1, h2⟩, h3⟩ := h
  refine ⟨?_, h2, by simpa [Nat.blt_eq] using h3⟩
  cases hu : P.underlying t with
  | none => simp [hu] at h1
  | some d =>
    rw [hu] at h1
    cases d <;> simp at h1
    obtain ⟨h4, h5⟩ := h1
    rw [h4, h5]
theorem Y.indexArr {w0 : World} {L : Lm} {M : Mem} {Γ : List As} {d : Option Nat} {ty : TypeId} {pos : String} {af : Array Edge} {g : Option (Nat × Bool)} {x i : Operand} {t e sz n : Nat} {a : Option Addr} {q : Nat} {ik : IntKind} {z : Int} (k : Nat) (hx : evL L x = some (.pointer (some (adr a q)))) (hi : evL L i = some (.int ik z)) (hz : z = (k : Int)) (hk : k < n)
    (ht : arrB P t n e sz = true) : Yq P w0 L M Γ ⟨d, .indexAddr t x i, ty, pos, af, g⟩ (.pointer (some (adr a (q + k * sz)))) := fun m ac w ha hw => by
  subst hz
  obtain ⟨h1, h2, h3⟩ := arrB_spec ht
  simp [execOp, ha.ev hx, ha.ev hi, Instr.indexAt, asIntOf, run_underlying h1, run_sizeB h2, hk, adr_add, Instr.sureAddr]
theorem Y.eqlB {w0 : World} {L : Lm} {M : Mem} {Γ : List As} {d : Option Nat} {ty : TypeId} {pos : String} {af : Array Edge} {g : Option (Nat × Bool)} {x y : Operand} {p q : Prop} [Decidable p] [Decidable q] {t : TypeId} (ht : P.underlying t = some .bool) (hx : evL L x = some (.bool (decide p))) (hy : evL L y = some (.bool (decide q))) :
    Yq P w0 L M Γ ⟨d, .binOp .eql t x y t, ty, pos, af, g⟩ (.bool (decide (p ↔ q))) := fun n a w ha _ => by
  simp only [execOp, ha.ev hx, ha.ev hy]
  have h : ∀ b c : Bool, (Op.equalIn 10000 t (.bool b) (.bool c)).run P w = .ok (b == c) w := fun b c => run_equalIn_bool w 9999 t b c ht
  by_cases h1 : p <;> by_cases h2 : q <;> simp [h1, h2, eqGuard, Go.binOp, Op.equal, Op.maxDepth, h]
theorem Y.loadAggAcc {w0 : World} {L : Lm} {M : Mem} {Γ : List As} {d : Option Nat} {ty : TypeId} {pos : String} {af : Array Edge} {g : Option (Nat × Bool)} {x : Operand} {t e sz : Nat} {a : Option Addr} {l c q : Nat} {us : List Value} (vs : List Value) (hx : evL L x = some (.pointer (some (adr a q)))) (hm : As.acc (.slice a l c) e sz l us ∈ Γ) (hq : ∀ j v, vs[j]? = some v → us[q + j]? = some v) (hf : aggB P t vs.length = true) :
    Yq P w0 L M Γ ⟨d, .load t x, ty, pos, af, g⟩ (.agg vs.toArray) := Y.loadAgg hx hf fun w hw j v hj => by
  rw [adr_add]
  exact (hw.acc_cell hm (hq j v hj)).2
/-! ### The ways through a region meet: one slot is written out -/
theorem CW.regionM1 {n : Nat} {w0 : World} {L : Lm} {M : Mem} {Γ : List As} {id : Nat} {X : Pst} {l : List Oper} (s : Nat) (v : Value) (h : RL P n w0 l.toArray l L M Γ (fun L1 M1 Γ1 => getL L1 s = some v ∧ Keep L1 L ∧ ∀ w, St w0 M1 Γ1 w → St w0 M Γ w)) (k : X .normal ((s, v) :: L) M Γ) : CW P n w0 (.region id l.toArray false) X L M Γ :=
  CW.regionM ((s, v) :: L) (fun R hR => h R fun L1 M1 Γ1 hX => hR L1 M1 Γ1 ⟨Keep.cons s hX.1 hX.2.1, hX.2.2⟩) k
theorem CW.regionQM1 {n : Nat} {w0 : World} {L : Lm} {M : Mem} {Γ : List As} {id : Nat} {X : Pst} {l : List Oper} (hm : P.follows .mixedOrders = true) (hB : Region.lexB .any l.toArray = true) (s : Nat) (v : Value) (h : QL P n w0 l.toArray Γ M l L Γ (fun L1 Γ1 => getL L1 s = some v ∧ Keep L1 L ∧ ∀ w, St w0 M Γ1 w → St w0 M Γ w)) (k : X .normal ((s, v) :: L) M Γ) : CW P n w0 (.region id l.toArray true) X L M Γ :=
  CW.regionQM hm hB ((s, v) :: L) (fun hex hC R hR => h hex hC R fun L1 Γ1 hX => hR L1 Γ1 ⟨Keep.cons s hX.1 hX.2.1, hX.2.2⟩) k
theorem gl {L : Lm} {s : Nat} {u v : Value} (h : getL L s = some u) (e : u = v) : getL L s = some v := by rw [h, e]
theorem Y.eqlBB {w0 : World} {L : Lm} {M : Mem} {Γ : List As} {d : Option Nat} {ty : TypeId} {pos : String} {af : Array Edge} {g : Option (Nat × Bool)} {x y : Operand} {p q : Bool} {t : TypeId} (ht : P.underlying t = some .bool) (hx : evL L x = some (.bool p)) (hy : evL L y = some (.bool q)) :
    Yq P w0 L M Γ ⟨d, .binOp .eql t x y t, ty, pos, af, g⟩ (.bool (p == q)) := fun n a w ha _ => by
  simp only [execOp, ha.ev hx, ha.ev hy]
  have h : ∀ b c : Bool, (Op.equalIn 10000 t (.bool b) (.bool c)).run P w = .ok (b == c) w := fun b c => run_equalIn_bool w 9999 t b c ht
  cases p <;> cases q <;> simp [eqGuard, Go.binOp, Op.equal, Op.maxDepth, h]
theorem bmerge {x : Bool} {p : Prop} [Decidable p] (h : x = true ↔ p) : Value.bool x = Value.bool (decide p) := by
  by_cases hp : p
  · rw [h.2 hp, decide_eq_true hp]
  · rw [decide_eq_false hp]; cases x
    · rfl
    · exact absurd (h.1 rfl) hp
theorem Y.buildArr {w0 : World} {L : Lm} {M : Mem} {Γ : List As} {d : Option Nat} {ty : TypeId} {pos : String} {af : Array Edge} {g : Option (Nat × Bool)} {t n e sz : Nat} {parts : List (Nat × Operand)} {vs : List (Nat × Value)} {zs : List Value} (out : List Value) (hp : pEv L parts = some vs) (hz : zeroB P t = some (.agg zs.toArray)) (ht : arrB P t n e sz = true)
    (hf : fillL (fun i => some (i * sz, sz)) zs (vs.map fun p => (p.1, cellsL p.2)) = some out) : Yq P w0 L M Γ ⟨d, .build t parts.toArray, ty, pos, af, g⟩ (.agg out.toArray) := fun m a w ha _ => by
  obtain ⟨h1, h2, _⟩ := arrB_spec ht
  have h3 : (parts.toArray.map fun x => (x.1, a.eval x.2)) = vs.toArray := by rw [List.map_toArray, ha.pEv hp]
  have h4 := fill_eq (fun i => some (i * sz, sz)) vs zs out hf
  simp only [execOp, h3]
  simp only [Instr.build, Sem.run_bind, run_zeroB hz, Result.andThen_ok, run_underlying h1, Value.cells, run_sizeB h2, h4, Sem.run_pure]
theorem Y.neqD {w0 : World} {L : Lm} {M : Mem} {Γ : List As} {d : Option Nat} {ty : TypeId} {pos : String} {af : Array Edge} {g : Option (Nat × Bool)} {x y : Operand} {p q : Prop} [Decidable p] [Decidable q] {t : TypeId} (ht : P.underlying t = some .bool) (hx : evL L x = some (.bool (decide p))) (hy : evL L y = some (.bool (decide q))) :
    Yq P w0 L M Γ ⟨d, .binOp .neq t x y t, ty, pos, af, g⟩ (.bool (decide (¬ (p ↔ q)))) := fun n a w ha _ => by
  simp only [execOp, ha.ev hx, ha.ev hy]
  have h : ∀ b c : Bool, (Op.equalIn 10000 t (.bool b) (.bool c)).run P w = .ok (b == c) w := fun b c => run_equalIn_bool w 9999 t b c ht
  by_cases h1 : p <;> by_cases h2 : q <;> simp [h1, h2, eqGuard, Go.binOp, Op.equal, Op.maxDepth, h]
section
theorem Y.lenMap {P : Program} {κ : Type} {kv : κ → Value} {w0 : World} {L : Lm} {M : Mem} {Γ : List As} {d : Option Nat} {ty : TypeId} {pos : String} {af : Array Edge} {g : Option (Nat × Bool)} {x : Operand} {t kt e b : Nat} {l : List (κ × Value)} (hx : evL L x = some (.map (some b))) (ht : mapB P t kt e = true) (hm : As.mp b (kvs kv l) ∈ Γ) :
    Yq P w0 L M Γ ⟨d, .call ⟨.builtin .len, #[x], #[t]⟩, ty, pos, af, g⟩ (.int .i64 (l.length : Int)) := fun n a w ha hw => by
  obtain ⟨hM, es, clock, hb, hes⟩ := hw.all _ hm
  have h4 : (getObj b).run P w = .ok (.map es clock) w := MapKept.run_getObj_map hb
  have h5 : es.size = l.length := by have := congrArg List.length hes; simpa using this
  simp [execOp, h5, resolve, invoke, Go.builtin, Builtin.len_, ha.ev hx, run_underlying (mapB_spec ht), h4, goInt]
end
end Xe
