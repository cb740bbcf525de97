/-
  THE ENGINE, PART C: regions, one operation after the other; entering a function; calls. No program in sight.
-/
import Derived.Test.YtjkcjbicleohkaaXeB
namespace Xe
open Go

/-- What a call leaves: a value, memory. -/
abbrev Post := Value → Mem → List As → Prop
def RetP (w0 : World) (R : Post) (e : Ending) (w' : World) : Prop := ∃ v M Γ, e = .returned v ∧ R v M Γ ∧ St w0 M Γ w'

/-- The contract of a call from such a state. -/
def CallOk (P : Program) (w0 : World) (M : Mem) (Γ : List As) (f : FuncId) (args : Array Value) (R : Post) : Prop :=
  ∀ w, St w0 M Γ w → Calls P f args w (RetP w0 R)

/-! ### A region in the order of the text -/

def RL (P : Program) (n : Nat) (w0 : World) (ops : Array Oper) (rest : List Oper) (L : Lm) (M : Mem) (Γ : List As) (K : Lm → Mem → List As → Prop) : Prop :=
  ∀ R : Exit → Act → World → Prop, (∀ L M Γ, K L M Γ → ∀ a w, Sat n L a → St w0 M Γ w → R .normal a w) → ∀ a w, Sat n L a → St w0 M Γ w → wpList P ops R rest a w

/-- In whatever such state the operation yields v and does nothing else. -/
def Yq (P : Program) (w0 : World) (L : Lm) (M : Mem) (Γ : List As) (o : Oper) (v : Value) : Prop :=
  ∀ n a w, Sat n L a → St w0 M Γ w → (execOp a.eval o).run P w = .ok (.value v) w

/-- The operation's guard lets it run. -/
def Want (ops : Array Oper) (L : Lm) (o : Oper) (b : Bool) : Prop :=
  match o.guard with
  | none => b = true
  | some (j, want) => ∃ t x, (ops[j]?).bind (·.dst) = some t ∧ getL L t = some (.bool x) ∧ b = (x == want)

theorem Want.spec {ops : Array Oper} {L : Lm} {o : Oper} {b : Bool} (h : Want ops L o b) {n : Nat} {a : Act} (ha : Sat n L a) : Region.wanted o (yielded ops a.tmps) = b := by
  unfold Want at h
  unfold Region.wanted
  split at h
  · rename_i hg
    rw [hg]; exact h.symm
  · rename_i j want hg
    obtain ⟨t, x, ht, hx, rfl⟩ := h
    rw [hg]
    have := ha.get t _ hx
    simp only [yielded, ht, Option.bind_some, this]
    cases x <;> cases want <;> rfl

section
variable {P : Program} {n : Nat} {w0 : World} {ops : Array Oper} {rest : List Oper} {L : Lm} {M : Mem} {Γ : List As} {K : Lm → Mem → List As → Prop}

theorem RL.nil (h : K L M Γ) : RL P n w0 ops [] L M Γ K := fun _ hR a w ha hw => hR L M Γ h a w ha hw

theorem RL.pre {L' : Lm} {M' : Mem} {Γ' : List As} (hL : Keep L L') (hG : ∀ w, St w0 M Γ w → St w0 M' Γ' w) (h : RL P n w0 ops rest L' M' Γ' K) : RL P n w0 ops rest L M Γ K :=
  fun R hR a w ha hw => h R hR a w (ha.keep hL) (hG w hw)

theorem RL.know {F : Prop} (hF : ∀ w, St w0 M Γ w → F) (h : F → RL P n w0 ops rest L M Γ K) : RL P n w0 ops rest L M Γ K :=
  fun R hR a w ha hw => h (hF w hw) R hR a w ha hw

theorem RL.turn {F : Mem → List As → Prop} (ht : Turn w0 M Γ F) (h : ∀ M' Γ', F M' Γ' → RL P n w0 ops rest L M' Γ' K) : RL P n w0 ops rest L M Γ K :=
  fun R hR a w ha hw => let ⟨M', Γ', hF, hw'⟩ := ht w hw; h M' Γ' hF R hR a w ha hw'

/-- A quiet operation without a guard. -/
theorem RL.q {op : Op} {ty : TypeId} {pos : String} {after : Array Edge} {d : Nat} {v : Value} (hy : Yq P w0 L M Γ ⟨some d, op, ty, pos, after, none⟩ v) (hd : Nat.blt d n = true)
    (h : RL P n w0 ops rest ((d, v) :: L) M Γ K) : RL P n w0 ops (⟨some d, op, ty, pos, after, none⟩ :: rest) L M Γ K := by
  intro R hR a w ha hw
  unfold wpList
  rw [if_pos (by simp [Region.wanted])]
  refine .inl ?_
  unfold Oper.wp
  rw [hy n a w ha hw]
  exact h R hR _ _ (ha.put hd) hw

/-- .. with one that lets it run. -/
theorem RL.qg {op : Op} {ty : TypeId} {pos : String} {after : Array Edge} {g : Nat × Bool} {d : Nat} {v : Value} (hg : Want ops L ⟨some d, op, ty, pos, after, some g⟩ true) (hy : Yq P w0 L M Γ ⟨some d, op, ty, pos, after, some g⟩ v) (hd : Nat.blt d n = true)
    (h : RL P n w0 ops rest ((d, v) :: L) M Γ K) : RL P n w0 ops (⟨some d, op, ty, pos, after, some g⟩ :: rest) L M Γ K := by
  intro R hR a w ha hw
  unfold wpList
  rw [if_pos (hg.spec ha)]
  refine .inl ?_
  unfold Oper.wp
  rw [hy n a w ha hw]
  exact h R hR _ _ (ha.put hd) hw

/-- .. with one that does not. -/
theorem RL.no {op : Op} {ty : TypeId} {pos : String} {after : Array Edge} {g : Nat × Bool} {d : Nat} (hg : Want ops L ⟨some d, op, ty, pos, after, some g⟩ false) (hd : Nat.blt d n = true)
    (h : RL P n w0 ops rest ((d, undef) :: L) M Γ K) : RL P n w0 ops (⟨some d, op, ty, pos, after, some g⟩ :: rest) L M Γ K := by
  intro R hR a w ha hw
  unfold wpList
  rw [if_neg (by rw [hg.spec ha]; simp)]
  exact h R hR _ _ (ha.put hd) hw

/-- .. whatever its guard, where it lets it run. -/
theorem RL.qw {op : Op} {ty : TypeId} {pos : String} {after : Array Edge} {g : Option (Nat × Bool)} {d : Nat} {v : Value} (hg : Want ops L ⟨some d, op, ty, pos, after, g⟩ true) (hy : Yq P w0 L M Γ ⟨some d, op, ty, pos, after, g⟩ v) (hd : Nat.blt d n = true)
    (h : RL P n w0 ops rest ((d, v) :: L) M Γ K) : RL P n w0 ops (⟨some d, op, ty, pos, after, g⟩ :: rest) L M Γ K := by
  intro R hR a w ha hw
  unfold wpList
  rw [if_pos (hg.spec ha)]
  refine .inl ?_
  unfold Oper.wp
  rw [hy n a w ha hw]
  exact h R hR _ _ (ha.put hd) hw

/-- A test: the two ways part here. -/
theorem RL.qs {op : Op} {ty : TypeId} {pos : String} {after : Array Edge} {d : Nat} {p : Prop} [Decidable p] (hy : Yq P w0 L M Γ ⟨some d, op, ty, pos, after, none⟩ (.bool (decide p))) (hd : Nat.blt d n = true)
    (h1 : p → RL P n w0 ops rest ((d, .bool true) :: L) M Γ K) (h2 : ¬ p → RL P n w0 ops rest ((d, .bool false) :: L) M Γ K) : RL P n w0 ops (⟨some d, op, ty, pos, after, none⟩ :: rest) L M Γ K := by
  by_cases hp : p
  · rw [decide_eq_true hp] at hy; exact RL.q hy hd (h1 hp)
  · rw [decide_eq_false hp] at hy; exact RL.q hy hd (h2 hp)
theorem RL.qgs {op : Op} {ty : TypeId} {pos : String} {after : Array Edge} {g : Nat × Bool} {d : Nat} {p : Prop} [Decidable p] (hg : Want ops L ⟨some d, op, ty, pos, after, some g⟩ true) (hy : Yq P w0 L M Γ ⟨some d, op, ty, pos, after, some g⟩ (.bool (decide p))) (hd : Nat.blt d n = true)
    (h1 : p → RL P n w0 ops rest ((d, .bool true) :: L) M Γ K) (h2 : ¬ p → RL P n w0 ops rest ((d, .bool false) :: L) M Γ K) : RL P n w0 ops (⟨some d, op, ty, pos, after, some g⟩ :: rest) L M Γ K := by
  by_cases hp : p
  · rw [decide_eq_true hp] at hy; exact RL.qg hg hy hd (h1 hp)
  · rw [decide_eq_false hp] at hy; exact RL.qg hg hy hd (h2 hp)

/-- An operation that turns memory: from each such state, a value and a state anew. -/
theorem RL.e {op : Op} {ty : TypeId} {pos : String} {after : Array Edge} {d : Nat} (F : Value → Mem → List As → Prop)
    (hy : ∀ n a w, Sat n L a → St w0 M Γ w → ∃ v w' M' Γ', (execOp a.eval ⟨some d, op, ty, pos, after, none⟩).run P w = .ok (.value v) w' ∧ F v M' Γ' ∧ St w0 M' Γ' w') (hd : Nat.blt d n = true)
    (h : ∀ v M' Γ', F v M' Γ' → RL P n w0 ops rest ((d, v) :: L) M' Γ' K) : RL P n w0 ops (⟨some d, op, ty, pos, after, none⟩ :: rest) L M Γ K := by
  intro R hR a w ha hw
  unfold wpList
  rw [if_pos (by simp [Region.wanted])]
  refine .inl ?_
  unfold Oper.wp
  obtain ⟨v, w', M', Γ', hr, hF, hw'⟩ := hy n a w ha hw
  rw [hr]
  exact h v M' Γ' hF R hR _ _ (ha.put hd) hw'

/-- A store. -/
theorem RL.s {op : Op} {ty : TypeId} {pos : String} {after : Array Edge} {Γ' : List As}
    (hy : ∀ n a w, Sat n L a → St w0 M Γ w → ∃ w', (execOp a.eval ⟨none, op, ty, pos, after, none⟩).run P w = .ok .skip w' ∧ St w0 M Γ' w')
    (h : RL P n w0 ops rest L M Γ' K) : RL P n w0 ops (⟨none, op, ty, pos, after, none⟩ :: rest) L M Γ K := by
  intro R hR a w ha hw
  unfold wpList
  rw [if_pos (by simp [Region.wanted])]
  refine .inl ?_
  unfold Oper.wp
  obtain ⟨w', hr, hw'⟩ := hy n a w ha hw
  rw [hr]
  exact h R hR _ _ ha hw'

/-- A call. -/
theorem RL.c {op : Op} {ty : TypeId} {pos : String} {after : Array Edge} {g : Option (Nat × Bool)} {d : Nat} {f : FuncId} {args : Array Value} {F : Post} (hg : Want ops L ⟨some d, op, ty, pos, after, g⟩ true)
    (hy : ∀ n a w, Sat n L a → (execOp a.eval ⟨some d, op, ty, pos, after, g⟩).run P w = .ok (.enter f args) w) (hd : Nat.blt d n = true)
    (hc : CallOk P w0 M Γ f args F)
    (h : ∀ v M' Γ', F v M' Γ' → RL P n w0 ops rest ((d, v) :: L) M' Γ' K) : RL P n w0 ops (⟨some d, op, ty, pos, after, g⟩ :: rest) L M Γ K := by
  intro R hR a w ha hw
  unfold wpList
  rw [if_pos (hg.spec ha)]
  refine .inl ?_
  unfold Oper.wp
  rw [hy n a w ha]
  refine (hc w hw).mono ?_
  rintro e w' ⟨v, M', Γ', rfl, hF, hw'⟩
  exact h v M' Γ' hF R hR _ _ (ha.put hd) hw'

/-- .. the ways through it meet: what then holds is written out. -/
theorem CW.regionM {id : Nat} {X : Pst} {l : List Oper} (L' : Lm) (h : RL P n w0 l.toArray l L M Γ (fun L1 M1 Γ1 => Keep L1 L' ∧ ∀ w, St w0 M1 Γ1 w → St w0 M Γ w)) (k : X .normal L' M Γ) : CW P n w0 (.region id l.toArray false) X L M Γ :=
  fun a w ha hw => wp_region_lit (h _ (fun _ _ _ hX _ w ha hw => ⟨L', M, Γ, k, ha.keep hX.1, hX.2 w hw⟩) a w ha hw)

theorem CW.region {id : Nat} {X : Pst} {l : List Oper} (h : RL P n w0 l.toArray l L M Γ (X .normal)) : CW P n w0 (.region id l.toArray false) X L M Γ :=
  fun a w ha hw => wp_region_lit (h _ (fun L M Γ hX _ _ ha hw => ⟨L, M, Γ, hX, ha, hw⟩) a w ha hw)
end

/-! ### A region that draws its order, all of whose operations are quiet -/

/-- C0: the words at the region's beginning, which are the class of worlds; Γ: what is known besides. -/
def QL (P : Program) (n : Nat) (w0 : World) (ops : Array Oper) (C0 : List As) (M : Mem) (rest : List Oper) (L : Lm) (Γ : List As) (K : Lm → List As → Prop) : Prop :=
  (∃ w, St w0 M C0 w) → (∀ w, St w0 M C0 w → St w0 M Γ w) →
  ∀ R : Act → Prop, (∀ L Γ, K L Γ → (∀ w, St w0 M C0 w → St w0 M Γ w) → ∀ a, Sat n L a → R a) → ∀ a, Sat n L a → wpQuiet P ops (St w0 M C0) R rest a

section
variable {P : Program} {n : Nat} {w0 : World} {ops : Array Oper} {C0 : List As} {rest : List Oper} {L : Lm} {M : Mem} {Γ : List As} {K : Lm → List As → Prop}

theorem QL.nil (h : K L Γ) : QL P n w0 ops C0 M [] L Γ K := fun _ hC _ hR a ha => hR L Γ h hC a ha

theorem QL.know {F : Prop} (hF : ∀ w, St w0 M Γ w → F) (h : F → QL P n w0 ops C0 M rest L Γ K) : QL P n w0 ops C0 M rest L Γ K :=
  fun hex hC => h (let ⟨w, hw⟩ := hex; hF w (hC w hw)) hex hC

theorem QL.more {Γ' : List As} (hG : ∀ w, St w0 M Γ w → St w0 M Γ' w) (h : QL P n w0 ops C0 M rest L Γ' K) : QL P n w0 ops C0 M rest L Γ K :=
  fun hex hC => h hex fun w hw => hG w (hC w hw)

theorem QL.q {op : Op} {ty : TypeId} {pos : String} {after : Array Edge} {d : Nat} {v : Value} (hy : Yq P w0 L M Γ ⟨some d, op, ty, pos, after, none⟩ v) (hd : Nat.blt d n = true)
    (h : QL P n w0 ops C0 M rest ((d, v) :: L) Γ K) : QL P n w0 ops C0 M (⟨some d, op, ty, pos, after, none⟩ :: rest) L Γ K := by
  intro hex hC R hR a ha
  unfold wpQuiet
  rw [if_pos (by simp [Region.wanted])]
  refine ⟨v, fun w hw => ?_, h hex hC R hR _ (ha.put hd)⟩
  unfold Oper.quietAt
  rw [hy n a w ha (hC w hw)]
  exact ⟨rfl, rfl⟩

theorem QL.qg {op : Op} {ty : TypeId} {pos : String} {after : Array Edge} {g : Nat × Bool} {d : Nat} {v : Value} (hg : Want ops L ⟨some d, op, ty, pos, after, some g⟩ true) (hy : Yq P w0 L M Γ ⟨some d, op, ty, pos, after, some g⟩ v) (hd : Nat.blt d n = true)
    (h : QL P n w0 ops C0 M rest ((d, v) :: L) Γ K) : QL P n w0 ops C0 M (⟨some d, op, ty, pos, after, some g⟩ :: rest) L Γ K := by
  intro hex hC R hR a ha
  unfold wpQuiet
  rw [if_pos (hg.spec ha)]
  refine ⟨v, fun w hw => ?_, h hex hC R hR _ (ha.put hd)⟩
  unfold Oper.quietAt
  rw [hy n a w ha (hC w hw)]
  exact ⟨rfl, rfl⟩

theorem QL.no {op : Op} {ty : TypeId} {pos : String} {after : Array Edge} {g : Nat × Bool} {d : Nat} (hg : Want ops L ⟨some d, op, ty, pos, after, some g⟩ false) (hd : Nat.blt d n = true)
    (h : QL P n w0 ops C0 M rest ((d, undef) :: L) Γ K) : QL P n w0 ops C0 M (⟨some d, op, ty, pos, after, some g⟩ :: rest) L Γ K := by
  intro hex hC R hR a ha
  unfold wpQuiet
  rw [if_neg (by rw [hg.spec ha]; simp)]
  exact h hex hC R hR _ (ha.put hd)

theorem QL.qw {op : Op} {ty : TypeId} {pos : String} {after : Array Edge} {g : Option (Nat × Bool)} {d : Nat} {v : Value} (hg : Want ops L ⟨some d, op, ty, pos, after, g⟩ true) (hy : Yq P w0 L M Γ ⟨some d, op, ty, pos, after, g⟩ v) (hd : Nat.blt d n = true)
    (h : QL P n w0 ops C0 M rest ((d, v) :: L) Γ K) : QL P n w0 ops C0 M (⟨some d, op, ty, pos, after, g⟩ :: rest) L Γ K := by
  intro hex hC R hR a ha
  unfold wpQuiet
  rw [if_pos (hg.spec ha)]
  refine ⟨v, fun w hw => ?_, h hex hC R hR _ (ha.put hd)⟩
  unfold Oper.quietAt
  rw [hy n a w ha (hC w hw)]
  exact ⟨rfl, rfl⟩
theorem QL.qs {op : Op} {ty : TypeId} {pos : String} {after : Array Edge} {d : Nat} {p : Prop} [Decidable p] (hy : Yq P w0 L M Γ ⟨some d, op, ty, pos, after, none⟩ (.bool (decide p))) (hd : Nat.blt d n = true)
    (h1 : p → QL P n w0 ops C0 M rest ((d, .bool true) :: L) Γ K) (h2 : ¬ p → QL P n w0 ops C0 M rest ((d, .bool false) :: L) Γ K) : QL P n w0 ops C0 M (⟨some d, op, ty, pos, after, none⟩ :: rest) L Γ K := by
  by_cases hp : p
  · rw [decide_eq_true hp] at hy; exact QL.q hy hd (h1 hp)
  · rw [decide_eq_false hp] at hy; exact QL.q hy hd (h2 hp)
theorem QL.qgs {op : Op} {ty : TypeId} {pos : String} {after : Array Edge} {g : Nat × Bool} {d : Nat} {p : Prop} [Decidable p] (hg : Want ops L ⟨some d, op, ty, pos, after, some g⟩ true) (hy : Yq P w0 L M Γ ⟨some d, op, ty, pos, after, some g⟩ (.bool (decide p))) (hd : Nat.blt d n = true)
    (h1 : p → QL P n w0 ops C0 M rest ((d, .bool true) :: L) Γ K) (h2 : ¬ p → QL P n w0 ops C0 M rest ((d, .bool false) :: L) Γ K) : QL P n w0 ops C0 M (⟨some d, op, ty, pos, after, some g⟩ :: rest) L Γ K := by
  by_cases hp : p
  · rw [decide_eq_true hp] at hy; exact QL.qg hg hy hd (h1 hp)
  · rw [decide_eq_false hp] at hy; exact QL.qg hg hy hd (h2 hp)

/-- A call that hands back one known value and leaves what there was. -/
theorem QL.c {op : Op} {ty : TypeId} {pos : String} {after : Array Edge} {g : Option (Nat × Bool)} {d : Nat} {f : FuncId} {args : Array Value} {v : Value} (hg : Want ops L ⟨some d, op, ty, pos, after, g⟩ true)
    (hy : ∀ n a w, Sat n L a → (execOp a.eval ⟨some d, op, ty, pos, after, g⟩).run P w = .ok (.enter f args) w) (hd : Nat.blt d n = true)
    (hc : ∀ Γ0, (∀ w, St w0 M Γ0 w → St w0 M Γ w) → CallOk P w0 M Γ0 f args (fun u M' Γ' => u = v ∧ M' = M ∧ Γ' = Γ0))
    (h : QL P n w0 ops C0 M rest ((d, v) :: L) Γ K) : QL P n w0 ops C0 M (⟨some d, op, ty, pos, after, g⟩ :: rest) L Γ K := by
  intro hex hC R hR a ha
  unfold wpQuiet
  rw [if_pos (hg.spec ha)]
  refine ⟨v, fun w hw => ?_, h hex hC R hR _ (ha.put hd)⟩
  unfold Oper.quietAt
  rw [hy n a w ha]
  refine ⟨rfl, (hc C0 hC w hw).mono ?_⟩
  rintro e w' ⟨u, M', Γ', rfl, ⟨rfl, rfl, rfl⟩, hw'⟩
  exact ⟨rfl, hw'⟩

theorem CW.regionQM {id : Nat} {X : Pst} {l : List Oper} (hm : P.follows .mixedOrders = true) (hB : Region.lexB .any l.toArray = true) (L' : Lm) (h : QL P n w0 l.toArray Γ M l L Γ (fun L1 Γ1 => Keep L1 L' ∧ ∀ w, St w0 M Γ1 w → St w0 M Γ w)) (k : X .normal L' M Γ) : CW P n w0 (.region id l.toArray true) X L M Γ := by
  intro a w ha hw
  refine wp_region_quiet (C := St w0 M Γ) hm hB (hw.draw _) ?_
  have := h ⟨w, hw⟩ (fun _ hw => hw) (fun a' => ∀ w', St w0 M Γ w' → Real n w0 X .normal a' w') (fun _ _ hX _ _ ha w' hw' => ⟨L', M, Γ, k, ha.keep hX.1, hw'⟩) a ha
  simpa using this

theorem CW.regionQ {id : Nat} {X : Pst} {l : List Oper} (hm : P.follows .mixedOrders = true) (hB : Region.lexB .any l.toArray = true) (h : QL P n w0 l.toArray Γ M l L Γ (fun L Γ => X .normal L M Γ)) : CW P n w0 (.region id l.toArray true) X L M Γ := by
  intro a w ha hw
  refine wp_region_quiet (C := St w0 M Γ) hm hB (hw.draw _) ?_
  have := h ⟨w, hw⟩ (fun _ hw => hw) (fun a' => ∀ w', St w0 M Γ w' → Real n w0 X .normal a' w') (fun L Γ' hX hC a ha w' hw' => ⟨L, M, Γ', hX, ha, hC w' hw'⟩) a ha
  simpa using this
end

/-! ### Entering a function -/

/-- What is asked at a function's end: its result lies in slot r. -/
def endX (w0 : World) (r : Nat) (R : Post) : Pst
  | .ret, L, M, Γ | .normal, L, M, Γ => ∃ v, getL L r = some v ∧ Turn w0 M Γ (R v)
  | _, _, _, _ => False

/-- Slots of the parameters. -/
def slotsOf : Nat → List Value → Lm
  | _, [] => []
  | i, v :: vs => (i, v) :: slotsOf (i + 1) vs

theorem slotsOf_get : ∀ (vs : List Value) (i t : Nat) (v : Value), getL (slotsOf i vs) t = some v → ∃ k, t = i + k ∧ vs[k]? = some v
  | [], _, _, _, h => by simp [slotsOf, getL] at h
  | x :: xs, i, t, v, h => by
    simp only [slotsOf, getL] at h
    cases hb : Nat.beq t i with
    | true =>
      rw [hb] at h
      simp only [Option.some.injEq] at h
      exact ⟨0, by have := Nat.eq_of_beq_eq_true hb; omega, by simp [h]⟩
    | false =>
      rw [hb] at h
      obtain ⟨k, h1, h2⟩ := slotsOf_get xs (i + 1) t v h
      exact ⟨k + 1, by omega, by simpa using h2⟩

theorem sat_start (n : Nat) (args : List Value) (hn : Nat.ble args.length n = true) :
    Sat n (slotsOf 0 args) { tmps := args.toArray ++ Array.replicate (n - args.toArray.size) undef, defers := [] } := by
  have hn' : args.length ≤ n := by simpa [Nat.ble_eq] using hn
  refine ⟨by simp; omega, rfl, fun t v h => ?_⟩
  obtain ⟨k, rfl, hk⟩ := slotsOf_get args 0 t v h
  have : k < args.length := by
    rcases Nat.lt_or_ge k args.length with h | h
    · exact h
    · rw [List.getElem?_eq_none h] at hk; cases hk
  simp only [Nat.zero_add]
  rw [Array.getElem?_append_left (by simpa using this)]
  simpa using hk

/-- One result, in a slot. -/
theorem enter {P : Program} {f : FuncId} {fn : Func} {c : Code} {args : List Value} {w0 : World} {M : Mem} {Γ : List As} {R : Post} {r n : Nat}
    (hf : P.funcs[f]? = some fn) (hb : fn.body = some c) (hn : fn.ntmps = n) (hr : fn.results = #[.tmp r]) (ha : Nat.ble args.length n = true)
    (h : ∀ w1, St w0 M Γ w1 → CW P n w0 c (endX w0 r R) (slotsOf 0 args) M Γ) : CallOk P w0 M Γ f args.toArray R := by
  intro w hw
  refine calls_of_wp hf hb ?_
  rw [hn]
  refine wp_mono (h w hw _ w (sat_start n args ha) hw) ?_
  rintro e a w' ⟨L, M1, Γ1, hX, h1, h2⟩
  cases e with
  | normal | ret =>
    obtain ⟨v, hv, hi⟩ := hX
    obtain ⟨M', Γ', hR, hw'⟩ := hi w' h2
    refine ⟨h1.defers, v, ?_, v, M', Γ', rfl, hR, hw'⟩
    have := h1.get r v hv
    simp [results, hr, this]
  | _ => exact hX.elim

/-- Two results, in slots. -/
theorem enter2 {P : Program} {f : FuncId} {fn : Func} {c : Code} {args : List Value} {w0 : World} {M : Mem} {Γ : List As} {R : Post} {r s n : Nat}
    (hf : P.funcs[f]? = some fn) (hb : fn.body = some c) (hn : fn.ntmps = n) (hr : fn.results = #[.tmp r, .tmp s]) (ha : Nat.ble args.length n = true)
    (h : ∀ w1, St w0 M Γ w1 → CW P n w0 c (fun e L M Γ => match e with
      | .ret | .normal => ∃ u v, getL L r = some u ∧ getL L s = some v ∧ Turn w0 M Γ (R (.tuple #[u, v]))
      | _ => False) (slotsOf 0 args) M Γ) : CallOk P w0 M Γ f args.toArray R := by
  intro w hw
  refine calls_of_wp hf hb ?_
  rw [hn]
  refine wp_mono (h w hw _ w (sat_start n args ha) hw) ?_
  rintro e a w' ⟨L, M1, Γ1, hX, h1, h2⟩
  cases e with
  | normal | ret =>
    obtain ⟨u, v, hu, hv, hi⟩ := hX
    obtain ⟨M', Γ', hR, hw'⟩ := hi w' h2
    refine ⟨h1.defers, .tuple #[u, v], ?_, _, M', Γ', rfl, hR, hw'⟩
    have e1 := h1.get r u hu
    have e2 := h1.get s v hv
    simp [results, hr, e1, e2]
  | _ => exact hX.elim

/-- Three. -/
theorem enter3 {P : Program} {f : FuncId} {fn : Func} {c : Code} {args : List Value} {w0 : World} {M : Mem} {Γ : List As} {R : Post} {r s t n : Nat}
    (hf : P.funcs[f]? = some fn) (hb : fn.body = some c) (hn : fn.ntmps = n) (hr : fn.results = #[.tmp r, .tmp s, .tmp t]) (ha : Nat.ble args.length n = true)
    (h : ∀ w1, St w0 M Γ w1 → CW P n w0 c (fun e L M Γ => match e with
      | .ret | .normal => ∃ u v x, getL L r = some u ∧ getL L s = some v ∧ getL L t = some x ∧ Turn w0 M Γ (R (.tuple #[u, v, x]))
      | _ => False) (slotsOf 0 args) M Γ) : CallOk P w0 M Γ f args.toArray R := by
  intro w hw
  refine calls_of_wp hf hb ?_
  rw [hn]
  refine wp_mono (h w hw _ w (sat_start n args ha) hw) ?_
  rintro e a w' ⟨L, M1, Γ1, hX, h1, h2⟩
  cases e with
  | normal | ret =>
    obtain ⟨u, v, x, hu, hv, hx, hi⟩ := hX
    obtain ⟨M', Γ', hR, hw'⟩ := hi w' h2
    refine ⟨h1.defers, .tuple #[u, v, x], ?_, _, M', Γ', rfl, hR, hw'⟩
    have e1 := h1.get r u hu
    have e2 := h1.get s v hv
    have e3 := h1.get t x hx
    simp [results, hr, e1, e2, e3]
  | _ => exact hX.elim

/-- No result. -/
theorem enter0 {P : Program} {f : FuncId} {fn : Func} {c : Code} {args : List Value} {w0 : World} {M : Mem} {Γ : List As} {R : Post} {n : Nat}
    (hf : P.funcs[f]? = some fn) (hb : fn.body = some c) (hn : fn.ntmps = n) (hr : fn.results = #[]) (ha : Nat.ble args.length n = true)
    (h : ∀ w1, St w0 M Γ w1 → CW P n w0 c (fun e _ M Γ => match e with
      | .ret | .normal => Turn w0 M Γ (R (.tuple #[]))
      | _ => False) (slotsOf 0 args) M Γ) : CallOk P w0 M Γ f args.toArray R := by
  intro w hw
  refine calls_of_wp hf hb ?_
  rw [hn]
  refine wp_mono (h w hw _ w (sat_start n args ha) hw) ?_
  rintro e a w' ⟨L, M1, Γ1, hX, h1, h2⟩
  cases e with
  | normal | ret =>
    obtain ⟨M', Γ', hR, hw'⟩ := hX w' h2
    exact ⟨h1.defers, .tuple #[], by simp [results, hr], _, M', Γ', rfl, hR, hw'⟩
  | _ => exact hX.elim
end Xe
