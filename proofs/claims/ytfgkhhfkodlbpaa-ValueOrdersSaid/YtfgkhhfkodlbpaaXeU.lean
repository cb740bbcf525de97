/-
  THE ENGINE, PART U: regions that draw their order, whose last operation waits for all the others and may turn what the others read. No program in sight.
-/
import Derived.Test.YtfgkhhfkodlbpaaXeT
namespace Xe
open Go

/-- Operation fin waits for operation i. -/
def waitB (md : Region.Mode) (ops : Array Oper) (fin i : Nat) : Bool := i != fin && match ops[fin]? with
  | some o => o.after.any fun e => Region.binds md e && e.on == i
  | none => false
theorem waitB_spec {md : Region.Mode} {ops : Array Oper} {fin i : Nat} (h : waitB md ops fin i = true) : i ≠ fin ∧ ∃ o, ops[fin]? = some o ∧ ∃ e ∈ o.after, Region.binds md e = true ∧ e.on = i := by
  unfold waitB at h
  rw [Bool.and_eq_true] at h
  obtain ⟨h1, h2⟩ := h
  refine ⟨by simpa using h1, ?_⟩
  split at h2
  · rename_i o ho
    rw [Array.any_eq_true'] at h2
    obtain ⟨e, he, h3⟩ := h2
    rw [Bool.and_eq_true] at h3
    exact ⟨o, ho, e, he, h3.1, by simpa using h3.2⟩
  · cases h2

/-- Whatever order is drawn: S holds behind each operation but the last. -/
def wpAnyG (P : Program) (md : Region.Mode) (ops : Array Oper) (fin : Nat) (Q : Exit → Act → World → Prop) (S : World → Prop) : Nat → Array Bool → Act → World → Prop
  | 0, listed, a, w => Region.ready md ops listed = [] ∧ Q .normal a w
  | fuel + 1, listed, a, w => (Region.ready md ops listed = [] → Q .normal a w) ∧
    ∀ i ∈ Region.ready md ops listed, wpOp P ops Q i (fun a' w' => (i = fin ∨ S w') ∧ wpAnyG P md ops fin Q S fuel (listed.setIfInBounds i true) a' w') a w
section
variable {P : Program} {ops : Array Oper} {Q : Exit → Act → World → Prop} {md : Region.Mode} {S : World → Prop} {fin : Nat}
theorem wpAny_of_G : ∀ (fuel : Nat) (listed : Array Bool) (a : Act) (w : World), wpAnyG P md ops fin Q S fuel listed a w → wpAny P md ops Q fuel listed a w
  | 0, _, _, _, h => h
  | fuel + 1, _, _, _, h => ⟨h.1, fun i hi => wpOp_mono (fun a' w' h' => wpAny_of_G fuel _ a' w' h'.2) (h.2 i hi)⟩
theorem wpAnyG_all {rs : List Nat} {fuel : Nat} {listed : Array Bool} {a : Act} {w : World} (hr : Region.ready md ops listed = rs) (hne : rs ≠ [])
    (h : ∀ i ∈ rs, wpOp P ops Q i (fun a' w' => (i = fin ∨ S w') ∧ wpAnyG P md ops fin Q S fuel (listed.setIfInBounds i true) a' w') a w) : wpAnyG P md ops fin Q S (fuel + 1) listed a w :=
  ⟨fun h0 => absurd (hr ▸ h0) hne, hr ▸ h⟩
/-- Who may come up while i has not does not wait for i. -/
theorem not_waits {i j : Nat} {oj : Oper} {listed : Array Bool} (hoj : ops[j]? = some oj) (hi : i ∈ Region.ready md ops listed) (hj : j ∈ Region.ready md ops listed) : ∀ e ∈ oj.after, Region.binds md e = true → e.on ≠ i := by
  rintro e he hb rfl
  obtain ⟨_, o, ho, hall⟩ := mem_ready.1 hj
  obtain rfl : o = oj := by rw [hoj] at ho; exact (Option.some.inj ho).symm
  have h0 := (mem_ready.1 hi).1
  have h1 := hall e he hb
  cases hx : listed[e.on]? with
  | none => simp [hx] at h1
  | some b => cases b <;> simp_all
/-- What is quiet may be taken first: the last operation never comes before it. -/
theorem wpAnyG_first {i : Nat} {oi : Oper} {v : Value} (hi : ops[i]? = some oi) (hs : Region.noSelect ops = true) (hQ : ∀ c a w, Q (.panic c) (a.put oi.dst v) w → Q (.panic c) a w) (hwt : waitB md ops fin i = true)
    (fuel : Nat) (listed : Array Bool) (a : Act) (w : World)
    (hap : ∀ j oj, ops[j]? = some oj → j ≠ i → listed.getD j true = false → (∀ e ∈ oj.after, Region.binds md e = true → e.on ≠ i) → oi.apart ops oj = true)
    (hr : i ∈ Region.ready md ops listed) (hy : YieldsIf P ops S oi v a) (hS : S w)
    (H : wpAnyG P md ops fin Q S fuel (listed.setIfInBounds i true) (a.put oi.dst v) w) : wpAnyG P md ops fin Q S (fuel + 1) listed a w := by
  have hsel := Region.noSelect_spec hs
  obtain ⟨_, ofin, hofin, efin, hein, hebin, heon⟩ := waitB_spec hwt
  induction fuel generalizing listed a w with
  | zero =>
    refine wpAnyG_all rfl (List.ne_nil_of_mem hr) fun j hj => ?_
    rcases Decidable.em (j = i) with rfl | hji
    · exact hy.wpOp hi hS ⟨.inr hS, H⟩
    · exact absurd (H.1 ▸ ready_mono hj hji) List.not_mem_nil
  | succ fuel ih =>
    refine wpAnyG_all rfl (List.ne_nil_of_mem hr) fun j hj => ?_
    rcases Decidable.em (j = i) with rfl | hji
    · exact hy.wpOp hi hS ⟨.inr hS, H⟩
    obtain ⟨hun, oj, hoj, _⟩ := mem_ready.1 hj
    have hnw := not_waits hoj hr hj
    have hjf : j ≠ fin := by
      rintro rfl
      rw [hofin] at hoj
      cases hoj
      exact hnw efin hein hebin heon
    have hone := wpOp_putIf hoj (hap j oj hoj hji hun hnw) (hsel i oi · · hi) (hsel j oj · · hoj) hQ hy (H.2 j (ready_mono hj hji))
    refine wpOp_mono (fun a' w' ⟨k1, k2, k3⟩ => ?_) hone
    have hS' := k2.resolve_left hjf
    refine ⟨.inr hS', ih _ a' w' (fun k ok hk hki hl hno => hap k ok hk hki ?_ hno) (ready_mono hr (Ne.symm hji)) k1 hS' ?_⟩
    · rcases Decidable.em (j = k) with rfl | hjk
      · exact hun
      · rwa [getD_set_ne true hjk] at hl
    · rwa [Array.setIfInBounds_comm _ _ hji]
theorem wpAnyG_take {i : Nat} {oi : Oper} {v : Value} {fuel : Nat} {listed : Array Bool} {a : Act} {w : World} (hi : ops[i]? = some oi)
    (hs : Region.noSelect ops = true) (hf : (Region.free md ops listed i && waitB md ops fin i) = true) (hr : (Region.ready md ops listed).contains i = true)
    (hQ : ∀ c a w, Q (.panic c) (a.put oi.dst v) w → Q (.panic c) a w) (hy : YieldsIf P ops S oi v a) (hS : S w)
    (h : wpAnyG P md ops fin Q S fuel (listed.setIfInBounds i true) (a.put oi.dst v) w) : wpAnyG P md ops fin Q S (fuel + 1) listed a w := by
  rw [Bool.and_eq_true] at hf
  exact wpAnyG_first hi hs hQ hf.2 fuel listed a w (Region.free_spec hi hf.1) (by simpa using hr) hy hS h
theorem wpAnyG_done {listed : Array Bool} {a : Act} {w : World} (hr : Region.ready md ops listed = []) (h : Q .normal a w) : ∀ fuel, wpAnyG P md ops fin Q S fuel listed a w
  | 0 => ⟨hr, h⟩
  | _ + 1 => ⟨fun _ => h, by rw [hr]; simp⟩
end
def HG (fin : Nat) (P : Program) (n : Nat) (w0 : World) (ops : Array Oper) (Mc : Mem) (Γc : List As) (fuel : Nat) (listed : Array Bool) (L : Lm) (M : Mem) (Γ : List As) (K : Lm → Mem → List As → Prop) : Prop :=
  (∃ w, St w0 Mc Γc w) → ∀ R : Act → World → Prop, (∀ L M Γ, K L M Γ → ∀ a w, Sat n L a → St w0 M Γ w → R a w) →
  ∀ a w, Sat n L a → St w0 M Γ w → St w0 Mc Γc w → wpAnyG P .any ops fin (Norm R) (St w0 Mc Γc) fuel listed a w

section
variable {fin : Nat} {P : Program} {n : Nat} {w0 : World} {ops : Array Oper} {Mc : Mem} {Γc : List As} {fuel : Nat} {listed : Array Bool} {L : Lm} {M : Mem} {Γ : List As} {K : Lm → Mem → List As → Prop}
theorem HG.done (hr : Region.ready .any ops listed = []) (h : K L M Γ) : HG fin P n w0 ops Mc Γc fuel listed L M Γ K :=
  fun _ _ hR a w ha hw _ => wpAnyG_done hr (hR L M Γ h a w ha hw) fuel

/-- A quiet operation is taken first. -/
theorem HG.take (i : Nat) {op : Op} {ty : TypeId} {pos : String} {after : Array Edge} {g : Option (Nat × Bool)} {d : Nat} {v : Value} (hi : ops[i]? = some ⟨some d, op, ty, pos, after, g⟩) (hs : Region.noSelect ops = true) (hf : (Region.free .any ops listed i && waitB .any ops fin i) = true)
    (hr : (Region.ready .any ops listed).contains i = true) (hg : Want ops L ⟨some d, op, ty, pos, after, g⟩ true) (hy : Yq P w0 L Mc Γc ⟨some d, op, ty, pos, after, g⟩ v) (hd : Nat.blt d n = true)
    (h : HG fin P n w0 ops Mc Γc fuel (listed.setIfInBounds i true) ((d, v) :: L) M Γ K) : HG fin P n w0 ops Mc Γc (fuel + 1) listed L M Γ K :=
  fun hex R hR a w ha hw hc => wpAnyG_take hi hs hf hr (fun _ _ _ h => h) (.inl ⟨hg.spec ha, fun w hw => hy n a w ha hw⟩) hc (h hex R hR _ w (ha.put hd) hw hc)

theorem HG.takeNo (i : Nat) {op : Op} {ty : TypeId} {pos : String} {after : Array Edge} {g : Option (Nat × Bool)} {d : Nat} (hi : ops[i]? = some ⟨some d, op, ty, pos, after, g⟩) (hs : Region.noSelect ops = true) (hf : (Region.free .any ops listed i && waitB .any ops fin i) = true)
    (hr : (Region.ready .any ops listed).contains i = true) (hg : Want ops L ⟨some d, op, ty, pos, after, g⟩ false) (hd : Nat.blt d n = true)
    (h : HG fin P n w0 ops Mc Γc fuel (listed.setIfInBounds i true) ((d, undef) :: L) M Γ K) : HG fin P n w0 ops Mc Γc (fuel + 1) listed L M Γ K :=
  fun hex R hR _ w ha hw hc => wpAnyG_take hi hs hf hr (fun _ _ _ h => h) (.inr ⟨hg.spec ha, rfl⟩) hc (h hex R hR _ w (ha.put hd) hw hc)

/-- What is known of the class may be used. -/
theorem HG.know {F : Prop} (hF : ∀ w, St w0 Mc Γc w → F) (h : F → HG fin P n w0 ops Mc Γc fuel listed L M Γ K) : HG fin P n w0 ops Mc Γc fuel listed L M Γ K :=
  fun hex => h (let ⟨w, hw⟩ := hex; hF w hw) hex

/-- The class with a fact more on what is sealed. -/
theorem HG.more {Γc' : List As} (h1 : ∀ w, St w0 Mc Γc w ↔ St w0 Mc Γc' w) (h : HG fin P n w0 ops Mc Γc' fuel listed L M Γ K) : HG fin P n w0 ops Mc Γc fuel listed L M Γ K := by
  have e : St w0 Mc Γc = St w0 Mc Γc' := funext fun w => propext (h1 w)
  unfold HG at h ⊢
  rw [e]
  exact h

/-- The one operation that may come up. -/
theorem HG.step (i : Nat) {o : Oper} (hi : ops[i]? = some o) (hr : Region.ready .any ops listed = [i])
    (h : RL P n w0 ops [o] L M Γ (fun L' M' Γ' => ((∃ w, St w0 Mc Γc w) → ∀ w, St w0 M' Γ' w → St w0 Mc Γc w) ∧ HG fin P n w0 ops Mc Γc fuel (listed.setIfInBounds i true) L' M' Γ' K)) : HG fin P n w0 ops Mc Γc (fuel + 1) listed L M Γ K := by
  intro hex R hR a w ha hw hc
  refine wpAnyG_all hr (by simp) fun j hj => ?_
  simp only [List.mem_singleton] at hj
  subst hj
  exact wpOp_of_RL hi h (fun L' M' Γ' hK a' w' ha' hw' => ⟨.inr (hK.1 hex w' hw'), hK.2 hex R hR a' w' ha' hw' (hK.1 hex w' hw')⟩) ha hw

/-- One of two. -/
theorem HG.step2 (i j : Nat) {o o' : Oper} (hi : ops[i]? = some o) (hj : ops[j]? = some o') (hr : Region.ready .any ops listed = [i, j])
    (h : RL P n w0 ops [o] L M Γ (fun L' M' Γ' => ((∃ w, St w0 Mc Γc w) → ∀ w, St w0 M' Γ' w → St w0 Mc Γc w) ∧ HG fin P n w0 ops Mc Γc fuel (listed.setIfInBounds i true) L' M' Γ' K))
    (h' : RL P n w0 ops [o'] L M Γ (fun L' M' Γ' => ((∃ w, St w0 Mc Γc w) → ∀ w, St w0 M' Γ' w → St w0 Mc Γc w) ∧ HG fin P n w0 ops Mc Γc fuel (listed.setIfInBounds j true) L' M' Γ' K)) : HG fin P n w0 ops Mc Γc (fuel + 1) listed L M Γ K := by
  intro hex R hR a w ha hw hc
  refine wpAnyG_all hr (by simp) fun k hk => ?_
  simp only [List.mem_cons, List.not_mem_nil, or_false] at hk
  rcases hk with rfl | rfl
  · exact wpOp_of_RL hi h (fun L' M' Γ' hK a' w' ha' hw' => ⟨.inr (hK.1 hex w' hw'), hK.2 hex R hR a' w' ha' hw' (hK.1 hex w' hw')⟩) ha hw
  · exact wpOp_of_RL hj h' (fun L' M' Γ' hK a' w' ha' hw' => ⟨.inr (hK.1 hex w' hw'), hK.2 hex R hR a' w' ha' hw' (hK.1 hex w' hw')⟩) ha hw

/-- A quiet operation whose value is known by what it reads as. -/
theorem HG.takeX (i : Nat) {op : Op} {ty : TypeId} {pos : String} {after : Array Edge} {g : Option (Nat × Bool)} {d : Nat} (hi : ops[i]? = some ⟨some d, op, ty, pos, after, g⟩) (hs : Region.noSelect ops = true) (hf : (Region.free .any ops listed i && waitB .any ops fin i) = true)
    (hr : (Region.ready .any ops listed).contains i = true) (hg : Want ops L ⟨some d, op, ty, pos, after, g⟩ true) (F : Value → As → Prop) (hex : ∀ w, St w0 M Γc w → ∃ v x, F v x)
    (hF : ∀ v x, F v x → Yq P w0 L M Γc ⟨some d, op, ty, pos, after, g⟩ v ∧ x.blk = none ∧ ∀ w, x.ok M w) (hd : Nat.blt d n = true)
    (h : ∀ v x, F v x → HG fin P n w0 ops M (x :: Γc) fuel (listed.setIfInBounds i true) ((d, v) :: L) M (x :: Γ) K) : HG fin P n w0 ops M Γc (fuel + 1) listed L M Γ K := by
  refine HG.know hex ?_
  rintro ⟨v, x, hv⟩
  obtain ⟨h1, h2, h3⟩ := hF v x hv
  refine HG.take i hi hs hf hr hg h1 hd ?_
  have h4 := h v x hv
  refine HG.more (pure_iff h2 h3) ?_
  exact fun hex R hR a w ha hw hc => h4 hex R hR a w ha (hw.add (h3 w) h2) hc

theorem HG.loadSl (i : Nat) {x : Operand} {t : TypeId} {ty : TypeId} {pos : String} {af : Array Edge} {g : Option (Nat × Bool)} {d : Nat} {a : Option Addr} {q n0 sz0 l c n1 sz1 : Nat} {cs cs1 : List D} (hi : ops[i]? = some ⟨some d, .load t x, ty, pos, af, g⟩) (hs : Region.noSelect ops = true) (hf : (Region.free .any ops listed i && waitB .any ops fin i) = true)
    (hr : (Region.ready .any ops listed).contains i = true) (hg : Want ops L ⟨some d, .load t x, ty, pos, af, g⟩ true)
    (hx : evL L x = some (.pointer (some (adr a q)))) (hm : As.rd (.sl n0 sz0 cs) (.slice a l c) ∈ Γc) (hq : cs[q]? = some (.sl n1 sz1 cs1)) (hfl : flatB P t = true) (hd : Nat.blt d n = true)
    (h : ∀ a1 c1, n1 ≤ c1 → n1 ≤ 140737488355328 → HG fin P n w0 ops M (.rd (.sl n1 sz1 cs1) (.slice a1 n1 c1) :: Γc) fuel (listed.setIfInBounds i true) ((d, .slice a1 n1 c1) :: L) M (.rd (.sl n1 sz1 cs1) (.slice a1 n1 c1) :: Γ) K) :
    HG fin P n w0 ops M Γc (fuel + 1) listed L M Γ K := by
  refine HG.takeX i hi hs hf hr hg (fun v x => cellM M (adr a q) = some v ∧ Rd M (.sl n1 sz1 cs1) v ∧ x = .rd (.sl n1 sz1 cs1) v) (fun w hw => ?_) ?_ hd ?_
  · obtain ⟨u, h1, h2⟩ := hw.rd_cell hm hq
    exact ⟨u, _, h1, h2, rfl⟩
  · rintro v _ ⟨h1, h2, rfl⟩
    exact ⟨Y.load hx hfl fun w hw => hw.cell h1, rfl, fun _ => h2⟩
  · rintro v _ ⟨h1, h2, rfl⟩
    have hr' := h2
    simp only [Rd] at hr'
    obtain ⟨a1, c1, rfl, h3, _, h4, _⟩ := hr'
    exact h a1 c1 h3 h4

theorem HG.loadOwnSl (i : Nat) {x : Operand} {t : TypeId} {ty : TypeId} {pos : String} {af : Array Edge} {g : Option (Nat × Bool)} {d b e : Nat} {q n1 sz1 : Nat} {us : List Value} {ds cs1 : List D} (hi : ops[i]? = some ⟨some d, .load t x, ty, pos, af, g⟩) (hs : Region.noSelect ops = true) (hf : (Region.free .any ops listed i && waitB .any ops fin i) = true)
    (hr : (Region.ready .any ops listed).contains i = true) (hg : Want ops L ⟨some d, .load t x, ty, pos, af, g⟩ true)
    (hx : evL L x = some (.pointer (some (adr (some ⟨b, 0, none⟩) q)))) (hm : As.own b e us ∈ Γc) (hrd : As.rds ds us ∈ Γc) (hq : ds[q]? = some (.sl n1 sz1 cs1)) (hfl : flatB P t = true) (hd : Nat.blt d n = true)
    (h : ∀ a1 c1, us[q]? = some (.slice a1 n1 c1) → n1 ≤ c1 → n1 ≤ 140737488355328 → HG fin P n w0 ops M (.rd (.sl n1 sz1 cs1) (.slice a1 n1 c1) :: Γc) fuel (listed.setIfInBounds i true) ((d, .slice a1 n1 c1) :: L) M (.rd (.sl n1 sz1 cs1) (.slice a1 n1 c1) :: Γ) K) :
    HG fin P n w0 ops M Γc (fuel + 1) listed L M Γ K := by
  refine HG.takeX i hi hs hf hr hg (fun v x => us[q]? = some v ∧ Rd M (.sl n1 sz1 cs1) v ∧ x = .rd (.sl n1 sz1 cs1) v) (fun w hw => ?_) ?_ hd ?_
  · obtain ⟨u, h1, h2⟩ := RdL.get (hw.all _ hrd) hq
    exact ⟨u, _, h1, h2, rfl⟩
  · rintro v _ ⟨h1, h2, rfl⟩
    exact ⟨Y.load hx hfl fun w hw => hw.own_cell hm h1, rfl, fun _ => h2⟩
  · rintro v _ ⟨h1, h2, rfl⟩
    have hr' := h2
    simp only [Rd] at hr'
    obtain ⟨a1, c1, rfl, h3, _, h4, _⟩ := hr'
    exact h a1 c1 h1 h3 h4

theorem HG.loadAgg (i : Nat) {x : Operand} {t : TypeId} {ty : TypeId} {pos : String} {af : Array Edge} {g : Option (Nat × Bool)} {d : Nat} {a : Option Addr} {q sz n0 sz0 l c : Nat} {cs ds : List D} (hi : ops[i]? = some ⟨some d, .load t x, ty, pos, af, g⟩) (hs : Region.noSelect ops = true) (hf : (Region.free .any ops listed i && waitB .any ops fin i) = true)
    (hr : (Region.ready .any ops listed).contains i = true) (hg : Want ops L ⟨some d, .load t x, ty, pos, af, g⟩ true)
    (hx : evL L x = some (.pointer (some (adr a q)))) (hm : As.rd (.sl n0 sz0 cs) (.slice a l c) ∈ Γc) (hq : (cs.drop q).take sz = ds) (hl : ds.length = sz) (hag : aggB P t sz = true) (hd : Nat.blt d n = true)
    (h : ∀ us, us.length = sz → RdL M ds us → HG fin P n w0 ops M (.rds ds us :: Γc) fuel (listed.setIfInBounds i true) ((d, .agg us.toArray) :: L) M (.rds ds us :: Γ) K) :
    HG fin P n w0 ops M Γc (fuel + 1) listed L M Γ K := by
  refine HG.takeX i hi hs hf hr hg (fun v x => ∃ us, v = .agg us.toArray ∧ x = .rds ds us ∧ RdL M ds us ∧ ∀ j v, us[j]? = some v → cellM M (adr a (q + j)) = some v) (fun w hw => ?_) ?_ hd ?_
  · obtain ⟨us, h1, h2⟩ := cells_of (M := M) (a := a) (q := q) (ds := ds) (fun j e hj => hw.rd_cell hm (sub_get hq hj))
    exact ⟨_, _, us, rfl, rfl, h1, h2⟩
  · rintro _ _ ⟨us, rfl, rfl, h1, h2⟩
    refine ⟨Y.loadAgg hx (by rw [h1.1, hl]; exact hag) fun w hw j v hj => ?_, rfl, fun _ => h1⟩
    rw [adr_add]
    exact hw.cell (h2 j v hj)
  · rintro _ _ ⟨us, rfl, rfl, h1, h2⟩
    exact h us (by rw [h1.1, hl]) h1

theorem HG.step3 (i j k : Nat) {oi oj ok : Oper} (hi : ops[i]? = some oi) (hj : ops[j]? = some oj) (hk : ops[k]? = some ok) (hr : Region.ready .any ops listed = [i, j, k])
    (gi : RL P n w0 ops [oi] L M Γ (fun L' M' Γ' => ((∃ w, St w0 Mc Γc w) → ∀ w, St w0 M' Γ' w → St w0 Mc Γc w) ∧ HG fin P n w0 ops Mc Γc fuel (listed.setIfInBounds i true) L' M' Γ' K))
    (gj : RL P n w0 ops [oj] L M Γ (fun L' M' Γ' => ((∃ w, St w0 Mc Γc w) → ∀ w, St w0 M' Γ' w → St w0 Mc Γc w) ∧ HG fin P n w0 ops Mc Γc fuel (listed.setIfInBounds j true) L' M' Γ' K))
    (gk : RL P n w0 ops [ok] L M Γ (fun L' M' Γ' => ((∃ w, St w0 Mc Γc w) → ∀ w, St w0 M' Γ' w → St w0 Mc Γc w) ∧ HG fin P n w0 ops Mc Γc fuel (listed.setIfInBounds k true) L' M' Γ' K)) : HG fin P n w0 ops Mc Γc (fuel + 1) listed L M Γ K := by
  intro hex R hR a w ha hw hc
  refine wpAnyG_all hr (by simp) fun x hx => ?_
  simp only [List.mem_cons, List.not_mem_nil, or_false] at hx
  rcases hx with rfl | rfl | rfl
  · exact wpOp_of_RL hi gi (fun L' M' Γ' hK a' w' ha' hw' => ⟨.inr (hK.1 hex w' hw'), hK.2 hex R hR a' w' ha' hw' (hK.1 hex w' hw')⟩) ha hw
  · exact wpOp_of_RL hj gj (fun L' M' Γ' hK a' w' ha' hw' => ⟨.inr (hK.1 hex w' hw'), hK.2 hex R hR a' w' ha' hw' (hK.1 hex w' hw')⟩) ha hw
  · exact wpOp_of_RL hk gk (fun L' M' Γ' hK a' w' ha' hw' => ⟨.inr (hK.1 hex w' hw'), hK.2 hex R hR a' w' ha' hw' (hK.1 hex w' hw')⟩) ha hw
theorem HG.step4 (i j k l : Nat) {oi oj ok ol : Oper} (hi : ops[i]? = some oi) (hj : ops[j]? = some oj) (hk : ops[k]? = some ok) (hl : ops[l]? = some ol) (hr : Region.ready .any ops listed = [i, j, k, l])
    (gi : RL P n w0 ops [oi] L M Γ (fun L' M' Γ' => ((∃ w, St w0 Mc Γc w) → ∀ w, St w0 M' Γ' w → St w0 Mc Γc w) ∧ HG fin P n w0 ops Mc Γc fuel (listed.setIfInBounds i true) L' M' Γ' K))
    (gj : RL P n w0 ops [oj] L M Γ (fun L' M' Γ' => ((∃ w, St w0 Mc Γc w) → ∀ w, St w0 M' Γ' w → St w0 Mc Γc w) ∧ HG fin P n w0 ops Mc Γc fuel (listed.setIfInBounds j true) L' M' Γ' K))
    (gk : RL P n w0 ops [ok] L M Γ (fun L' M' Γ' => ((∃ w, St w0 Mc Γc w) → ∀ w, St w0 M' Γ' w → St w0 Mc Γc w) ∧ HG fin P n w0 ops Mc Γc fuel (listed.setIfInBounds k true) L' M' Γ' K))
    (gl : RL P n w0 ops [ol] L M Γ (fun L' M' Γ' => ((∃ w, St w0 Mc Γc w) → ∀ w, St w0 M' Γ' w → St w0 Mc Γc w) ∧ HG fin P n w0 ops Mc Γc fuel (listed.setIfInBounds l true) L' M' Γ' K)) : HG fin P n w0 ops Mc Γc (fuel + 1) listed L M Γ K := by
  intro hex R hR a w ha hw hc
  refine wpAnyG_all hr (by simp) fun x hx => ?_
  simp only [List.mem_cons, List.not_mem_nil, or_false] at hx
  rcases hx with rfl | rfl | rfl | rfl
  · exact wpOp_of_RL hi gi (fun L' M' Γ' hK a' w' ha' hw' => ⟨.inr (hK.1 hex w' hw'), hK.2 hex R hR a' w' ha' hw' (hK.1 hex w' hw')⟩) ha hw
  · exact wpOp_of_RL hj gj (fun L' M' Γ' hK a' w' ha' hw' => ⟨.inr (hK.1 hex w' hw'), hK.2 hex R hR a' w' ha' hw' (hK.1 hex w' hw')⟩) ha hw
  · exact wpOp_of_RL hk gk (fun L' M' Γ' hK a' w' ha' hw' => ⟨.inr (hK.1 hex w' hw'), hK.2 hex R hR a' w' ha' hw' (hK.1 hex w' hw')⟩) ha hw
  · exact wpOp_of_RL hl gl (fun L' M' Γ' hK a' w' ha' hw' => ⟨.inr (hK.1 hex w' hw'), hK.2 hex R hR a' w' ha' hw' (hK.1 hex w' hw')⟩) ha hw
/-- The last operation. -/
theorem HG.last (i : Nat) {o : Oper} (hi : ops[i]? = some o) (hf : Region.ready .any ops listed = [i] ∧ i = fin) (hd : Region.ready .any ops (listed.setIfInBounds i true) = [])
    (h : RL P n w0 ops [o] L M Γ K) : HG fin P n w0 ops Mc Γc (fuel + 1) listed L M Γ K := by
  intro hex R hR a w ha hw hc
  refine wpAnyG_all hf.1 (by simp) fun j hj => ?_
  simp only [List.mem_singleton] at hj
  subst hj
  exact wpOp_of_RL hi h (fun L' M' Γ' hK a' w' ha' hw' => ⟨.inl hf.2, wpAnyG_done hd (hR L' M' Γ' hK a' w' ha' hw') fuel⟩) ha hw
theorem CW.regionG (fin : Nat) {id : Nat} {X : Pst} {l : List Oper} (hm : P.follows .mixedOrders = true) (Mc : Mem) (Γc : List As) (hc : ∀ w, St w0 M Γ w → St w0 Mc Γc w)
    (h : HG fin P n w0 l.toArray Mc Γc l.length (Array.replicate l.length false) L M Γ (X .normal)) : CW P n w0 (.region id l.toArray true) X L M Γ := by
  intro a w ha hw
  have hw' := hw.draw (w.drawn + 1)
  have h1 := h ⟨_, hc _ hw'⟩ (fun a w => Real n w0 X .normal a w) (fun L M Γ hX a w ha hw => ⟨L, M, Γ, hX, ha, hw⟩) a _ ha hw' (hc _ hw')
  have h2 : (Code.region id l.toArray true).wp P (Norm (fun a w => Real n w0 X .normal a w)) a w := wp_region_any hm (wpAny_of_G _ _ _ _ (by simpa using h1))
  refine wp_mono h2 fun e a w he => ?_
  cases e <;> first | exact he | exact he.elim
theorem CW.regionGP (fin : Nat) {id : Nat} {X : Pst} {l : List Oper} {x : As} {R : List As} (hm : P.follows .mixedOrders = true) (hp : Pick x Γ R)
    (h : HG fin P n w0 l.toArray M R l.length (Array.replicate l.length false) L M Γ (X .normal)) : CW P n w0 (.region id l.toArray true) X L M Γ :=
  CW.regionG fin hm M R (fun _ hw => (hw.perm hp.perm).sub (List.sublist_cons_self _ _)) h
end
end Xe
