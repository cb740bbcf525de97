/-
  THE ENGINE, PART H: regions that draw their order and turn memory. No program in sight.
-/
import Derived.Test.YtjkcjbicleohkaaXeG
namespace Xe
open Go

/-- Only the ordinary end is let by. -/
def Norm (R : Act → World → Prop) : Exit → Act → World → Prop
  | .normal, a, w => R a w
  | _, _, _ => False

theorem upon_norm {P : Program} {o : Oper} {a : Act} {K : Act → World → Prop} {R R' : Act → World → Prop} {r : Result Next} (h : o.upon P a K (Norm R) r) : o.upon P a K (Norm R') r := by
  cases r with
  | ok x w =>
    cases x <;> simp only [Oper.upon] at h ⊢ <;> first | exact h | (refine h.mono fun e w'' he => ?_; cases e <;> first | exact he | exact he.elim | (obtain ⟨a, w, hf⟩ := he; exact hf.elim))
  | halt x w => cases x <;> simp only [Oper.upon] at h ⊢ <;> exact h

/-- The class of worlds in which the quiet operations of the region are known: Mc, Γc. -/
def HL (P : Program) (n : Nat) (w0 : World) (ops : Array Oper) (Mc : Mem) (Γc : List As) (fuel : Nat) (listed : Array Bool) (L : Lm) (M : Mem) (Γ : List As) (K : Lm → Mem → List As → Prop) : Prop :=
  (∃ w, St w0 Mc Γc w) → ∀ R : Act → World → Prop, (∀ L M Γ, K L M Γ → ∀ a w, Sat n L a → St w0 M Γ w → R a w) →
  ∀ a w, Sat n L a → St w0 M Γ w → St w0 Mc Γc w → wpAnyH P .any ops (Norm R) (St w0 Mc Γc) fuel listed a w

section
variable {P : Program} {n : Nat} {w0 : World} {ops : Array Oper} {Mc : Mem} {Γc : List As} {fuel : Nat} {listed : Array Bool} {L : Lm} {M : Mem} {Γ : List As} {K : Lm → Mem → List As → Prop}

theorem HL.done (hr : Region.ready .any ops listed = []) (h : K L M Γ) : HL P n w0 ops Mc Γc fuel listed L M Γ K :=
  fun _ _ hR a w ha hw _ => wpAnyH_done hr (hR L M Γ h a w ha hw) fuel

/-- A quiet operation is taken first. -/
theorem HL.take (i : Nat) {op : Op} {ty : TypeId} {pos : String} {after : Array Edge} {g : Option (Nat × Bool)} {d : Nat} {v : Value} (hi : ops[i]? = some ⟨some d, op, ty, pos, after, g⟩) (hs : Region.noSelect ops = true) (hf : Region.free .any ops listed i = true)
    (hr : (Region.ready .any ops listed).contains i = true) (hg : Want ops L ⟨some d, op, ty, pos, after, g⟩ true) (hy : Yq P w0 L Mc Γc ⟨some d, op, ty, pos, after, g⟩ v) (hd : Nat.blt d n = true)
    (h : HL P n w0 ops Mc Γc fuel (listed.setIfInBounds i true) ((d, v) :: L) M Γ K) : HL P n w0 ops Mc Γc (fuel + 1) listed L M Γ K :=
  fun hex R hR a w ha hw hc => wpAnyH_take hi hs hf hr (fun _ _ _ h => h) (.inl ⟨hg.spec ha, fun w hw => hy n a w ha hw⟩) hc (h hex R hR _ w (ha.put hd) hw hc)

theorem HL.takeNo (i : Nat) {op : Op} {ty : TypeId} {pos : String} {after : Array Edge} {g : Option (Nat × Bool)} {d : Nat} (hi : ops[i]? = some ⟨some d, op, ty, pos, after, g⟩) (hs : Region.noSelect ops = true) (hf : Region.free .any ops listed i = true)
    (hr : (Region.ready .any ops listed).contains i = true) (hg : Want ops L ⟨some d, op, ty, pos, after, g⟩ false) (hd : Nat.blt d n = true)
    (h : HL P n w0 ops Mc Γc fuel (listed.setIfInBounds i true) ((d, undef) :: L) M Γ K) : HL P n w0 ops Mc Γc (fuel + 1) listed L M Γ K :=
  fun hex R hR _ w ha hw hc => wpAnyH_take hi hs hf hr (fun _ _ _ h => h) (.inr ⟨hg.spec ha, rfl⟩) hc (h hex R hR _ w (ha.put hd) hw hc)

/-- What is known of the class may be used. -/
theorem HL.know {F : Prop} (hF : ∀ w, St w0 Mc Γc w → F) (h : F → HL P n w0 ops Mc Γc fuel listed L M Γ K) : HL P n w0 ops Mc Γc fuel listed L M Γ K :=
  fun hex => h (let ⟨w, hw⟩ := hex; hF w hw) hex

/-- The class with a fact more on what is sealed. -/
theorem HL.more {Γc' : List As} (h1 : ∀ w, St w0 Mc Γc w ↔ St w0 Mc Γc' w) (h : HL P n w0 ops Mc Γc' fuel listed L M Γ K) : HL P n w0 ops Mc Γc fuel listed L M Γ K := by
  have e : St w0 Mc Γc = St w0 Mc Γc' := funext fun w => propext (h1 w)
  unfold HL at h ⊢
  rw [e]
  exact h

theorem wpOp_of_RL {i : Nat} {o : Oper} {K' : Lm → Mem → List As → Prop} {R R' : Act → World → Prop} (hi : ops[i]? = some o) (h : RL P n w0 ops [o] L M Γ K') (hR : ∀ L M Γ, K' L M Γ → ∀ a w, Sat n L a → St w0 M Γ w → R a w) {a : Act} {w : World} (ha : Sat n L a) (hw : St w0 M Γ w) :
    wpOp P ops (Norm R') i R a w := by
  have h1 := h (Norm R) hR a w ha hw
  unfold wpOp
  simp only [hi]
  unfold wpList at h1
  split
  · rename_i hwt
    rw [if_pos hwt] at h1
    rcases h1 with h1 | ⟨_, a, w, hf⟩
    · exact .inl (upon_norm (R := R) h1)
    · exact hf.elim
  · rename_i hwt
    rw [if_neg hwt] at h1
    exact h1

/-- The one operation that may come up. -/
theorem HL.step (i : Nat) {o : Oper} (hi : ops[i]? = some o) (hr : Region.ready .any ops listed = [i])
    (h : RL P n w0 ops [o] L M Γ (fun L' M' Γ' => ((∃ w, St w0 Mc Γc w) → ∀ w, St w0 M' Γ' w → St w0 Mc Γc w) ∧ HL P n w0 ops Mc Γc fuel (listed.setIfInBounds i true) L' M' Γ' K)) : HL P n w0 ops Mc Γc (fuel + 1) listed L M Γ K := by
  intro hex R hR a w ha hw hc
  refine wpAnyH_all hr (by simp) fun j hj => ?_
  simp only [List.mem_singleton] at hj
  subst hj
  exact wpOp_of_RL hi h (fun L' M' Γ' hK a' w' ha' hw' => ⟨hK.1 hex w' hw', hK.2 hex R hR a' w' ha' hw' (hK.1 hex w' hw')⟩) ha hw

/-- One of two. -/
theorem HL.step2 (i j : Nat) {o o' : Oper} (hi : ops[i]? = some o) (hj : ops[j]? = some o') (hr : Region.ready .any ops listed = [i, j])
    (h : RL P n w0 ops [o] L M Γ (fun L' M' Γ' => ((∃ w, St w0 Mc Γc w) → ∀ w, St w0 M' Γ' w → St w0 Mc Γc w) ∧ HL P n w0 ops Mc Γc fuel (listed.setIfInBounds i true) L' M' Γ' K))
    (h' : RL P n w0 ops [o'] L M Γ (fun L' M' Γ' => ((∃ w, St w0 Mc Γc w) → ∀ w, St w0 M' Γ' w → St w0 Mc Γc w) ∧ HL P n w0 ops Mc Γc fuel (listed.setIfInBounds j true) L' M' Γ' K)) : HL P n w0 ops Mc Γc (fuel + 1) listed L M Γ K := by
  intro hex R hR a w ha hw hc
  refine wpAnyH_all hr (by simp) fun k hk => ?_
  simp only [List.mem_cons, List.not_mem_nil, or_false] at hk
  rcases hk with rfl | rfl
  · exact wpOp_of_RL hi h (fun L' M' Γ' hK a' w' ha' hw' => ⟨hK.1 hex w' hw', hK.2 hex R hR a' w' ha' hw' (hK.1 hex w' hw')⟩) ha hw
  · exact wpOp_of_RL hj h' (fun L' M' Γ' hK a' w' ha' hw' => ⟨hK.1 hex w' hw', hK.2 hex R hR a' w' ha' hw' (hK.1 hex w' hw')⟩) ha hw

/-- What still holds of the class behind a step: nothing new is sealed .. -/
theorem keep_same {Γ' : List As} (hl : List.Sublist Γc Γ') : (∃ w, St w0 Mc Γc w) → ∀ w, St w0 Mc Γ' w → St w0 Mc Γc w := fun _ _ hw => hw.sub hl
/-- .. or it is. -/
theorem keep_more {M' : Mem} {Γ' : List As} (hs : Sub Mc M') (hl : List.Sublist Γc Γ') : (∃ w, St w0 Mc Γc w) → ∀ w, St w0 M' Γ' w → St w0 Mc Γc w := fun ⟨_, h⟩ _ hw => h.back (hw.sub hl) hs

theorem CW.regionH {id : Nat} {X : Pst} {l : List Oper} (hm : P.follows .mixedOrders = true) (Mc : Mem) (Γc : List As) (hc : ∀ w, St w0 M Γ w → St w0 Mc Γc w)
    (h : HL P n w0 l.toArray Mc Γc l.length (Array.replicate l.length false) L M Γ (X .normal)) : CW P n w0 (.region id l.toArray true) X L M Γ := by
  intro a w ha hw
  have hw' := hw.draw (w.drawn + 1)
  have h1 := h ⟨_, hc _ hw'⟩ (fun a w => Real n w0 X .normal a w) (fun L M Γ hX a w ha hw => ⟨L, M, Γ, hX, ha, hw⟩) a _ ha hw' (hc _ hw')
  have h2 := wp_region_held (P := P) (id := id) (Q := Norm (fun a w => Real n w0 X .normal a w)) (S := St w0 Mc Γc) (ops := l.toArray) (a := a) (w := w) hm (by simpa using h1)
  refine wp_mono h2 fun e a w he => ?_
  cases e <;> first | exact he | exact he.elim

theorem pure_iff {x : As} (hb : x.blk = none) (hx : ∀ w, x.ok M w) : ∀ w, St w0 M Γc w ↔ St w0 M (x :: Γc) w := fun w => ⟨fun h => h.add (hx w) hb, fun h => h.sub (List.sublist_cons_self _ _)⟩

/-- A quiet operation whose value is known by what it reads as. -/
theorem HL.takeX (i : Nat) {op : Op} {ty : TypeId} {pos : String} {after : Array Edge} {g : Option (Nat × Bool)} {d : Nat} (hi : ops[i]? = some ⟨some d, op, ty, pos, after, g⟩) (hs : Region.noSelect ops = true) (hf : Region.free .any ops listed i = true)
    (hr : (Region.ready .any ops listed).contains i = true) (hg : Want ops L ⟨some d, op, ty, pos, after, g⟩ true) (F : Value → As → Prop) (hex : ∀ w, St w0 M Γc w → ∃ v x, F v x)
    (hF : ∀ v x, F v x → Yq P w0 L M Γc ⟨some d, op, ty, pos, after, g⟩ v ∧ x.blk = none ∧ ∀ w, x.ok M w) (hd : Nat.blt d n = true)
    (h : ∀ v x, F v x → HL P n w0 ops M (x :: Γc) fuel (listed.setIfInBounds i true) ((d, v) :: L) M (x :: Γ) K) : HL P n w0 ops M Γc (fuel + 1) listed L M Γ K := by
  refine HL.know hex ?_
  rintro ⟨v, x, hv⟩
  obtain ⟨h1, h2, h3⟩ := hF v x hv
  refine HL.take i hi hs hf hr hg h1 hd ?_
  have h4 := h v x hv
  refine HL.more (pure_iff h2 h3) ?_
  exact fun hex R hR a w ha hw hc => h4 hex R hR a w ha (hw.add (h3 w) h2) hc

theorem HL.loadSl (i : Nat) {x : Operand} {t : TypeId} {ty : TypeId} {pos : String} {af : Array Edge} {g : Option (Nat × Bool)} {d : Nat} {a : Option Addr} {q n0 sz0 l c n1 sz1 : Nat} {cs cs1 : List D} (hi : ops[i]? = some ⟨some d, .load t x, ty, pos, af, g⟩) (hs : Region.noSelect ops = true) (hf : Region.free .any ops listed i = true)
    (hr : (Region.ready .any ops listed).contains i = true) (hg : Want ops L ⟨some d, .load t x, ty, pos, af, g⟩ true)
    (hx : evL L x = some (.pointer (some (adr a q)))) (hm : As.rd (.sl n0 sz0 cs) (.slice a l c) ∈ Γc) (hq : cs[q]? = some (.sl n1 sz1 cs1)) (hfl : flatB P t = true) (hd : Nat.blt d n = true)
    (h : ∀ a1 c1, n1 ≤ c1 → n1 ≤ 140737488355328 → HL P n w0 ops M (.rd (.sl n1 sz1 cs1) (.slice a1 n1 c1) :: Γc) fuel (listed.setIfInBounds i true) ((d, .slice a1 n1 c1) :: L) M (.rd (.sl n1 sz1 cs1) (.slice a1 n1 c1) :: Γ) K) :
    HL P n w0 ops M Γc (fuel + 1) listed L M Γ K := by
  refine HL.takeX i hi hs hf hr hg (fun v x => cellM M (adr a q) = some v ∧ Rd M (.sl n1 sz1 cs1) v ∧ x = .rd (.sl n1 sz1 cs1) v) (fun w hw => ?_) ?_ hd ?_
  · obtain ⟨u, h1, h2⟩ := hw.rd_cell hm hq
    exact ⟨u, _, h1, h2, rfl⟩
  · rintro v _ ⟨h1, h2, rfl⟩
    exact ⟨Y.load hx hfl fun w hw => hw.cell h1, rfl, fun _ => h2⟩
  · rintro v _ ⟨h1, h2, rfl⟩
    have hr' := h2
    simp only [Rd] at hr'
    obtain ⟨a1, c1, rfl, h3, _, h4, _⟩ := hr'
    exact h a1 c1 h3 h4

theorem HL.loadOwnSl (i : Nat) {x : Operand} {t : TypeId} {ty : TypeId} {pos : String} {af : Array Edge} {g : Option (Nat × Bool)} {d b e : Nat} {q n1 sz1 : Nat} {us : List Value} {ds cs1 : List D} (hi : ops[i]? = some ⟨some d, .load t x, ty, pos, af, g⟩) (hs : Region.noSelect ops = true) (hf : Region.free .any ops listed i = true)
    (hr : (Region.ready .any ops listed).contains i = true) (hg : Want ops L ⟨some d, .load t x, ty, pos, af, g⟩ true)
    (hx : evL L x = some (.pointer (some (adr (some ⟨b, 0, none⟩) q)))) (hm : As.own b e us ∈ Γc) (hrd : As.rds ds us ∈ Γc) (hq : ds[q]? = some (.sl n1 sz1 cs1)) (hfl : flatB P t = true) (hd : Nat.blt d n = true)
    (h : ∀ a1 c1, us[q]? = some (.slice a1 n1 c1) → n1 ≤ c1 → n1 ≤ 140737488355328 → HL P n w0 ops M (.rd (.sl n1 sz1 cs1) (.slice a1 n1 c1) :: Γc) fuel (listed.setIfInBounds i true) ((d, .slice a1 n1 c1) :: L) M (.rd (.sl n1 sz1 cs1) (.slice a1 n1 c1) :: Γ) K) :
    HL P n w0 ops M Γc (fuel + 1) listed L M Γ K := by
  refine HL.takeX i hi hs hf hr hg (fun v x => us[q]? = some v ∧ Rd M (.sl n1 sz1 cs1) v ∧ x = .rd (.sl n1 sz1 cs1) v) (fun w hw => ?_) ?_ hd ?_
  · obtain ⟨u, h1, h2⟩ := RdL.get (hw.all _ hrd) hq
    exact ⟨u, _, h1, h2, rfl⟩
  · rintro v _ ⟨h1, h2, rfl⟩
    exact ⟨Y.load hx hfl fun w hw => hw.own_cell hm h1, rfl, fun _ => h2⟩
  · rintro v _ ⟨h1, h2, rfl⟩
    have hr' := h2
    simp only [Rd] at hr'
    obtain ⟨a1, c1, rfl, h3, _, h4, _⟩ := hr'
    exact h a1 c1 h1 h3 h4

theorem HL.loadAgg (i : Nat) {x : Operand} {t : TypeId} {ty : TypeId} {pos : String} {af : Array Edge} {g : Option (Nat × Bool)} {d : Nat} {a : Option Addr} {q sz n0 sz0 l c : Nat} {cs ds : List D} (hi : ops[i]? = some ⟨some d, .load t x, ty, pos, af, g⟩) (hs : Region.noSelect ops = true) (hf : Region.free .any ops listed i = true)
    (hr : (Region.ready .any ops listed).contains i = true) (hg : Want ops L ⟨some d, .load t x, ty, pos, af, g⟩ true)
    (hx : evL L x = some (.pointer (some (adr a q)))) (hm : As.rd (.sl n0 sz0 cs) (.slice a l c) ∈ Γc) (hq : (cs.drop q).take sz = ds) (hl : ds.length = sz) (hag : aggB P t sz = true) (hd : Nat.blt d n = true)
    (h : ∀ us, us.length = sz → RdL M ds us → HL P n w0 ops M (.rds ds us :: Γc) fuel (listed.setIfInBounds i true) ((d, .agg us.toArray) :: L) M (.rds ds us :: Γ) K) :
    HL P n w0 ops M Γc (fuel + 1) listed L M Γ K := by
  refine HL.takeX i hi hs hf hr hg (fun v x => ∃ us, v = .agg us.toArray ∧ x = .rds ds us ∧ RdL M ds us ∧ ∀ j v, us[j]? = some v → cellM M (adr a (q + j)) = some v) (fun w hw => ?_) ?_ hd ?_
  · obtain ⟨us, h1, h2⟩ := cells_of (M := M) (a := a) (q := q) (ds := ds) (fun j e hj => hw.rd_cell hm (sub_get hq hj))
    exact ⟨_, _, us, rfl, rfl, h1, h2⟩
  · rintro _ _ ⟨us, rfl, rfl, h1, h2⟩
    refine ⟨Y.loadAgg hx (by rw [h1.1, hl]; exact hag) fun w hw j v hj => ?_, rfl, fun _ => h1⟩
    rw [adr_add]
    exact hw.cell (h2 j v hj)
  · rintro _ _ ⟨us, rfl, rfl, h1, h2⟩
    exact h us (by rw [h1.1, hl]) h1

/-- The class: all but what the region turns. -/
theorem CW.regionHP {id : Nat} {X : Pst} {l : List Oper} {x : As} {R : List As} (hm : P.follows .mixedOrders = true) (hp : Pick x Γ R)
    (h : HL P n w0 l.toArray M R l.length (Array.replicate l.length false) L M Γ (X .normal)) : CW P n w0 (.region id l.toArray true) X L M Γ :=
  CW.regionH hm M R (fun _ hw => (hw.perm hp.perm).sub (List.sublist_cons_self _ _)) h
end
end Xe
