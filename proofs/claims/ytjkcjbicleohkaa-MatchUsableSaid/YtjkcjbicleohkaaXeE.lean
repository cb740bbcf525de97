/-
  THE ENGINE, PART E: derived rules: loads, new blocks, stores, appends, calls. Printed by gen_E.py. No program in sight.
-/
import Derived.Test.YtjkcjbicleohkaaXeD
namespace Xe
open Go

theorem sub_get {cs ds : List D} {q sz : Nat} (hq : (cs.drop q).take sz = ds) {j : Nat} {e : D} (hj : ds[j]? = some e) : cs[q + j]? = some e := by
  subst hq
  have hlt : j < ((cs.drop q).take sz).length := by
    rcases Nat.lt_or_ge j ((cs.drop q).take sz).length with h | h
    · exact h
    · rw [List.getElem?_eq_none h] at hj; cases hj
  have h2 : j < sz := by simp at hlt; omega
  rw [List.getElem?_take_of_lt h2, List.getElem?_drop] at hj
  exact hj

theorem cells_of {M : Mem} {a : Option Addr} {q : Nat} : ∀ {ds : List D}, (∀ j e, ds[j]? = some e → ∃ u, cellM M (adr a (q + j)) = some u ∧ Rd M e u) →
    ∃ us, RdL M ds us ∧ ∀ j v, us[j]? = some v → cellM M (adr a (q + j)) = some v := by
  intro ds
  induction ds generalizing q with
  | nil => exact fun _ => ⟨[], RdL.nil M, fun j v h => by simp at h⟩
  | cons d ds ih =>
    intro h
    obtain ⟨u, h1, h2⟩ := h 0 d rfl
    obtain ⟨us, h3, h4⟩ := ih (q := q + 1) fun j e hj => by
      have := h (j + 1) e (by simpa using hj)
      rwa [show q + 1 + j = q + (j + 1) from by omega]
    refine ⟨u :: us, RdL.cons h2 h3, fun j v hj => ?_⟩
    cases j with
    | zero => simp only [List.getElem?_cons_zero, Option.some.injEq] at hj; subst hj; exact h1
    | succ j =>
      have := h4 j v (by simpa using hj)
      rwa [show q + 1 + j = q + (j + 1) from by omega] at this

theorem RdL.get {M : Mem} {ds : List D} {us : List Value} (h : RdL M ds us) {q : Nat} {e : D} (hq : ds[q]? = some e) : ∃ u, us[q]? = some u ∧ Rd M e u := by
  have hlt : q < us.length := by
    rw [h.1]
    rcases Nat.lt_or_ge q ds.length with h | h
    · exact h
    · rw [List.getElem?_eq_none h] at hq; cases hq
  exact ⟨us[q], by simp [hlt], h.2 q _ _ hq (by simp [hlt])⟩

theorem Rd.one {M : Mem} : ∀ {d : D} {u : Value}, Rd M d u → u.oneCell' = true
  | .v x, u, h => by simp only [Rd] at h; rw [h.1]; exact h.2
  | .sl n sz cs, u, h => by
    simp only [Rd] at h
    obtain ⟨a, c, rfl, _⟩ := h
    rfl
theorem RdL.one {M : Mem} {ds : List D} {us : List Value} (h : RdL M ds us) : ∀ u ∈ us, u.oneCell' = true := by
  intro u hu
  obtain ⟨k, hk, rfl⟩ := List.mem_iff_getElem.1 hu
  have hk' : k < ds.length := by rw [← h.1]; exact hk
  exact Rd.one (h.2 k ds[k] us[k] (by simp [hk']) (by simp [hk]))

section
variable {P : Program} {w0 : World} {L : Lm} {M : Mem} {Γ : List As} {d : Option Nat} {ty : TypeId} {pos : String} {af : Array Edge} {g : Option (Nat × Bool)}
namespace Y
/-- A plain value out of sealed memory. -/
theorem loadRd {x : Operand} {t : TypeId} {a : Option Addr} {q n0 sz0 l c : Nat} {cs : List D} {v : Value} (hx : evL L x = some (.pointer (some (adr a q)))) (hm : As.rd (.sl n0 sz0 cs) (.slice a l c) ∈ Γ) (hq : cs[q]? = some (.v v)) (hf : flatB P t = true) :
    Yq P w0 L M Γ ⟨d, .load t x, ty, pos, af, g⟩ v :=
  Y.load hx hf fun w hw => by
    obtain ⟨u, h1, h2⟩ := hw.rd_cell hm hq
    simp only [Rd] at h2
    rw [← h2.1]
    exact hw.cell h1
/-- .. out of a block of the call's own, known by its very values. -/
theorem loadOwn {x : Operand} {t : TypeId} {b e q : Nat} {cs : List Value} {v : Value} (hx : evL L x = some (.pointer (some (adr (some ⟨b, 0, none⟩) q)))) (hm : As.own b e cs ∈ Γ) (hq : cs[q]? = some v) (hf : flatB P t = true) :
    Yq P w0 L M Γ ⟨d, .load t x, ty, pos, af, g⟩ v := Y.load hx hf fun _ hw => hw.own_cell hm hq
/-- .. known by what its values read as. -/
theorem loadOwnV {x : Operand} {t : TypeId} {b e q : Nat} {us : List Value} {ds : List D} {v : Value} (hx : evL L x = some (.pointer (some (adr (some ⟨b, 0, none⟩) q)))) (hm : As.own b e us ∈ Γ) (hr : As.rds ds us ∈ Γ) (hq : ds[q]? = some (.v v)) (hf : flatB P t = true) :
    Yq P w0 L M Γ ⟨d, .load t x, ty, pos, af, g⟩ v := Y.load hx hf fun w hw => by
      obtain ⟨u, h1, h2⟩ := RdL.get (hw.all _ hr) hq
      simp only [Rd] at h2
      rw [← h2.1]
      exact hw.own_cell hm h1
theorem vs_get {vs : List Value} {j : Nat} {v : Value} (h : vs[j]? = some v) : (vs.map D.v)[j]? = some (.v v) := by simp [h]
/-- A struct of plain values out of sealed memory. -/
theorem loadAggRd {x : Operand} {t : TypeId} {a : Option Addr} {q n0 sz0 l c : Nat} {cs : List D} (vs : List Value) (hx : evL L x = some (.pointer (some (adr a q)))) (hm : As.rd (.sl n0 sz0 cs) (.slice a l c) ∈ Γ) (hq : (cs.drop q).take vs.length = vs.map D.v) (hf : aggB P t vs.length = true) :
    Yq P w0 L M Γ ⟨d, .load t x, ty, pos, af, g⟩ (.agg vs.toArray) := Y.loadAgg hx hf fun w hw j v hj => by
      obtain ⟨u, h1, h2⟩ := hw.rd_cell hm (sub_get hq (vs_get hj))
      simp only [Rd] at h2
      rw [← h2.1, adr_add]
      exact hw.cell h1
/-- .. out of a block of the call's own, known by its very values. -/
theorem loadAggOwn {x : Operand} {t : TypeId} {b e q : Nat} {cs : List Value} (vs : List Value) (hx : evL L x = some (.pointer (some (adr (some ⟨b, 0, none⟩) q)))) (hm : As.own b e cs ∈ Γ) (hq : ∀ j v, vs[j]? = some v → cs[q + j]? = some v) (hf : aggB P t vs.length = true) :
    Yq P w0 L M Γ ⟨d, .load t x, ty, pos, af, g⟩ (.agg vs.toArray) := Y.loadAgg hx hf fun _ hw j v hj => by
      rw [adr_add]
      exact hw.own_cell hm (hq j v hj)
/-- .. the whole block. -/
theorem loadAll {x : Operand} {t : TypeId} {b e : Nat} {cs : List Value} {sz : Nat} (hx : evL L x = some (.pointer (some (adr (some ⟨b, 0, none⟩) 0)))) (hm : As.own b e cs ∈ Γ) (hl : cs.length = sz) (hf : aggB P t sz = true) :
    Yq P w0 L M Γ ⟨d, .load t x, ty, pos, af, g⟩ (.agg cs.toArray) := loadAggOwn cs hx hm (fun j v h => by simpa using h) (by rw [hl]; exact hf)
/-- .. a part of plain values, known by what they read as. -/
theorem loadAggV {x : Operand} {t : TypeId} {b e q : Nat} {us : List Value} {ds : List D} (vs : List Value) (hx : evL L x = some (.pointer (some (adr (some ⟨b, 0, none⟩) q)))) (hm : As.own b e us ∈ Γ) (hr : As.rds ds us ∈ Γ) (hq : (ds.drop q).take vs.length = vs.map D.v) (hf : aggB P t vs.length = true) :
    Yq P w0 L M Γ ⟨d, .load t x, ty, pos, af, g⟩ (.agg vs.toArray) := Y.loadAgg hx hf fun w hw j v hj => by
      obtain ⟨u, h1, h2⟩ := RdL.get (hw.all _ hr) (sub_get hq (vs_get hj))
      simp only [Rd] at h2
      rw [← h2.1, adr_add]
      exact hw.own_cell hm h1
end Y
end

section
variable {P : Program} {n : Nat} {w0 : World} {ops : Array Oper} {rest : List Oper} {L : Lm} {M : Mem} {Γ : List As} {K : Lm → Mem → List As → Prop}
theorem RL.more {Γ' : List As} (hG : ∀ w, St w0 M Γ w → St w0 M Γ' w) (h : RL P n w0 ops rest L M Γ' K) : RL P n w0 ops rest L M Γ K := RL.pre (Keep.refl L) hG h

/-- A nested slice, out of sealed memory. -/
theorem RL.loadSl {x : Operand} {t : TypeId} {ty : TypeId} {pos : String} {af : Array Edge} {g : Option (Nat × Bool)} {d : Nat} {a : Option Addr} {q n0 sz0 l c n1 sz1 : Nat} {cs cs1 : List D}
    (hg : Want ops L ⟨some d, .load t x, ty, pos, af, g⟩ true) (hx : evL L x = some (.pointer (some (adr a q)))) (hm : As.rd (.sl n0 sz0 cs) (.slice a l c) ∈ Γ) (hq : cs[q]? = some (.sl n1 sz1 cs1)) (hf : flatB P t = true) (hd : Nat.blt d n = true)
    (h : ∀ a1 c1, n1 ≤ c1 → n1 ≤ 140737488355328 → RL P n w0 ops rest ((d, .slice a1 n1 c1) :: L) M (.rd (.sl n1 sz1 cs1) (.slice a1 n1 c1) :: Γ) K) :
    RL P n w0 ops (⟨some d, .load t x, ty, pos, af, g⟩ :: rest) L M Γ K := by
  refine RL.know (F := ∃ u, cellM M (adr a q) = some u ∧ Rd M (.sl n1 sz1 cs1) u) (fun w hw => hw.rd_cell hm hq) ?_
  rintro ⟨u, hu, hr⟩
  have hr' := hr
  simp only [Rd] at hr'
  obtain ⟨a1, c1, rfl, h2, h3, h4, _⟩ := hr'
  exact RL.qw hg (Y.load hx hf fun w hw => hw.cell hu) hd (RL.more (fun w hw => hw.add (x := .rd (.sl n1 sz1 cs1) (.slice a1 n1 c1)) hr rfl) (h a1 c1 h2 h4))

/-- .. out of a block of the call's own. -/
theorem RL.loadOwnSl {x : Operand} {t : TypeId} {ty : TypeId} {pos : String} {af : Array Edge} {g : Option (Nat × Bool)} {d b e : Nat} {q n1 sz1 : Nat} {us : List Value} {ds cs1 : List D}
    (hg : Want ops L ⟨some d, .load t x, ty, pos, af, g⟩ true) (hx : evL L x = some (.pointer (some (adr (some ⟨b, 0, none⟩) q)))) (hm : As.own b e us ∈ Γ) (hr : As.rds ds us ∈ Γ) (hq : ds[q]? = some (.sl n1 sz1 cs1)) (hf : flatB P t = true) (hd : Nat.blt d n = true)
    (h : ∀ a1 c1, us[q]? = some (.slice a1 n1 c1) → n1 ≤ c1 → n1 ≤ 140737488355328 → RL P n w0 ops rest ((d, .slice a1 n1 c1) :: L) M (.rd (.sl n1 sz1 cs1) (.slice a1 n1 c1) :: Γ) K) :
    RL P n w0 ops (⟨some d, .load t x, ty, pos, af, g⟩ :: rest) L M Γ K := by
  refine RL.know (F := ∃ u, us[q]? = some u ∧ Rd M (.sl n1 sz1 cs1) u) (fun w hw => ?_) ?_
  · have := hw.all _ hr
    simp only [As.ok] at this
    have hlt : q < us.length := by
      rw [this.1]
      rcases Nat.lt_or_ge q ds.length with h | h
      · exact h
      · rw [List.getElem?_eq_none h] at hq; cases hq
    exact ⟨us[q], by simp [hlt], this.2 q _ _ hq (by simp [hlt])⟩
  · rintro ⟨u, hu, hr⟩
    have hr' := hr
    simp only [Rd] at hr'
    obtain ⟨a1, c1, rfl, h2, h3, h4, _⟩ := hr'
    exact RL.qw hg (Y.load hx hf fun w hw => hw.own_cell hm hu) hd (RL.more (fun w hw => hw.add (x := .rd (.sl n1 sz1 cs1) (.slice a1 n1 c1)) hr rfl) (h a1 c1 hu h2 h4))

/-- A struct out of sealed memory. -/
theorem RL.loadAgg {x : Operand} {t : TypeId} {ty : TypeId} {pos : String} {af : Array Edge} {g : Option (Nat × Bool)} {d : Nat} {a : Option Addr} {q sz n0 sz0 l c : Nat} {cs ds : List D}
    (hg : Want ops L ⟨some d, .load t x, ty, pos, af, g⟩ true) (hx : evL L x = some (.pointer (some (adr a q)))) (hm : As.rd (.sl n0 sz0 cs) (.slice a l c) ∈ Γ) (hq : (cs.drop q).take sz = ds) (hl : ds.length = sz) (hf : aggB P t sz = true) (hd : Nat.blt d n = true)
    (h : ∀ us, us.length = sz → RdL M ds us → RL P n w0 ops rest ((d, .agg us.toArray) :: L) M (.rds ds us :: Γ) K) :
    RL P n w0 ops (⟨some d, .load t x, ty, pos, af, g⟩ :: rest) L M Γ K := by
  refine RL.know (F := ∃ us, RdL M ds us ∧ ∀ j v, us[j]? = some v → cellM M (adr a (q + j)) = some v) (fun w hw => cells_of (fun j e hj => hw.rd_cell hm (sub_get hq hj))) ?_
  rintro ⟨us, hr, hc⟩
  have hul : us.length = sz := by rw [hr.1, hl]
  refine RL.qw hg (Y.loadAgg (vs := us) hx (by rw [hul]; exact hf) fun _ hw j v hj => ?_) hd (RL.more (fun w hw => hw.add (x := .rds ds us) hr rfl) (h us hul hr))
  rw [adr_add]
  exact hw.cell (hc j v hj)

/-- A part of a block of the call's own, known by what it reads as. -/
theorem RL.loadPart {x : Operand} {t : TypeId} {ty : TypeId} {pos : String} {af : Array Edge} {g : Option (Nat × Bool)} {d b e : Nat} {q sz : Nat} {us : List Value} {ds ds' : List D}
    (hg : Want ops L ⟨some d, .load t x, ty, pos, af, g⟩ true) (hx : evL L x = some (.pointer (some (adr (some ⟨b, 0, none⟩) q)))) (hm : As.own b e us ∈ Γ) (hr : As.rds ds us ∈ Γ) (hq : (ds.drop q).take sz = ds') (hl : ds'.length = sz) (hf : aggB P t sz = true) (hd : Nat.blt d n = true)
    (h : ∀ us', us'.length = sz → RdL M ds' us' → RL P n w0 ops rest ((d, .agg us'.toArray) :: L) M (.rds ds' us' :: Γ) K) :
    RL P n w0 ops (⟨some d, .load t x, ty, pos, af, g⟩ :: rest) L M Γ K := by
  refine RL.know (F := RdL M ds us) (fun w hw => hw.all _ hr) ?_
  intro hus
  have hr' : RdL M ds' ((us.drop q).take sz) := by
    refine ⟨?_, fun k e u h1 h2 => ?_⟩
    · rw [← hq]; simp [hus.1]
    · have h1' := sub_get hq h1
      have h2' : us[q + k]? = some u := by
        have hk : k < sz := by
          rcases Nat.lt_or_ge k sz with h | h
          · exact h
          · rw [List.getElem?_eq_none (by simp; omega)] at h2; cases h2
        rwa [List.getElem?_take_of_lt hk, List.getElem?_drop] at h2
      exact hus.2 _ _ _ h1' h2'
  have hul : ((us.drop q).take sz).length = sz := by rw [hr'.1, hl]
  refine RL.qw hg (Y.loadAggOwn ((us.drop q).take sz) hx hm (fun j v hj => ?_) (by rw [hul]; exact hf)) hd (RL.more (fun w hw => hw.add (x := .rds ds' _) hr' rfl) (h _ hul hr'))
  have hk : j < sz := by
    rcases Nat.lt_or_ge j sz with h | h
    · exact h
    · rw [List.getElem?_eq_none (by simp; omega)] at hj; cases hj
  rwa [List.getElem?_take_of_lt hk, List.getElem?_drop] at hj
end

section
variable {P : Program} {n : Nat} {w0 : World} {ops : Array Oper} {C0 : List As} {rest : List Oper} {L : Lm} {M : Mem} {Γ : List As} {K : Lm → List As → Prop}

/-- A nested slice, out of sealed memory. -/
theorem QL.loadSl {x : Operand} {t : TypeId} {ty : TypeId} {pos : String} {af : Array Edge} {g : Option (Nat × Bool)} {d : Nat} {a : Option Addr} {q n0 sz0 l c n1 sz1 : Nat} {cs cs1 : List D}
    (hg : Want ops L ⟨some d, .load t x, ty, pos, af, g⟩ true) (hx : evL L x = some (.pointer (some (adr a q)))) (hm : As.rd (.sl n0 sz0 cs) (.slice a l c) ∈ Γ) (hq : cs[q]? = some (.sl n1 sz1 cs1)) (hf : flatB P t = true) (hd : Nat.blt d n = true)
    (h : ∀ a1 c1, n1 ≤ c1 → n1 ≤ 140737488355328 → QL P n w0 ops C0 M rest ((d, .slice a1 n1 c1) :: L)  (.rd (.sl n1 sz1 cs1) (.slice a1 n1 c1) :: Γ) K) :
    QL P n w0 ops C0 M (⟨some d, .load t x, ty, pos, af, g⟩ :: rest) L  Γ K := by
  refine QL.know (F := ∃ u, cellM M (adr a q) = some u ∧ Rd M (.sl n1 sz1 cs1) u) (fun w hw => hw.rd_cell hm hq) ?_
  rintro ⟨u, hu, hr⟩
  have hr' := hr
  simp only [Rd] at hr'
  obtain ⟨a1, c1, rfl, h2, h3, h4, _⟩ := hr'
  exact QL.qw hg (Y.load hx hf fun w hw => hw.cell hu) hd (QL.more (fun w hw => hw.add (x := .rd (.sl n1 sz1 cs1) (.slice a1 n1 c1)) hr rfl) (h a1 c1 h2 h4))

/-- .. out of a block of the call's own. -/
theorem QL.loadOwnSl {x : Operand} {t : TypeId} {ty : TypeId} {pos : String} {af : Array Edge} {g : Option (Nat × Bool)} {d b e : Nat} {q n1 sz1 : Nat} {us : List Value} {ds cs1 : List D}
    (hg : Want ops L ⟨some d, .load t x, ty, pos, af, g⟩ true) (hx : evL L x = some (.pointer (some (adr (some ⟨b, 0, none⟩) q)))) (hm : As.own b e us ∈ Γ) (hr : As.rds ds us ∈ Γ) (hq : ds[q]? = some (.sl n1 sz1 cs1)) (hf : flatB P t = true) (hd : Nat.blt d n = true)
    (h : ∀ a1 c1, us[q]? = some (.slice a1 n1 c1) → n1 ≤ c1 → n1 ≤ 140737488355328 → QL P n w0 ops C0 M rest ((d, .slice a1 n1 c1) :: L)  (.rd (.sl n1 sz1 cs1) (.slice a1 n1 c1) :: Γ) K) :
    QL P n w0 ops C0 M (⟨some d, .load t x, ty, pos, af, g⟩ :: rest) L  Γ K := by
  refine QL.know (F := ∃ u, us[q]? = some u ∧ Rd M (.sl n1 sz1 cs1) u) (fun w hw => ?_) ?_
  · have := hw.all _ hr
    simp only [As.ok] at this
    have hlt : q < us.length := by
      rw [this.1]
      rcases Nat.lt_or_ge q ds.length with h | h
      · exact h
      · rw [List.getElem?_eq_none h] at hq; cases hq
    exact ⟨us[q], by simp [hlt], this.2 q _ _ hq (by simp [hlt])⟩
  · rintro ⟨u, hu, hr⟩
    have hr' := hr
    simp only [Rd] at hr'
    obtain ⟨a1, c1, rfl, h2, h3, h4, _⟩ := hr'
    exact QL.qw hg (Y.load hx hf fun w hw => hw.own_cell hm hu) hd (QL.more (fun w hw => hw.add (x := .rd (.sl n1 sz1 cs1) (.slice a1 n1 c1)) hr rfl) (h a1 c1 hu h2 h4))

/-- A struct out of sealed memory. -/
theorem QL.loadAgg {x : Operand} {t : TypeId} {ty : TypeId} {pos : String} {af : Array Edge} {g : Option (Nat × Bool)} {d : Nat} {a : Option Addr} {q sz n0 sz0 l c : Nat} {cs ds : List D}
    (hg : Want ops L ⟨some d, .load t x, ty, pos, af, g⟩ true) (hx : evL L x = some (.pointer (some (adr a q)))) (hm : As.rd (.sl n0 sz0 cs) (.slice a l c) ∈ Γ) (hq : (cs.drop q).take sz = ds) (hl : ds.length = sz) (hf : aggB P t sz = true) (hd : Nat.blt d n = true)
    (h : ∀ us, us.length = sz → RdL M ds us → QL P n w0 ops C0 M rest ((d, .agg us.toArray) :: L)  (.rds ds us :: Γ) K) :
    QL P n w0 ops C0 M (⟨some d, .load t x, ty, pos, af, g⟩ :: rest) L  Γ K := by
  refine QL.know (F := ∃ us, RdL M ds us ∧ ∀ j v, us[j]? = some v → cellM M (adr a (q + j)) = some v) (fun w hw => cells_of (fun j e hj => hw.rd_cell hm (sub_get hq hj))) ?_
  rintro ⟨us, hr, hc⟩
  have hul : us.length = sz := by rw [hr.1, hl]
  refine QL.qw hg (Y.loadAgg (vs := us) hx (by rw [hul]; exact hf) fun _ hw j v hj => ?_) hd (QL.more (fun w hw => hw.add (x := .rds ds us) hr rfl) (h us hul hr))
  rw [adr_add]
  exact hw.cell (hc j v hj)

/-- A part of a block of the call's own, known by what it reads as. -/
theorem QL.loadPart {x : Operand} {t : TypeId} {ty : TypeId} {pos : String} {af : Array Edge} {g : Option (Nat × Bool)} {d b e : Nat} {q sz : Nat} {us : List Value} {ds ds' : List D}
    (hg : Want ops L ⟨some d, .load t x, ty, pos, af, g⟩ true) (hx : evL L x = some (.pointer (some (adr (some ⟨b, 0, none⟩) q)))) (hm : As.own b e us ∈ Γ) (hr : As.rds ds us ∈ Γ) (hq : (ds.drop q).take sz = ds') (hl : ds'.length = sz) (hf : aggB P t sz = true) (hd : Nat.blt d n = true)
    (h : ∀ us', us'.length = sz → RdL M ds' us' → QL P n w0 ops C0 M rest ((d, .agg us'.toArray) :: L)  (.rds ds' us' :: Γ) K) :
    QL P n w0 ops C0 M (⟨some d, .load t x, ty, pos, af, g⟩ :: rest) L  Γ K := by
  refine QL.know (F := RdL M ds us) (fun w hw => hw.all _ hr) ?_
  intro hus
  have hr' : RdL M ds' ((us.drop q).take sz) := by
    refine ⟨?_, fun k e u h1 h2 => ?_⟩
    · rw [← hq]; simp [hus.1]
    · have h1' := sub_get hq h1
      have h2' : us[q + k]? = some u := by
        have hk : k < sz := by
          rcases Nat.lt_or_ge k sz with h | h
          · exact h
          · rw [List.getElem?_eq_none (by simp; omega)] at h2; cases h2
        rwa [List.getElem?_take_of_lt hk, List.getElem?_drop] at h2
      exact hus.2 _ _ _ h1' h2'
  have hul : ((us.drop q).take sz).length = sz := by rw [hr'.1, hl]
  refine QL.qw hg (Y.loadAggOwn ((us.drop q).take sz) hx hm (fun j v hj => ?_) (by rw [hul]; exact hf)) hd (QL.more (fun w hw => hw.add (x := .rds ds' _) hr' rfl) (h _ hul hr'))
  have hk : j < sz := by
    rcases Nat.lt_or_ge j sz with h | h
    · exact h
    · rw [List.getElem?_eq_none (by simp; omega)] at hj; cases hj
  rwa [List.getElem?_take_of_lt hk, List.getElem?_drop] at hj
end

/-! ### New blocks -/
section
variable {P : Program} {n : Nat} {w0 : World} {ops : Array Oper} {rest : List Oper} {L : Lm} {M : Mem} {Γ : List As} {K : Lm → Mem → List As → Prop} {ty : TypeId} {pos : String} {af : Array Edge} {d : Nat}

/-- A variable is made, with a value. -/
theorem RL.box {e : TypeId} {x : Operand} {v : Value} (cs : List Value) (hx : evL L x = some v) (hc : v.cells = cs.toArray) (hd : Nat.blt d n = true)
    (h : ∀ b, RL P n w0 ops rest ((d, .pointer (some (adr (some ⟨b, 0, none⟩) 0))) :: L) M (.own b e cs :: Γ) K) : RL P n w0 ops (⟨some d, .box e x, ty, pos, af, none⟩ :: rest) L M Γ K := by
  refine RL.e (fun v M' Γ' => ∃ b, v = .pointer (some (adr (some ⟨b, 0, none⟩) 0)) ∧ M' = M ∧ Γ' = .own b e cs :: Γ) (fun n a w ha hw => ?_) hd ?_
  · refine ⟨.pointer (some ⟨w.heap.size, 0, none⟩), _, M, _, ?_, ⟨w.heap.size, by rw [adr_some], rfl, rfl⟩, hw.alloc e cs⟩
    simp [execOp, ha.ev hx, Instr.box, newVar, newRow, hc]
  · rintro v M' Γ' ⟨b, rfl, rfl, rfl⟩
    exact h b

def zeroB (P : Program) (e : TypeId) : Option Value := (P.info? e).bind (·.zero)
theorem run_zeroB {w : World} {e : TypeId} {z : Value} (h : zeroB P e = some z) : (zeroValue e).run P w = .ok z w := by
  unfold zeroB at h
  cases hi : P.info? e with
  | none => simp [hi] at h
  | some i =>
    simp only [hi, Option.bind_some] at h
    simp [zeroValue, typeInfo, hi, h]

/-- A variable is made, zero. -/
theorem RL.alloc {e : TypeId} {z : Value} (cs : List Value) (hz : zeroB P e = some z) (hc : z.cells = cs.toArray) (hd : Nat.blt d n = true)
    (h : ∀ b, RL P n w0 ops rest ((d, .pointer (some (adr (some ⟨b, 0, none⟩) 0))) :: L) M (.own b e cs :: Γ) K) : RL P n w0 ops (⟨some d, .alloc e, ty, pos, af, none⟩ :: rest) L M Γ K := by
  refine RL.e (fun v M' Γ' => ∃ b, v = .pointer (some (adr (some ⟨b, 0, none⟩) 0)) ∧ M' = M ∧ Γ' = .own b e cs :: Γ) (fun n a w ha hw => ?_) hd ?_
  · refine ⟨.pointer (some ⟨w.heap.size, 0, none⟩), _, M, _, ?_, ⟨w.heap.size, by rw [adr_some], rfl, rfl⟩, hw.alloc e cs⟩
    simp [execOp, Instr.alloc, run_zeroB hz, newVar, newRow, hc]
  · rintro v M' Γ' ⟨b, rfl, rfl, rfl⟩
    exact h b
end

/-! ### Stores -/
/-- Γ' is Γ with x' in the place of x. -/
inductive Repl (x x' : As) : List As → List As → Prop
  | here (Γ : List As) : Repl x x' (x :: Γ) (x' :: Γ)
  | there (y : As) {Γ Γ' : List As} : Repl x x' Γ Γ' → Repl x x' (y :: Γ) (y :: Γ')

theorem Repl.perm {x x' : As} {Γ Γ' : List As} (h : Repl x x' Γ Γ') : ∃ R, List.Perm Γ (x :: R) ∧ List.Perm (x' :: R) Γ' := by
  induction h with
  | here Γ => exact ⟨Γ, .refl _, .refl _⟩
  | there y _ ih =>
    obtain ⟨R, h1, h2⟩ := ih
    exact ⟨y :: R, (h1.cons y).trans (.swap x y R), (List.Perm.swap y x' R).trans (h2.cons y)⟩

theorem St.write_at {w0 w : World} {M : Mem} {Γ Γ' : List As} {b : Nat} {e : TypeId} {cs cs' : List Value} (hw : St w0 M Γ w) (hr : Repl (.own b e cs) (.own b e cs') Γ Γ') :
    St w0 M Γ' { w with heap := w.heap.setIfInBounds b (.cells cs'.toArray e (0, 0)) } := by
  obtain ⟨R, h1, h2⟩ := hr.perm
  exact ((hw.perm h1).write cs' _ rfl).perm h2

theorem Repl.mem {x x' : As} {Γ Γ' : List As} (h : Repl x x' Γ Γ') : x ∈ Γ := by
  induction h with
  | here Γ => exact List.mem_cons_self ..
  | there y _ ih => exact List.mem_cons_of_mem _ ih

theorem set_own {w : World} {b : Nat} {e : TypeId} {cs : List Value} (h : w.heap[b]? = some (.cells cs.toArray e (0, 0))) (q : Nat) (v : Value) :
    w.setCell (adr (some ⟨b, 0, none⟩) q) v = { w with heap := w.heap.setIfInBounds b (.cells (cs.set q v).toArray e (0, 0)) } := by
  rw [adr_some]
  have hlt : b < w.heap.size := (Array.getElem?_eq_some_iff.1 h).1
  have hb : w.heap[b] = .cells cs.toArray e (0, 0) := (Array.getElem?_eq_some_iff.1 h).2
  simp only [World.setCell]
  congr 1
  apply Array.ext
  · simp
  · intro i h1 h2
    by_cases hi : b = i
    · subst hi
      simp [Array.getElem_modify, hb]
    · rw [Array.getElem_modify, if_neg hi, Array.getElem_setIfInBounds_ne (by simpa using h1) hi]

section
variable {P : Program} {n : Nat} {w0 : World} {ops : Array Oper} {rest : List Oper} {L : Lm} {M : Mem} {Γ : List As} {K : Lm → Mem → List As → Prop} {ty : TypeId} {pos : String} {af : Array Edge} {d : Nat}
theorem run_store_own {w : World} {b : Nat} {e : TypeId} {cs : List Value} (h : w.heap[b]? = some (.cells cs.toArray e (0, 0))) {q : Nat} {v : Value} (hq : q < cs.length) (h1 : v.oneCell' = true) :
    (store (adr (some ⟨b, 0, none⟩) q) v).run P w = .ok () { w with heap := w.heap.setIfInBounds b (.cells (cs.set q v).toArray e (0, 0)) } := by
  have hc : w.cell? (adr (some ⟨b, 0, none⟩) q) = some cs[q] := by rw [adr_some]; simp [World.cell?, h, hq]
  have hf : w.frozen? (adr (some ⟨b, 0, none⟩) q) = false := by rw [adr_some]; simp [World.frozen?, h]
  rw [run_store P w _ v _ h1, hc]
  simp only [hf]
  rw [set_own h]
  simp

/-- One cell of a block of the call's own. -/
theorem RL.store {t : TypeId} {x y : Operand} {b e q : Nat} {cs : List Value} {v : Value} {Γ' : List As} (cs' : List Value) (hx : evL L x = some (.pointer (some (adr (some ⟨b, 0, none⟩) q)))) (hy : evL L y = some v)
    (hr : Repl (.own b e cs) (.own b e cs') Γ Γ') (hs : cs.set q v = cs') (hq : q < cs.length) (h1 : v.oneCell' = true) (ht : sizeB P t 1 = true)
    (h : RL P n w0 ops rest L M Γ' K) : RL P n w0 ops (⟨none, .store t x y, ty, pos, af, none⟩ :: rest) L M Γ K := by
  refine RL.s (Γ' := Γ') (fun n a w ha hw => ?_) h
  have hb := (hw.all _ hr.mem).2
  subst hs
  refine ⟨_, ?_, hw.write_at hr⟩
  have hcells : v.cells = #[v] := by cases v <;> first | rfl | simp [Value.oneCell'] at h1
  have h2 : (adr (some ⟨b, 0, none⟩) q).add 0 = adr (some ⟨b, 0, none⟩) q := by rw [adr_add]; rfl
  simp [execOp, ha.ev hx, ha.ev hy, Instr.storeAt, Instr.sureAddr, storeVar, hcells, run_sizeB ht, storeCells, h2, run_store_own hb hq h1]

theorem run_storeCells_own : ∀ (vs : List Value) (i : Nat) (w : World) (b : Nat) (e : TypeId) (cs : List Value) (q : Nat), w.heap[b]? = some (.cells cs.toArray e (0, 0)) → q + i + vs.length ≤ cs.length → (∀ v ∈ vs, v.oneCell' = true) →
    (storeCells (adr (some ⟨b, 0, none⟩) q) vs i).run P w = .ok () { w with heap := w.heap.setIfInBounds b (.cells (cs.take (q + i) ++ vs ++ cs.drop (q + i + vs.length)).toArray e (0, 0)) } := by
  intro vs i w b e cs q h hl h1
  rw [adr_some]
  have := run_storeCells_at P b (0 + q) e vs i cs.toArray w (by rw [h]) (by simpa using hl) h1
  rw [this]
  simp only [World.setRow, Nat.zero_add]
  congr 2
  have hlt : b < w.heap.size := (Array.getElem?_eq_some_iff.1 h).1
  have hb : w.heap[b] = .cells cs.toArray e (0, 0) := (Array.getElem?_eq_some_iff.1 h).2
  apply Array.ext
  · simp
  · intro j h3 h4
    by_cases hi : b = j
    · subst hi
      simp [Array.getElem_modify, hb]
    · rw [Array.getElem_modify, if_neg hi, Array.getElem_setIfInBounds_ne (by simpa using h3) hi]

/-- A struct into a block of the call's own. -/
theorem RL.storeAgg {t : TypeId} {x y : Operand} {b e q : Nat} {cs vs : List Value} {Γ' : List As} (cs' : List Value) (hx : evL L x = some (.pointer (some (adr (some ⟨b, 0, none⟩) q)))) (hy : evL L y = some (.agg vs.toArray))
    (hr : Repl (.own b e cs) (.own b e cs') Γ Γ') (hs : cs.take q ++ vs ++ cs.drop (q + vs.length) = cs') (hq : q + vs.length ≤ cs.length) (h1 : ∀ w, St w0 M Γ w → ∀ v ∈ vs, v.oneCell' = true) (ht : sizeB P t vs.length = true)
    (h : RL P n w0 ops rest L M Γ' K) : RL P n w0 ops (⟨none, .store t x y, ty, pos, af, none⟩ :: rest) L M Γ K := by
  refine RL.s (Γ' := Γ') (fun n a w ha hw => ?_) h
  have hb := (hw.all _ hr.mem).2
  subst hs
  refine ⟨_, ?_, hw.write_at hr⟩
  have h2 := run_storeCells_own (P := P) vs 0 w b e cs q hb (by simpa using hq) (h1 w hw)
  simp only [Nat.add_zero] at h2
  simp [execOp, ha.ev hx, ha.ev hy, Instr.storeAt, Instr.sureAddr, storeVar, Value.cells, run_sizeB ht, h2]
end

/-! ### Calls -/
def evs (L : Lm) : List Operand → Option (List Value)
  | [] => some []
  | x :: xs => match evL L x with
    | some v => match evs L xs with
      | some vs => some (v :: vs)
      | none => none
    | none => none
theorem Sat.evs {n : Nat} {L : Lm} {a : Act} (h : Sat n L a) : ∀ {xs : List Operand} {vs : List Value}, evs L xs = some vs → xs.map a.eval = vs
  | [], vs, hv => by simp only [Xe.evs, Option.some.injEq] at hv; simp [← hv]
  | x :: xs, vs, hv => by
    simp only [Xe.evs] at hv
    cases hx : evL L x with
    | none => simp [hx] at hv
    | some v =>
      rw [hx] at hv
      simp only [] at hv
      cases hxs : Xe.evs L xs with
      | none => simp [hxs] at hv
      | some us =>
        rw [hxs] at hv
        simp only [Option.some.injEq] at hv
        rw [← hv]
        simp [h.ev hx, h.evs hxs]

section
variable {P : Program} {w0 : World} {L : Lm} {M : Mem} {Γ : List As} {d : Option Nat} {ty : TypeId} {pos : String} {af : Array Edge} {g : Option (Nat × Bool)}
theorem run_funcB {w : World} {f : FuncId} (h : funcB P f = true) (args : Array Value) : (callFunc f args).run P w = .ok (.enter f args) w := by
  unfold funcB at h
  cases hf : P.funcs[f]? with
  | none => simp [hf] at h
  | some fn =>
    rw [hf] at h
    simp only [Bool.and_eq_true, Bool.not_eq_true', beq_eq_false_iff_ne] at h
    obtain ⟨h1, h2⟩ := h
    have h3 : fn.body ≠ none := by intro e; rw [e] at h2; cases h2
    simp [callFunc, hf, h1, h3]
/-- A call of a function by its name. -/
theorem call_enter {f : FuncId} {xs : List Operand} {ts : Array TypeId} {vs : List Value} (hf : funcB P f = true) (hx : evs L xs = some vs) :
    ∀ n a w, Sat n L a → (execOp a.eval ⟨d, .call ⟨.value (.func f), xs.toArray, ts⟩, ty, pos, af, g⟩).run P w = .ok (.enter f vs.toArray) w := fun n a w ha => by
  have h1 : (xs.toArray.map a.eval) = vs.toArray := by rw [List.map_toArray, ha.evs hx]
  simp only [execOp, resolve, h1, Act.eval, Deferred.ofValue]
  simp [invoke, run_funcB hf]
/-- A call of a function value. -/
theorem call_value {f : FuncId} {y : Operand} {first captured : Array Value} {xs : List Operand} {ts : Array TypeId} {vs : List Value} (hf : funcB P f = true) (hy : evL L y = some (.func (.func f) first captured)) (hx : evs L xs = some vs) :
    ∀ n a w, Sat n L a → (execOp a.eval ⟨d, .call ⟨.value y, xs.toArray, ts⟩, ty, pos, af, g⟩).run P w = .ok (.enter f (first ++ vs.toArray ++ captured)) w := fun n a w ha => by
  have h1 : (xs.toArray.map a.eval) = vs.toArray := by rw [List.map_toArray, ha.evs hx]
  simp only [execOp, resolve, h1, ha.ev hy, Deferred.ofValue]
  simp [invoke, run_funcB hf]
end

section
variable {P : Program} {n : Nat} {w0 : World} {ops : Array Oper} {rest : List Oper} {L : Lm} {M : Mem} {Γ : List As} {K : Lm → Mem → List As → Prop} {ty : TypeId} {pos : String} {af : Array Edge} {d : Nat}
/-- A call by its contract. -/
theorem RL.call {g : Option (Nat × Bool)} {f : FuncId} {xs : List Operand} {ts : Array TypeId} {vs : List Value} {F : Post} (hg : Want ops L ⟨some d, .call ⟨.value (.func f), xs.toArray, ts⟩, ty, pos, af, g⟩ true) (hf : funcB P f = true) (hx : evs L xs = some vs) (hd : Nat.blt d n = true)
    (hc : CallOk P w0 M Γ f vs.toArray F) (h : ∀ v M' Γ', F v M' Γ' → RL P n w0 ops rest ((d, v) :: L) M' Γ' K) :
    RL P n w0 ops (⟨some d, .call ⟨.value (.func f), xs.toArray, ts⟩, ty, pos, af, g⟩ :: rest) L M Γ K := RL.c hg (call_enter hf hx) hd hc h
/-- .. one known value, memory as it was. -/
theorem RL.callv {g : Option (Nat × Bool)} {f : FuncId} {xs : List Operand} {ts : Array TypeId} {vs : List Value} {v : Value} (hg : Want ops L ⟨some d, .call ⟨.value (.func f), xs.toArray, ts⟩, ty, pos, af, g⟩ true) (hf : funcB P f = true) (hx : evs L xs = some vs) (hd : Nat.blt d n = true)
    (hc : CallOk P w0 M Γ f vs.toArray (fun u M' Γ' => u = v ∧ M' = M ∧ Γ' = Γ)) (h : RL P n w0 ops rest ((d, v) :: L) M Γ K) :
    RL P n w0 ops (⟨some d, .call ⟨.value (.func f), xs.toArray, ts⟩, ty, pos, af, g⟩ :: rest) L M Γ K := RL.c hg (call_enter hf hx) hd hc (by rintro u M' Γ' ⟨rfl, rfl, rfl⟩; exact h)
theorem RL.callvs {g : Option (Nat × Bool)} {f : FuncId} {xs : List Operand} {ts : Array TypeId} {vs : List Value} {p : Prop} [Decidable p] (hg : Want ops L ⟨some d, .call ⟨.value (.func f), xs.toArray, ts⟩, ty, pos, af, g⟩ true) (hf : funcB P f = true) (hx : evs L xs = some vs) (hd : Nat.blt d n = true)
    (hc : CallOk P w0 M Γ f vs.toArray (fun u M' Γ' => u = .bool (decide p) ∧ M' = M ∧ Γ' = Γ)) (h1 : p → RL P n w0 ops rest ((d, .bool true) :: L) M Γ K) (h2 : ¬ p → RL P n w0 ops rest ((d, .bool false) :: L) M Γ K) :
    RL P n w0 ops (⟨some d, .call ⟨.value (.func f), xs.toArray, ts⟩, ty, pos, af, g⟩ :: rest) L M Γ K := by
  by_cases hp : p
  · rw [decide_eq_true hp] at hc; exact RL.callv hg hf hx hd hc (h1 hp)
  · rw [decide_eq_false hp] at hc; exact RL.callv hg hf hx hd hc (h2 hp)
/-- A function value's call. -/
theorem RL.callf {g : Option (Nat × Bool)} {f : FuncId} {y : Operand} {first captured : Array Value} {xs : List Operand} {ts : Array TypeId} {vs : List Value} {F : Post} (hg : Want ops L ⟨some d, .call ⟨.value y, xs.toArray, ts⟩, ty, pos, af, g⟩ true) (hf : funcB P f = true) (hy : evL L y = some (.func (.func f) first captured)) (hx : evs L xs = some vs) (hd : Nat.blt d n = true)
    (hc : CallOk P w0 M Γ f (first ++ vs.toArray ++ captured) F) (h : ∀ v M' Γ', F v M' Γ' → RL P n w0 ops rest ((d, v) :: L) M' Γ' K) :
    RL P n w0 ops (⟨some d, .call ⟨.value y, xs.toArray, ts⟩, ty, pos, af, g⟩ :: rest) L M Γ K := RL.c hg (call_value hf hy hx) hd hc h
theorem RL.callfv {g : Option (Nat × Bool)} {f : FuncId} {y : Operand} {first captured : Array Value} {xs : List Operand} {ts : Array TypeId} {vs : List Value} {v : Value} (hg : Want ops L ⟨some d, .call ⟨.value y, xs.toArray, ts⟩, ty, pos, af, g⟩ true) (hf : funcB P f = true) (hy : evL L y = some (.func (.func f) first captured)) (hx : evs L xs = some vs) (hd : Nat.blt d n = true)
    (hc : CallOk P w0 M Γ f (first ++ vs.toArray ++ captured) (fun u M' Γ' => u = v ∧ M' = M ∧ Γ' = Γ)) (h : RL P n w0 ops rest ((d, v) :: L) M Γ K) :
    RL P n w0 ops (⟨some d, .call ⟨.value y, xs.toArray, ts⟩, ty, pos, af, g⟩ :: rest) L M Γ K := RL.c hg (call_value hf hy hx) hd hc (by rintro u M' Γ' ⟨rfl, rfl, rfl⟩; exact h)
end
section
variable {P : Program} {n : Nat} {w0 : World} {ops : Array Oper} {C0 : List As} {rest : List Oper} {L : Lm} {M : Mem} {Γ : List As} {K : Lm → List As → Prop} {ty : TypeId} {pos : String} {af : Array Edge} {d : Nat} {g : Option (Nat × Bool)}
theorem QL.callv {f : FuncId} {xs : List Operand} {ts : Array TypeId} {vs : List Value} {v : Value} (hg : Want ops L ⟨some d, .call ⟨.value (.func f), xs.toArray, ts⟩, ty, pos, af, g⟩ true) (hf : funcB P f = true) (hx : evs L xs = some vs) (hd : Nat.blt d n = true)
    (hc : ∀ Γ0, (∀ w, St w0 M Γ0 w → St w0 M Γ w) → CallOk P w0 M Γ0 f vs.toArray (fun u M' Γ' => u = v ∧ M' = M ∧ Γ' = Γ0)) (h : QL P n w0 ops C0 M rest ((d, v) :: L) Γ K) :
    QL P n w0 ops C0 M (⟨some d, .call ⟨.value (.func f), xs.toArray, ts⟩, ty, pos, af, g⟩ :: rest) L Γ K := QL.c hg (call_enter hf hx) hd hc h
theorem QL.callvs {f : FuncId} {xs : List Operand} {ts : Array TypeId} {vs : List Value} {p : Prop} [Decidable p] (hg : Want ops L ⟨some d, .call ⟨.value (.func f), xs.toArray, ts⟩, ty, pos, af, g⟩ true) (hf : funcB P f = true) (hx : evs L xs = some vs) (hd : Nat.blt d n = true)
    (hc : ∀ Γ0, (∀ w, St w0 M Γ0 w → St w0 M Γ w) → CallOk P w0 M Γ0 f vs.toArray (fun u M' Γ' => u = .bool (decide p) ∧ M' = M ∧ Γ' = Γ0)) (h1 : p → QL P n w0 ops C0 M rest ((d, .bool true) :: L) Γ K) (h2 : ¬ p → QL P n w0 ops C0 M rest ((d, .bool false) :: L) Γ K) :
    QL P n w0 ops C0 M (⟨some d, .call ⟨.value (.func f), xs.toArray, ts⟩, ty, pos, af, g⟩ :: rest) L Γ K := by
  by_cases hp : p
  · rw [decide_eq_true hp] at hc; exact QL.callv hg hf hx hd hc (h1 hp)
  · rw [decide_eq_false hp] at hc; exact QL.callv hg hf hx hd hc (h2 hp)
end
end Xe
