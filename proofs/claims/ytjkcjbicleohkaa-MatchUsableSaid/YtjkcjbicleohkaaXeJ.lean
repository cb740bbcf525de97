/-
  THE ENGINE, PART J: what is owned may be lent to a call that only reads it; what a call has sealed itself. No program in sight.
-/
import Derived.Test.YtjkcjbicleohkaaXeI
namespace Xe
open Go

/-! ### What M' has beyond M -/
def Mem.diff (M' M : Mem) : Mem := fun b => if (M b).isSome then none else M' b
theorem Mem.diff_sub (M' M : Mem) : Sub (M'.diff M) M' := fun b o h => by
  unfold Mem.diff at h
  split at h
  · cases h
  · exact h
theorem Mem.diff_mono {M M1 M2 : Mem} (h : Sub M1 M2) : Sub (M1.diff M) (M2.diff M) := fun b o hb => by
  unfold Mem.diff at hb ⊢
  split at hb
  · cases hb
  · rename_i h1; rw [if_neg h1]; exact h b o hb
theorem diff_put {M M0 : Mem} {b : Nat} {o : Obj} (h : M b = none) (hs : Sub M0 M) : ((M.put b o).diff M0) b = some o := by
  have : M0 b = none := by
    cases hM : M0 b with
    | none => rfl
    | some x => rw [hs b x hM] at h; cases h
  simp [Mem.diff, this, Mem.put]

theorem cellM_of {M : Mem} {b : Nat} {c : Array Value} {e : TypeId} {i : Nat} {v : Value} (hM : M b = some (.cells c e (0, 0))) (h : c[i]? = some v) : cellM M (adr (some ⟨b, 0, none⟩) i) = some v := by
  rw [adr_some]
  simp [cellM, hM, h]

/-- A block of whole elements, sealed, reads as a slice. -/
theorem Rd.ofBlock {M : Mem} {b n cap : Nat} {e : TypeId} {sz : Nat} {cur : Array Value} {us : List Value} {ds : List D} (hM : M b = some (.cells cur e (0, 0))) (hr : RdL M ds us) (hl : us.length = n * sz) (hn : n ≤ lim) (hc : n ≤ cap) (hm : cap ≤ maxLen) (ht : cur.toList.take (n * sz) = us) :
    Rd M (.sl n sz ds) (.slice (some ⟨b, 0, none⟩) n cap) := by
  simp only [Rd]
  refine ⟨some ⟨b, 0, none⟩, cap, rfl, hc, hm, hn, by rw [← hr.1]; exact hl, fun _ => rfl, RdC.mk ds 0 fun k d hk => ?_⟩
  obtain ⟨v, h1, h2⟩ := RdL.get hr hk
  refine ⟨v, ?_, h2⟩
  rw [Nat.zero_add]
  apply cellM_of hM
  have hk' : k < n * sz := by
    rw [← hl]
    rcases Nat.lt_or_ge k us.length with h | h
    · exact h
    · rw [List.getElem?_eq_none h] at h1; cases h1
  rw [← ht, List.getElem?_take_of_lt hk'] at h1
  simpa using h1

/-- Sealed by the call itself: it stays readable in what the call has added to M0. -/
theorem St.seal_own_diff {w0 w : World} {M M0 : Mem} {Γ : List As} {b n : Nat} {e : TypeId} {sz : Nat} {us : List Value} {ds : List D} (h0 : Sub M0 M) (hw : St w0 M (.own b e us :: Γ) w) (hr : RdL (M.diff M0) ds us) (hl : us.length = n * sz) (hn : n ≤ lim) :
    ∃ M', Sub M M' ∧ Rd (M'.diff M0) (.sl n sz ds) (.slice (some ⟨b, 0, none⟩) n n) ∧ St w0 M' (.rd (.sl n sz ds) (.slice (some ⟨b, 0, none⟩) n n) :: Γ) w := by
  have hx := hw.all _ (List.mem_cons_self ..)
  obtain ⟨hM, hb⟩ := hx
  have hs : Sub M (M.put b (.cells us.toArray e (0, 0))) := Mem.put_sub hM
  have hw' := hw.seal_block (b := b) rfl hb
  have hrd : Rd ((M.put b (.cells us.toArray e (0, 0))).diff M0) (.sl n sz ds) (.slice (some ⟨b, 0, none⟩) n n) :=
    Rd.ofBlock (diff_put hM h0) (hr.mono (Mem.diff_mono hs)) hl hn (Nat.le_refl _) (by unfold lim at hn; unfold maxLen; omega) (by rw [← hl]; exact List.take_length)
  exact ⟨_, hs, hrd, hw'.add (x := .rd _ _) (Rd.mono (Mem.diff_sub _ _) _ _ hrd) rfl⟩

/-! ### Lending -/
def Mem.less (M : Mem) (bs : List Nat) : Mem := fun b => if b ∈ bs then none else M b
/-- An assertion that owns. -/
def As.owns : As → Prop
  | .own .. => True
  | .acc .. => True
  | _ => False
/-- What is lent lies sealed as it was in a world where it was owned. -/
structure Lent (w0 : World) (M : Mem) (Γs Γ : List As) (M' : Mem) : Prop where
  sub : Sub M M'
  wit : ∃ w, St w0 M (Γs ++ Γ) w ∧ ∀ x ∈ Γs, ∀ b, x.blk = some b → M' b = w.heap[b]?
  only : ∀ b o, M' b = some o → M b = some o ∨ b ∈ Γs.filterMap As.blk

theorem St.lend {w0 w : World} {M : Mem} {Γ : List As} : ∀ (Γs : List As), (∀ x ∈ Γs, x.owns) → St w0 M (Γs ++ Γ) w → ∃ M', Lent w0 M Γs Γ M' ∧ St w0 M' Γ w
  | [], _, h => ⟨M, ⟨Sub.refl M, ⟨w, h, fun x hx => by simp at hx⟩, fun b o hb => .inl hb⟩, h⟩
  | x :: Γs, ho, h => by
    have hp : St w0 M (Γs ++ (x :: Γ)) w := h.perm (List.perm_middle.symm)
    obtain ⟨M1, hl, h1⟩ := St.lend Γs (fun y hy => ho y (List.mem_cons_of_mem _ hy)) hp
    have hx := h1.all x (List.mem_cons_self ..)
    cases hb : x.blk with
    | none =>
      refine ⟨M1, ⟨hl.sub, ⟨w, h, fun y hy b hyb => ?_⟩, fun b o hbo => ?_⟩, h1.sub (List.sublist_cons_self _ _)⟩
      · rcases List.mem_cons.1 hy with rfl | hy
        · rw [hb] at hyb; cases hyb
        · have hblk : b ∈ Γs.filterMap As.blk := mem_blk hy hyb
          have := h1.mem
          cases hM : M1 b with
          | some o => exact (h1.mem b o hM).symm
          | none =>
            obtain ⟨w', hw', hw2⟩ := hl.wit
            have e1 := hw2 y hy b hyb
            have e2 := (As.ok_blk_lt (hw'.all y (List.mem_append_left _ hy)) hyb).1
            rw [hM] at e1
            exact absurd e1.symm (by rw [Array.getElem?_eq_getElem e2]; simp)
      · rcases hl.only b o hbo with h2 | h2
        · exact .inl h2
        · exact .inr (by simpa [List.filterMap_cons, hb] using h2)
    | some b =>
      have hlt := (As.ok_blk_lt hx hb)
      obtain ⟨o, ho'⟩ : ∃ o, w.heap[b]? = some o := ⟨_, Array.getElem?_eq_getElem hlt.1⟩
      have h2 := h1.seal_block (b := b) (o := o) hb ho'
      refine ⟨M1.put b o, ⟨hl.sub.trans (Mem.put_sub hlt.2), ⟨w, h, fun y hy c hyc => ?_⟩, fun c o' hc => ?_⟩, h2⟩
      · rcases List.mem_cons.1 hy with rfl | hy
        · rw [hb] at hyc; cases hyc
          simp [Mem.put, ho']
        · obtain ⟨w', hw', hw2⟩ := hl.wit
          have e1 := hw2 y hy c hyc
          have e2 := (As.ok_blk_lt (hw'.all y (List.mem_append_left _ hy)) hyc).1
          cases hM : M1 c with
          | none => rw [hM] at e1; exact absurd e1.symm (by rw [Array.getElem?_eq_getElem e2]; simp)
          | some o2 =>
            have := Mem.put_sub hlt.2 (o := o) c o2 hM
            rw [this]
            exact (h1.mem c o2 hM).symm
      · unfold Mem.put at hc
        by_cases e : c = b
        · right; simp [hb, e]
        · rw [if_neg e] at hc
          rcases hl.only c o' hc with h3 | h3
          · exact .inl h3
          · right; simp only [List.filterMap_cons, hb]; exact List.mem_cons_of_mem _ h3

/-- Given back. -/
theorem Lent.back {w0 w' : World} {M M1 M2 : Mem} {Γs Γ : List As} (h : Lent w0 M Γs Γ M1) (_ho : ∀ x ∈ Γs, x.owns) (hs : Sub M1 M2) (hw : St w0 M2 Γ w') :
    Sub M (M2.less (Γs.filterMap As.blk)) ∧ Sub (M2.diff M1) (M2.less (Γs.filterMap As.blk)) ∧ St w0 (M2.less (Γs.filterMap As.blk)) (Γs ++ Γ) w' := by
  obtain ⟨w, hw1, hl⟩ := h.wit
  have hMs : ∀ x ∈ Γs, ∀ b, x.blk = some b → ∃ o, M1 b = some o ∧ w.heap[b]? = some o := fun x hx b hb => by
    have e1 := hl x hx b hb
    have e2 := (As.ok_blk_lt (hw1.all x (List.mem_append_left _ hx)) hb).1
    rw [Array.getElem?_eq_getElem e2] at e1
    exact ⟨_, e1, Array.getElem?_eq_getElem e2⟩
  have hsubM : Sub M (M2.less (Γs.filterMap As.blk)) := fun b o hb => by
    unfold Mem.less
    rw [if_neg fun hm => ?_]
    · exact hs b o (h.sub b o hb)
    · obtain ⟨x, hx, hxb⟩ := List.mem_filterMap.1 hm
      have := (As.ok_blk_lt (hw1.all x (List.mem_append_left _ hx)) hxb).2
      rw [hb] at this; cases this
  have hle : Sub (M2.less (Γs.filterMap As.blk)) M2 := fun b o hb => by
    unfold Mem.less at hb
    split at hb
    · cases hb
    · exact hb
  refine ⟨hsubM, fun b o hb => ?_, hw.os, hw.tape, hw.output, hw.size, fun b o hb => hw.mem b o (hle b o hb), fun x hx => ?_, ?_⟩
  · unfold Mem.diff at hb
    split at hb
    · cases hb
    · rename_i hn
      unfold Mem.less
      rw [if_neg fun hm => ?_]
      · exact hb
      · obtain ⟨x, hx, hxb⟩ := List.mem_filterMap.1 hm
        obtain ⟨o', h1, h2⟩ := hMs x hx b hxb
        simp [h1] at hn
  · rcases List.mem_append.1 hx with hx | hx
    · have h0 := hw1.all x (List.mem_append_left _ hx)
      have hk : ∀ b, x.blk = some b → w'.heap[b]? = w.heap[b]? ∧ M2.less (Γs.filterMap As.blk) b = none := fun b hb => by
        obtain ⟨o, h1, h2⟩ := hMs x hx b hb
        refine ⟨by rw [hw.mem b o (hs b o h1), h2], ?_⟩
        unfold Mem.less
        rw [if_pos (mem_blk hx hb)]
      exact As.ok_keep h0 hsubM hk
    · have h0 := hw1.all x (List.mem_append_right _ hx)
      have h2 := hw.all x hx
      cases x with
      | rd d u => exact Rd.mono hsubM d u h0
      | rds d u => exact RdL.mono hsubM h0
      | own b e cs =>
        refine ⟨?_, h2.2⟩
        cases hM : M2.less (Γs.filterMap As.blk) b with
        | none => rfl
        | some o => have := hle b o hM; rw [h2.1] at this; cases this
      | acc u e sz n us =>
        refine ⟨h2.1, fun b hb => ?_⟩
        cases hM : M2.less (Γs.filterMap As.blk) b with
        | none => rfl
        | some o => have := hle b o hM; rw [h2.2 b hb] at this; cases this
      | mp b l =>
        refine ⟨?_, h2.2⟩
        cases hM : M2.less (Γs.filterMap As.blk) b with
        | none => rfl
        | some o => have := hle b o hM; rw [h2.1] at this; cases this
  · exact hw1.nodup

/-- What is lent may be read. -/
theorem Lent.own {w0 : World} {M M' : Mem} {Γs Γ : List As} (h : Lent w0 M Γs Γ M') {b n : Nat} {e : TypeId} {sz : Nat} {us : List Value} {ds : List D} (hx : As.own b e us ∈ Γs) (hr : RdL M' ds us) (hl : us.length = n * sz) (hn : n ≤ lim) :
    Rd M' (.sl n sz ds) (.slice (some ⟨b, 0, none⟩) n n) := by
  obtain ⟨w, hw, hm⟩ := h.wit
  have h1 := hm _ hx b rfl
  have h2 := (hw.all _ (List.mem_append_left _ hx)).2
  rw [h2] at h1
  exact Rd.ofBlock h1 hr hl hn (Nat.le_refl _) (by unfold lim at hn; unfold maxLen; omega) (by rw [← hl]; exact List.take_length)
theorem Lent.acc {w0 : World} {M M' : Mem} {Γs Γ : List As} (h : Lent w0 M Γs Γ M') {u : Value} {n : Nat} {e : TypeId} {sz : Nat} {us : List Value} {ds : List D} (hx : As.acc u e sz n us ∈ Γs) (hr : RdL M' ds us) (hn : n ≤ lim) :
    Rd M' (.sl n sz ds) u := by
  obtain ⟨w, hw, hm⟩ := h.wit
  have h0 := hw.all _ (List.mem_append_left _ hx)
  obtain ⟨⟨hl, hh⟩, _⟩ := h0
  rcases hh with ⟨rfl, rfl⟩ | ⟨b, cap, cur, rfl, _, hb, hnc, hcm, hcs, htk⟩
  · have hd : ds = [] := by
      have h1 := hr.1
      have : us.length = 0 := by simpa using hl
      rw [this] at h1
      exact List.eq_nil_of_length_eq_zero h1.symm
    subst hd
    simp only [Rd]
    exact ⟨none, 0, rfl, Nat.le_refl _, Nat.zero_le _, Nat.zero_le _, by simp, by simp, by simp [RdC]⟩
  · have h1 := hm _ hx b rfl
    rw [hb] at h1
    exact Rd.ofBlock h1 hr hl hn hnc hcm (by simpa using htk)

/-- New data in what the call has sealed itself. -/
abbrev GivesN (M : Mem) (Γ : List As) (R : Mem → Value → Prop) : Post := fun u M' Γ' => Sub M M' ∧ Γ' = Γ ∧ R (M'.diff M) u

theorem CallOk.lend {P : Program} {w0 : World} {M : Mem} {Γ : List As} {f : FuncId} {args : Array Value} {R : Mem → Value → Prop} (Γs Γ0 : List As) (hp : List.Perm Γ (Γs ++ Γ0)) (ho : ∀ x ∈ Γs, x.owns) (hR : ∀ M1 M2 v, Sub M1 M2 → R M1 v → R M2 v)
    (hc : ∀ M1, Lent w0 M Γs Γ0 M1 → CallOk P w0 M1 Γ0 f args (GivesN M1 Γ0 R)) : CallOk P w0 M Γ f args (fun u M' Γ' => Sub M M' ∧ Γ' = Γ ∧ R M' u) := by
  intro w hw
  obtain ⟨M1, hl, hw1⟩ := St.lend Γs ho (hw.perm hp)
  refine (hc M1 hl w hw1).mono ?_
  rintro e w' ⟨v, M2, Γ2, rfl, ⟨hs, rfl, hr⟩, hw2⟩
  obtain ⟨h1, h2, h3⟩ := hl.back ho hs hw2
  exact ⟨v, _, Γ, rfl, ⟨h1, rfl, hR _ _ v h2 hr⟩, h3.perm hp.symm⟩
/-- .. nothing new. -/
theorem CallOk.lendv {P : Program} {w0 : World} {M : Mem} {Γ : List As} {f : FuncId} {args : Array Value} {v : Value} (Γs Γ0 : List As) (hp : List.Perm Γ (Γs ++ Γ0)) (ho : ∀ x ∈ Γs, x.owns)
    (hc : ∀ M1, Lent w0 M Γs Γ0 M1 → CallOk P w0 M1 Γ0 f args (fun u M' Γ' => u = v ∧ M' = M1 ∧ Γ' = Γ0)) : CallOk P w0 M Γ f args (fun u M' Γ' => u = v ∧ M' = M ∧ Γ' = Γ) := by
  intro w hw
  obtain ⟨M1, hl, hw1⟩ := St.lend Γs ho (hw.perm hp)
  refine (hc M1 hl w hw1).mono ?_
  rintro e w' ⟨u, M2, Γ2, rfl, ⟨hu, hM2, hG2⟩, hw2⟩
  rw [hG2, hM2] at hw2
  obtain ⟨h1, h2, h3⟩ := hl.back ho (Sub.refl _) hw2
  have h4 : St w0 M (Γs ++ Γ0) w' := by
    obtain ⟨w1, hw3, hm⟩ := hl.wit
    refine ⟨h3.os, h3.tape, h3.output, h3.size, fun b o hb => h3.mem b o (h1 b o hb), fun x hx => ?_, h3.nodup⟩
    have k1 := hw3.all x hx
    have k2 := h3.all x hx
    cases x with
    | rd d u => exact k1
    | rds d u => exact k1
    | own b e cs => exact ⟨k1.1, k2.2⟩
    | acc u e sz n us => exact ⟨k2.1, k1.2⟩
    | mp b l => exact ⟨k1.1, k2.2⟩
  exact ⟨_, M, Γ, rfl, ⟨hu, rfl, rfl⟩, h4.perm hp.symm⟩

/-! ### A cell of a slice that is being grown -/
theorem St.acc_cell {w0 w : World} {M : Mem} {Γ : List As} (h : St w0 M Γ w) {a : Option Addr} {n c e sz : Nat} {us : List Value} (hm : As.acc (.slice a n c) e sz n us ∈ Γ) {q : Nat} {v : Value} (hq : us[q]? = some v) : a.isSome = true ∧ w.cell? (adr a q) = some v := by
  obtain ⟨⟨hl, hh⟩, _⟩ := h.all _ hm
  rcases hh with ⟨e1, rfl⟩ | ⟨b, cap, cur, e1, _, hb, hnc, hcm, hcs, htk⟩
  · have : us = [] := List.eq_nil_of_length_eq_zero (by rw [hl]; simp)
    subst this
    simp at hq
  · simp only [Value.slice.injEq] at e1
    obtain ⟨rfl, _, rfl⟩ := e1
    refine ⟨rfl, ?_⟩
    rw [adr_some]
    have hk' : q < n * sz := by
      rw [← hl]
      rcases Nat.lt_or_ge q us.length with h | h
      · exact h
      · rw [List.getElem?_eq_none h] at hq; cases hq
    have h2 := hq
    rw [← htk, List.getElem?_take_of_lt hk'] at h2
    have h3 : cur[q]? = some v := by simpa using h2
    simp [World.cell?, hb, h3]

/-! ### Readings by facts that are known without the state -/
section
variable {P : Program} {w0 : World} {L : Lm} {M : Mem} {Γ : List As} {d : Option Nat} {ty : TypeId} {pos : String} {af : Array Edge} {g : Option (Nat × Bool)}
theorem Rd.isSome {n sz : Nat} {cs : List D} {a : Option Addr} {l c : Nat} (hr : Rd M (.sl n sz cs) (.slice a l c)) (hn : 0 < l) : a.isSome = true := by
  simp only [Rd] at hr
  obtain ⟨a', cap, h1, h2, h3, h4, h5, h6, h7⟩ := hr
  simp only [Value.slice.injEq] at h1
  obtain ⟨rfl, rfl, rfl⟩ := h1
  exact h6 hn
theorem Rd.cell {n sz : Nat} {cs : List D} {a : Option Addr} {l c : Nat} (hr : Rd M (.sl n sz cs) (.slice a l c)) {q : Nat} {e : D} (hq : cs[q]? = some e) : ∃ u, cellM M (adr a q) = some u ∧ Rd M e u := by
  simp only [Rd] at hr
  obtain ⟨a', cap, h1, h2, h3, h4, h5, h6, h7⟩ := hr
  simp only [Value.slice.injEq] at h1
  obtain ⟨rfl, rfl, rfl⟩ := h1
  simpa using RdC.get cs 0 h7 q e hq
theorem Y.indexP {x i : Operand} {t e sz : Nat} {a : Option Addr} {l c : Nat} {ik : IntKind} {z : Int} {cs : List D} {n0 sz0 : Nat} (k : Nat) (hx : evL L x = some (.slice a l c)) (hi : evL L i = some (.int ik z)) (hz : z = (k : Int)) (hk : k < l)
    (ht : sliceB P t e sz = true) (hr : Rd M (.sl n0 sz0 cs) (.slice a l c)) : Yq P w0 L M Γ ⟨d, .indexAddr t x i, ty, pos, af, g⟩ (.pointer (some (adr a (k * sz)))) :=
  Y.index k hx hi hz hk ht fun _ _ => hr.isSome (by omega)
theorem Y.loadP {x : Operand} {t : TypeId} {n sz : Nat} {cs : List D} {a : Option Addr} {l c q : Nat} {v : Value} (hx : evL L x = some (.pointer (some (adr a q)))) (hr : Rd M (.sl n sz cs) (.slice a l c)) (hq : cs[q]? = some (.v v)) (hf : flatB P t = true) :
    Yq P w0 L M Γ ⟨d, .load t x, ty, pos, af, g⟩ v := Y.load hx hf fun w hw => by
  obtain ⟨u, h1, h2⟩ := hr.cell hq
  simp only [Rd] at h2
  rw [← h2.1]
  exact hw.cell h1
/-- A cell whose value is known. -/
theorem Y.loadC {x : Operand} {t : TypeId} {p : Addr} {v : Value} (hx : evL L x = some (.pointer (some p))) (hc : cellM M p = some v) (hf : flatB P t = true) :
    Yq P w0 L M Γ ⟨d, .load t x, ty, pos, af, g⟩ v := Y.load hx hf fun _ hw => hw.cell hc
theorem Y.indexAcc {x i : Operand} {t e sz e' sz' : Nat} {a : Option Addr} {l c : Nat} {ik : IntKind} {z : Int} {us : List Value} {v : Value} (k : Nat) (hx : evL L x = some (.slice a l c)) (hi : evL L i = some (.int ik z)) (hz : z = (k : Int)) (hk : k < l)
    (ht : sliceB P t e sz = true) (hm : As.acc (.slice a l c) e' sz' l us ∈ Γ) (hu : us[k * sz]? = some v) : Yq P w0 L M Γ ⟨d, .indexAddr t x i, ty, pos, af, g⟩ (.pointer (some (adr a (k * sz)))) :=
  Y.index k hx hi hz hk ht fun _ hw => (hw.acc_cell hm hu).1
theorem Y.loadAcc {x : Operand} {t e sz : Nat} {a : Option Addr} {l c q : Nat} {us : List Value} {v : Value} (hx : evL L x = some (.pointer (some (adr a q)))) (hm : As.acc (.slice a l c) e sz l us ∈ Γ) (hu : us[q]? = some v) (hf : flatB P t = true) :
    Yq P w0 L M Γ ⟨d, .load t x, ty, pos, af, g⟩ v := Y.load hx hf fun _ hw => (hw.acc_cell hm hu).2
end

/-! ### Rows that are filled from the left -/
def rowP (f : Nat → Int) (y n : Nat) : List Int := (List.range n).map fun k => if k < y then f k else 0
theorem part_len (f : Nat → Int) (y n : Nat) : (rowP f y n).length = n := by simp [rowP]
theorem part_get (f : Nat → Int) (y n k : Nat) (h : k < n) : (rowP f y n)[k]? = some (if k < y then f k else 0) := by simp [rowP, h]
theorem part_zero (f : Nat → Int) (n : Nat) : rowP f 0 n = List.replicate n 0 := by
  apply List.ext_getElem <;> simp [rowP]
theorem part_full (f : Nat → Int) (n : Nat) : rowP f n n = (List.range n).map f := by
  apply List.ext_getElem
  · simp [rowP]
  · intro i h1 h2
    simp only [rowP, List.length_map, List.length_range] at h1
    simp [rowP, h1]
theorem part_set (f : Nat → Int) (y n : Nat) (_h : y < n) : (rowP f y n).set y (f y) = rowP f (y + 1) n := by
  apply List.ext_getElem
  · simp [rowP]
  · intro i h1 h2
    simp only [rowP, List.length_set, List.length_map, List.length_range] at h1 h2
    simp only [rowP, List.getElem_set, List.getElem_map, List.getElem_range]
    by_cases e : y = i
    · subst e; simp
    · rw [if_neg e]
      by_cases e2 : i < y
      · rw [if_pos e2, if_pos (by omega)]
      · rw [if_neg e2, if_neg (by omega)]
theorem ints_set (l : List Int) (q k : Nat) (z : Int) (h : q = k) : (ints l).set q (.int .i64 z) = ints (l.set k z) := by
  subst h; simp [ints, List.map_set]
theorem ints_get {l : List Int} {q k : Nat} {z : Int} (h : l[k]? = some z) (e : q = k) : (ints l)[q]? = some (.int .i64 z) := by
  subst e; simp [ints, h]
theorem ints_rd {M : Mem} (l : List Int) : RdL M (l.map fun n => .v (.int .i64 n)) (ints l) := by
  have := RdL.vals (M := M) (vs := ints l) (by
    intro v hv
    obtain ⟨z, _, rfl⟩ := List.mem_map.1 hv
    rfl)
  rw [ints, List.map_map] at this
  exact this
theorem made_ints (n : Nat) : (madeCells (Value.int .i64 0).cells (n * 1)).toList = ints (List.replicate n 0) := by
  apply List.ext_getElem
  · simp [madeCells, ints]
  · intro i h1 h2
    simp [madeCells, ints, Value.cells, Nat.mod_one]
theorem part_get2 (f : Nat → Int) {y n k : Nat} (h : k < y) (hy : k < n) : (rowP f y n)[k]? = some (f k) := by rw [part_get f y n k hy, if_pos h]
theorem fill_one {f : Nat → Int} {y n q : Nat} {z : Int} (hq : q = y) (h : y < n) (hz : z = f y) : (ints (rowP f y n)).set q (.int .i64 z) = ints (rowP f (y + 1) n) := by
  rw [ints_set _ _ y _ hq, hz, part_set f y n h]
theorem fill_two {f : Nat → Int} {y n q : Nat} {z t : Int} (hq : q = y) (h : y < n) (hz : z = f y) : (ints ((rowP f y n).set y t)).set q (.int .i64 z) = ints (rowP f (y + 1) n) := by
  rw [ints_set _ _ y _ hq, List.set_set, hz, part_set f y n h]
theorem set_get {l : List Int} {y : Nat} (t : Int) (h : y < l.length) : (l.set y t)[y]? = some t := by simp [h]
theorem ints_len (l : List Int) : (ints l).length = l.length := by simp [ints]
theorem range_get {α : Type} (g : Nat → α) {x k : Nat} (h : k < x) : ((List.range x).map g)[k]? = some (g k) := by simp [h]

theorem CW.sealOwnD {P : Program} {n : Nat} {w0 : World} {c : Code} {X : Pst} {L : Lm} {M M0 : Mem} {Γ R : List As} {b k : Nat} {e : TypeId} {sz : Nat} {us : List Value} {ds : List D} (h0 : Sub M0 M) (hp : Pick (.own b e us) Γ R) (hr : RdL (M.diff M0) ds us) (hl : us.length = k * sz) (hn : k ≤ lim)
    (h : ∀ M', Sub M M' → Rd (M'.diff M0) (.sl k sz ds) (.slice (some ⟨b, 0, none⟩) k k) → CW P n w0 c X L M' R) : CW P n w0 c X L M Γ := by
  refine CW.turn (F := fun M' Γ' => Sub M M' ∧ Rd (M'.diff M0) (.sl k sz ds) (.slice (some ⟨b, 0, none⟩) k k) ∧ Γ' = R) (fun _ hw => ?_) ?_
  · obtain ⟨M', h1, h2, h3⟩ := (hw.perm hp.perm).seal_own_diff h0 hr hl hn
    exact ⟨M', _, ⟨h1, h2, rfl⟩, h3.sub (List.sublist_cons_self _ _)⟩
  · rintro M' _ ⟨h1, h2, rfl⟩
    exact h M' h1 h2
theorem Turn.sealOwnD {w0 : World} {M0 M1 : Mem} {Γ Γ1 R : List As} {F : Mem → List As → Prop} {b : Nat} {e : TypeId} {sz n : Nat} {us : List Value} {ds : List D} (h0 : Sub M0 M1) (hp : Pick (.own b e us) Γ1 R) (hr : RdL (M1.diff M0) ds us) (hl : us.length = n * sz) (hn : n ≤ lim) (hs : List.Sublist Γ R)
    (hF : ∀ M', Sub M1 M' → Rd (M'.diff M0) (.sl n sz ds) (.slice (some ⟨b, 0, none⟩) n n) → F M' Γ) : Turn w0 M1 Γ1 F := fun _ hw => by
  obtain ⟨M', h1, h2, h3⟩ := (hw.perm hp.perm).seal_own_diff h0 hr hl hn
  exact ⟨M', Γ, hF M' h1 h2, h3.sub (hs.trans (List.sublist_cons_self _ _))⟩

/-! ### A table whose rows are made one after the other -/
def outerP (us : List Value) (n : Nat) : List Value := us ++ List.replicate (n - us.length) (.slice none 0 0)
theorem outerP_len {us : List Value} {n : Nat} (h : us.length ≤ n) : (outerP us n).length = n := by simp [outerP]; omega
theorem outerP_get {us : List Value} {n k : Nat} {v : Value} (h : us[k]? = some v) : (outerP us n)[k * 1]? = some v := by
  have hk : k < us.length := by
    rcases Nat.lt_or_ge k us.length with h1 | h1
    · exact h1
    · rw [List.getElem?_eq_none h1] at h; cases h
  rw [outerP, Nat.mul_one, List.getElem?_append_left hk, h]
theorem outerP_set {us : List Value} {n q : Nat} {v : Value} (hq : q = us.length) (h : us.length < n) : (outerP us n).set q v = outerP (us ++ [v]) n := by
  subst hq
  rw [outerP, outerP, List.set_append_right _ _ (Nat.le_refl _), Nat.sub_self]
  have : n - us.length = (n - (us ++ [v]).length) + 1 := by simp; omega
  rw [this, List.replicate_succ, List.set_cons_zero, List.append_assoc]
  rfl
theorem outerP_full {us : List Value} {n : Nat} (h : us.length = n) : outerP us n = us := by
  subst h; simp [outerP]
theorem made_nils (n : Nat) : (madeCells (Value.slice none 0 0).cells (n * 1)).toList = outerP [] n := by
  apply List.ext_getElem
  · simp [madeCells, outerP]
  · intro i h1 h2
    simp [madeCells, outerP, Value.cells, Nat.mod_one]
/-- Back to the sealed memory of an earlier state, one block of the call's own changed. -/
theorem Turn.back1 {w0 w1 : World} {M M1 : Mem} {Γ Γ1 R : List As} {F : Mem → List As → Prop} {b : Nat} {e : TypeId} {cs0 cs : List Value} (h : St w0 M (.own b e cs0 :: Γ) w1) (hs : Sub M M1) (hp : Pick (.own b e cs) Γ1 R) (hl : List.Sublist Γ R) (hF : F M (.own b e cs :: Γ)) : Turn w0 M1 Γ1 F := fun w hw => by
  refine ⟨M, _, hF, ?_⟩
  have h' := (hw.perm hp.perm).sub (List.Sublist.cons_cons _ hl)
  refine ⟨h'.os, h'.tape, h'.output, h'.size, fun b o hb => h'.mem b o (hs b o hb), fun x hx => ?_, by simpa [List.filterMap_cons, As.blk] using h'.nodup⟩
  rcases List.mem_cons.1 hx with rfl | hx
  · exact ⟨(h.all _ (List.mem_cons_self ..)).1, (h'.all _ (List.mem_cons_self ..)).2⟩
  · have k1 := h.all x (List.mem_cons_of_mem _ hx)
    have k2 := h'.all x (List.mem_cons_of_mem _ hx)
    cases x with
    | rd d u => exact k1
    | rds d u => exact k1
    | own b e cs => exact ⟨k1.1, k2.2⟩
    | acc u e sz n us => exact ⟨k2.1, k1.2⟩
    | mp b l => exact ⟨k1.1, k2.2⟩
end Xe
