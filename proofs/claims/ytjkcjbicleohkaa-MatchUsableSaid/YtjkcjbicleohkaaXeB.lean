/-
  THE ENGINE, PART B: the rules for control, for regions, for calls. No program in sight.
-/
import Derived.Test.YtjkcjbicleohkaaXeA
namespace Xe
open Go

/-- What is asked of each way out, in words on slots and memory. -/
abbrev Pst := Exit → Lm → Mem → List As → Prop

def Real (n : Nat) (w0 : World) (X : Pst) (e : Exit) (a : Act) (w : World) : Prop := ∃ L M Γ, X e L M Γ ∧ Sat n L a ∧ St w0 M Γ w

def CW (P : Program) (n : Nat) (w0 : World) (c : Code) (X : Pst) (L : Lm) (M : Mem) (Γ : List As) : Prop :=
  ∀ a w, Sat n L a → St w0 M Γ w → c.wp P (Real n w0 X) a w

def thenX (K : Lm → Mem → List As → Prop) (X : Pst) : Pst
  | .normal, L, M, Γ => K L M Γ
  | e, L, M, Γ => X e L M Γ

def blockX (id : Nat) (X : Pst) : Pst
  | .exit i, L, M, Γ => match Nat.beq i id with
    | true => X .normal L M Γ
    | false => X (.exit i) L M Γ
  | e, L, M, Γ => X e L M Γ

section
variable {P : Program} {n : Nat} {w0 : World} {X : Pst} {L : Lm} {M : Mem} {Γ : List As}

theorem CW.mono {X' : Pst} {c : Code} (h : CW P n w0 c X L M Γ) (hx : ∀ e L M Γ, X e L M Γ → X' e L M Γ) : CW P n w0 c X' L M Γ :=
  fun a w ha hw => wp_mono (h a w ha hw) fun _ _ _ ⟨L, M, Γ, hX, h1, h2⟩ => ⟨L, M, Γ, hx _ _ _ _ hX, h1, h2⟩

/-- Weaker words on the state. -/
theorem CW.pre {c : Code} {L' : Lm} {M' : Mem} {Γ' : List As} (h : CW P n w0 c X L' M' Γ') (hL : Keep L L') (hG : ∀ w, St w0 M Γ w → St w0 M' Γ' w) : CW P n w0 c X L M Γ :=
  fun a w ha hw => h a w (ha.keep hL) (hG w hw)

theorem CW.keep {c : Code} {L' : Lm} (hL : Keep L L') (h : CW P n w0 c X L' M Γ) : CW P n w0 c X L M Γ := h.pre hL fun _ hw => hw

theorem CW.turn {c : Code} {F : Mem → List As → Prop} (ht : Turn w0 M Γ F) (h : ∀ M' Γ', F M' Γ' → CW P n w0 c X L M' Γ') : CW P n w0 c X L M Γ :=
  fun a w ha hw => let ⟨M', Γ', hF, hw'⟩ := ht w hw; h M' Γ' hF a w ha hw'

/-- What holds in whatever such state may be used. -/
theorem CW.know {c : Code} {F : Prop} (hF : ∀ w, St w0 M Γ w → F) (h : F → CW P n w0 c X L M Γ) : CW P n w0 c X L M Γ :=
  fun a w ha hw => h (hF w hw) a w ha hw

theorem CW.seq {c1 c2 : Code} (h : ∀ K : Lm → Mem → List As → Prop, (∀ L M Γ, CW P n w0 c2 X L M Γ → K L M Γ) → CW P n w0 c1 (thenX K X) L M Γ) : CW P n w0 (.seq c1 c2) X L M Γ := by
  intro a w ha hw
  refine wp_seq (wp_mono (h (fun L M Γ => CW P n w0 c2 X L M Γ) (fun _ _ _ h => h) a w ha hw) ?_)
  rintro e a w ⟨L, M, Γ, hX, h1, h2⟩
  cases e <;> first | exact hX a w h1 h2 | exact ⟨L, M, Γ, hX, h1, h2⟩

/-- The same, the words between the two written by hand: where several ways meet. -/
theorem CW.cut {c1 c2 : Code} (K : Lm → Mem → List As → Prop) (h : CW P n w0 c1 (thenX K X) L M Γ) (k : ∀ L M Γ, K L M Γ → CW P n w0 c2 X L M Γ) : CW P n w0 (.seq c1 c2) X L M Γ := by
  intro a w ha hw
  refine wp_seq (wp_mono (h a w ha hw) ?_)
  rintro e a w ⟨L, M, Γ, hX, h1, h2⟩
  cases e <;> first | exact k _ _ _ hX a w h1 h2 | exact ⟨L, M, Γ, hX, h1, h2⟩

theorem CW.skip (h : X .normal L M Γ) : CW P n w0 .skip X L M Γ := fun _ _ ha hw => wp_skip ⟨L, M, Γ, h, ha, hw⟩
theorem CW.label {l : Nat} (h : X .normal L M Γ) : CW P n w0 (.label l) X L M Γ := fun _ _ ha hw => wp_label ⟨L, M, Γ, h, ha, hw⟩
theorem CW.exit {id : Nat} (h : X (.exit id) L M Γ) : CW P n w0 (.exit id) X L M Γ := fun _ _ ha hw => wp_exit ⟨L, M, Γ, h, ha, hw⟩
theorem CW.ret (h : X .ret L M Γ) : CW P n w0 .ret X L M Γ := fun _ _ ha hw => wp_ret ⟨L, M, Γ, h, ha, hw⟩

theorem CW.block {id : Nat} {c : Code} (h : CW P n w0 c (blockX id X) L M Γ) : CW P n w0 (.block id c) X L M Γ := by
  intro a w ha hw
  refine wp_block (wp_mono (h a w ha hw) ?_)
  rintro e a w ⟨L, M, Γ, hX, h1, h2⟩
  cases e with
  | exit i =>
    simp only [Exit.inBlock]
    by_cases e : i = id
    · subst e
      have hb : Nat.beq i i = true := Nat.beq_refl i
      simp only [blockX, hb] at hX
      simp only [if_true]
      exact ⟨L, M, Γ, hX, h1, h2⟩
    · have hb : Nat.beq i id = false := by
        cases hb : Nat.beq i id with
        | false => rfl
        | true => exact absurd (Nat.eq_of_beq_eq_true hb) e
      simp only [blockX, hb] at hX
      rw [if_neg e]
      exact ⟨L, M, Γ, hX, h1, h2⟩
  | _ => exact ⟨L, M, Γ, hX, h1, h2⟩

theorem CW.cond {t : Operand} {c1 c2 : Code} {b : Bool} (ht : evL L t = some (.bool b)) (h1 : b = true → CW P n w0 c1 X L M Γ) (h2 : b = false → CW P n w0 c2 X L M Γ) : CW P n w0 (.cond t c1 c2) X L M Γ :=
  fun a w ha hw => wp_cond_split (ha.ev ht) (fun hb => h1 hb a w ha hw) (fun hb => h2 hb a w ha hw)
theorem CW.yes {t : Operand} {c1 c2 : Code} (ht : evL L t = some (.bool true)) (h1 : CW P n w0 c1 X L M Γ) : CW P n w0 (.cond t c1 c2) X L M Γ :=
  fun a w ha hw => wp_cond_true (ha.ev ht) (h1 a w ha hw)
theorem CW.no {t : Operand} {c1 c2 : Code} (ht : evL L t = some (.bool false)) (h1 : CW P n w0 c2 X L M Γ) : CW P n w0 (.cond t c1 c2) X L M Γ :=
  fun a w ha hw => wp_cond_false (ha.ev ht) (h1 a w ha hw)
/-- A test that is a proposition's. -/
theorem CW.ite {t : Operand} {c1 c2 : Code} {p : Prop} [Decidable p] (ht : evL L t = some (.bool (decide p))) (h1 : p → CW P n w0 c1 X L M Γ) (h2 : ¬ p → CW P n w0 c2 X L M Γ) : CW P n w0 (.cond t c1 c2) X L M Γ :=
  CW.cond ht (fun h => h1 (of_decide_eq_true h)) (fun h => h2 (of_decide_eq_false h))

/-- A loop: I m: what holds at a round's head, m rounds at most to come. -/
theorem CW.loop {c : Code} (I : Nat → Lm → Mem → List As → Prop) (m : Nat) (h0 : I m L M Γ)
    (round : ∀ m L M Γ, I m L M Γ → CW P n w0 c (thenX (fun L M Γ => ∃ m', m' < m ∧ I m' L M Γ) X) L M Γ) : CW P n w0 (.loop c) X L M Γ := by
  intro a w ha hw b k cs
  have key : ∀ m (L : Lm) (M : Mem) (Γ : List As) (a : Act) (w : World), I m L M Γ → Sat n L a → St w0 M Γ w →
      ∃ e a' w', Real n w0 X e a' w' ∧ Arrives P (lone (b.at a (.code c :: .inLoop c :: k)) cs w) b k cs e a' w' := by
    intro m
    induction m using Nat.strongRecOn with
    | _ m ih =>
      intro L M Γ a w hI ha hw
      obtain ⟨e, a1, w1, hq, harr⟩ := round m L M Γ hI a w ha hw b (.inLoop c :: k) cs
      obtain ⟨L1, M1, Γ1, hX, h1, h2⟩ := hq
      cases e with
      | normal =>
        obtain ⟨m', hlt, hI'⟩ := hX
        obtain ⟨e2, a2, w2, hq2, harr2⟩ := ih m' hlt L1 M1 Γ1 a1 w1 hI' h1 h2
        exact ⟨e2, a2, w2, hq2, .of_steps (Steps.trans harr (.one step_inLoop)) harr2⟩
      | exit id => exact ⟨_, a1, w1, ⟨L1, M1, Γ1, hX, h1, h2⟩, .pass (x := .inLoop c) rfl (fun _ _ => .inl (by simp)) harr⟩
      | goto l => exact ⟨_, a1, w1, ⟨L1, M1, Γ1, hX, h1, h2⟩, .pass (x := .inLoop c) rfl (fun _ _ => .inl (by simp)) harr⟩
      | ret => exact ⟨_, a1, w1, ⟨L1, M1, Γ1, hX, h1, h2⟩, .pass (x := .inLoop c) rfl (fun _ _ => .inl (by simp)) harr⟩
      | panic ch => exact ⟨_, a1, w1, ⟨L1, M1, Γ1, hX, h1, h2⟩, .pass (x := .inLoop c) rfl (fun _ _ => .inl (by simp)) harr⟩
      | outgrown => exact ⟨_, a1, w1, ⟨L1, M1, Γ1, hX, h1, h2⟩, .pass (x := .inLoop c) rfl (fun _ _ => .inl (by simp)) harr⟩
  obtain ⟨e, a', w', hq, harr⟩ := key m L M Γ a w h0 ha hw
  exact ⟨e, a', w', hq, .of_steps (.one step_loop) harr⟩
end
end Xe
