/- THE ENGINE, parts ABCDEF. No program in sight. -/
import Derived.WalkKit
import Derived.Deep.Quiet
/-
  THE ENGINE, PART A: slots, sealed memory, readings, the state assertion, the rules for control. No program in sight.
-/
namespace Xe
open Go

/-! ### Slots -/

abbrev Lm := List (Nat × Value)

def getL : Lm → Nat → Option Value
  | [], _ => none
  | (t, v) :: r, s => match Nat.beq s t with
    | true => some v
    | false => getL r s

def evL (L : Lm) : Operand → Option Value
  | .tmp t => getL L t
  | .const v => some v
  | .global g => some (.pointer (some ⟨g, 0, none⟩))
  | .func f => some (.func (.func f) #[] #[])

structure Sat (n : Nat) (L : Lm) (a : Act) : Prop where
  size : a.tmps.size = n
  defers : a.defers = []
  get : ∀ t v, getL L t = some v → a.tmps[t]? = some v

theorem Sat.ev {n : Nat} {L : Lm} {a : Act} (h : Sat n L a) {x : Operand} {v : Value} (hx : evL L x = some v) : a.eval x = v := by
  cases x with
  | tmp t =>
    have := h.get t v hx
    simp only [Act.eval, Array.getD_eq_getD_getElem?, this, Option.getD_some]
  | const c => simpa [evL, Act.eval] using hx
  | global g => simpa [evL, Act.eval] using hx
  | func f => simpa [evL, Act.eval] using hx

theorem Sat.put {n d : Nat} {L : Lm} {a : Act} {v : Value} (h : Sat n L a) (hd : Nat.blt d n = true) : Sat n ((d, v) :: L) (a.put (some d) v) := by
  have hd' : d < n := by simpa [Nat.blt_eq] using hd
  refine ⟨by simp [Act.put, h.size], by simp [Act.put, h.defers], fun t u ht => ?_⟩
  simp only [getL] at ht
  by_cases e : t = d
  · subst e
    have hb : Nat.beq t t = true := Nat.beq_refl t
    rw [hb] at ht
    simp only [Option.some.injEq] at ht
    subst ht
    have : t < a.tmps.size := by rw [h.size]; exact hd'
    simp [Act.put, this]
  · have hb : Nat.beq t d = false := by
      cases hb : Nat.beq t d with
      | false => rfl
      | true => exact absurd (Nat.eq_of_beq_eq_true hb) e
    rw [hb] at ht
    have := h.get t u ht
    simp only [Act.put]
    rw [Array.getElem?_setIfInBounds_ne (by omega)]
    exact this

theorem Sat.keep {n : Nat} {L L' : Lm} {a : Act} (h : Sat n L a) (hk : ∀ t v, getL L' t = some v → getL L t = some v) : Sat n L' a :=
  ⟨h.size, h.defers, fun t v ht => h.get t v (hk t v ht)⟩

/-- L' is a part of L. -/
def Keep (L L' : Lm) : Prop := ∀ t v, getL L' t = some v → getL L t = some v
theorem Keep.nil (L : Lm) : Keep L [] := fun _ _ h => by simp [getL] at h
theorem Keep.cons {L L' : Lm} (t : Nat) {v : Value} (h : getL L t = some v) (k : Keep L L') : Keep L ((t, v) :: L') := fun s u hs => by
  simp only [getL] at hs
  cases hb : Nat.beq s t with
  | true =>
    rw [hb] at hs
    simp only [Option.some.injEq] at hs
    subst hs
    rw [Nat.eq_of_beq_eq_true hb]; exact h
  | false => rw [hb] at hs; exact k s u hs
theorem Keep.refl (L : Lm) : Keep L L := fun _ _ h => h

/-! ### Sealed memory, readings -/

/-- Memory that is never written again. -/
abbrev Mem := Nat → Option Obj
def Sub (M M' : Mem) : Prop := ∀ b o, M b = some o → M' b = some o
theorem Sub.refl (M : Mem) : Sub M M := fun _ _ h => h
theorem Sub.trans {M M' M'' : Mem} (h : Sub M M') (k : Sub M' M'') : Sub M M'' := fun b o hb => k b o (h b o hb)

/-- The address i cells behind a. -/
def adr (a : Option Addr) (i : Nat) : Addr := (a.getD default).add i
theorem adr_add (a : Option Addr) (i j : Nat) : (adr a i).add j = adr a (i + j) := by
  unfold adr Addr.add
  by_cases hi : i = 0
  · subst hi
    by_cases hj : j = 0
    · simp [hj]
    · simp
  · by_cases hj : j = 0
    · simp [hj]
    · have : i + j ≠ 0 := by omega
      simp [hi, hj, Nat.add_assoc]
theorem adr_some (b o i : Nat) : adr (some ⟨b, o, none⟩) i = ⟨b, o + i, none⟩ := by
  unfold adr Addr.add
  by_cases hi : i = 0
  · simp [hi]
  · simp [hi]
theorem adr_of (x : Addr) (i : Nat) : x.add i = adr (some x) i := rfl

def cellM (M : Mem) (p : Addr) : Option Value :=
  match M p.block with
  | some (.cells c _ _) => if p.spot.isSome then none else c[p.off]?
  | _ => none

theorem cellM_mono {M M' : Mem} (h : Sub M M') {p : Addr} {v : Value} (hv : cellM M p = some v) : cellM M' p = some v := by
  unfold cellM at *
  cases hM : M p.block with
  | none => simp [hM] at hv
  | some o => rw [h _ _ hM]; rw [hM] at hv; exact hv

/-- What a value reads as. -/
inductive D where
  | v (x : Value)
  | sl (n sz : Nat) (cs : List D)

def lim : Nat := 140737488355328

mutual
def Rd (M : Mem) : D → Value → Prop
  | .v x, u => u = x ∧ x.oneCell' = true
  | .sl n sz cs, u => ∃ a cap, u = .slice a n cap ∧ n ≤ cap ∧ cap ≤ maxLen ∧ n ≤ lim ∧ cs.length = n * sz ∧ (0 < n → a.isSome = true) ∧ RdC M a 0 cs
def RdC (M : Mem) (a : Option Addr) : Nat → List D → Prop
  | _, [] => True
  | i, d :: ds => (∃ u, cellM M (adr a i) = some u ∧ Rd M d u) ∧ RdC M a (i + 1) ds
end

mutual
theorem Rd.mono {M M' : Mem} (h : Sub M M') : ∀ (d : D) (u : Value), Rd M d u → Rd M' d u
  | .v x, u, hr => by simpa [Rd] using hr
  | .sl n sz cs, u, hr => by
    simp only [Rd] at hr ⊢
    obtain ⟨a, cap, h1, h2, h3, h4, h5, h6, h7⟩ := hr
    exact ⟨a, cap, h1, h2, h3, h4, h5, h6, RdC.mono h a cs 0 h7⟩
theorem RdC.mono {M M' : Mem} (h : Sub M M') (a : Option Addr) : ∀ (cs : List D) (i : Nat), RdC M a i cs → RdC M' a i cs
  | [], i, _ => by simp [RdC]
  | d :: ds, i, hr => by
    simp only [RdC] at hr ⊢
    obtain ⟨⟨u, h1, h2⟩, h3⟩ := hr
    exact ⟨⟨u, cellM_mono h h1, Rd.mono h d u h2⟩, RdC.mono h a ds (i + 1) h3⟩
end

theorem RdC.get {M : Mem} {a : Option Addr} : ∀ (cs : List D) (i : Nat), RdC M a i cs → ∀ (k : Nat) (d : D), cs[k]? = some d → ∃ u, cellM M (adr a (i + k)) = some u ∧ Rd M d u
  | [], _, _, k, d, hk => by simp at hk
  | e :: es, i, h, k, d, hk => by
    simp only [RdC] at h
    cases k with
    | zero => simp only [List.getElem?_cons_zero, Option.some.injEq] at hk; subst hk; exact h.1
    | succ k =>
      obtain ⟨u, h1, h2⟩ := RdC.get es (i + 1) h.2 k d (by simpa using hk)
      exact ⟨u, by rw [show i + (k + 1) = i + 1 + k from by omega]; exact h1, h2⟩

theorem RdC.mk {M : Mem} {a : Option Addr} : ∀ (cs : List D) (i : Nat), (∀ (k : Nat) (d : D), cs[k]? = some d → ∃ u, cellM M (adr a (i + k)) = some u ∧ Rd M d u) → RdC M a i cs
  | [], _, _ => by simp [RdC]
  | e :: es, i, h => by
    simp only [RdC]
    refine ⟨?_, RdC.mk es (i + 1) fun k d hk => ?_⟩
    · have := h 0 e rfl; simpa using this
    · have := h (k + 1) d (by simpa using hk)
      rwa [show i + (k + 1) = i + 1 + k from by omega] at this

/-- Several cells, one behind the other. -/
def RdL (M : Mem) (ds : List D) (us : List Value) : Prop := us.length = ds.length ∧ ∀ (k : Nat) (d : D) (u : Value), ds[k]? = some d → us[k]? = some u → Rd M d u
theorem RdL.mono {M M' : Mem} (h : Sub M M') {ds : List D} {us : List Value} (hr : RdL M ds us) : RdL M' ds us :=
  ⟨hr.1, fun k d u h1 h2 => Rd.mono h d u (hr.2 k d u h1 h2)⟩
theorem RdL.nil (M : Mem) : RdL M [] [] := ⟨rfl, fun k d u h _ => by simp at h⟩
theorem RdL.cons {M : Mem} {d : D} {u : Value} {ds : List D} {us : List Value} (h : Rd M d u) (k : RdL M ds us) : RdL M (d :: ds) (u :: us) :=
  ⟨by simp [k.1], fun i e x h1 h2 => by
    cases i with
    | zero => simp only [List.getElem?_cons_zero, Option.some.injEq] at h1 h2; subst h1 h2; exact h
    | succ i => exact k.2 i e x (by simpa using h1) (by simpa using h2)⟩
theorem RdL.append {M : Mem} {ds es : List D} {us xs : List Value} (h : RdL M ds us) (k : RdL M es xs) : RdL M (ds ++ es) (us ++ xs) := by
  refine ⟨by simp [h.1, k.1], fun i d u h1 h2 => ?_⟩
  by_cases hi : i < ds.length
  · rw [List.getElem?_append_left hi] at h1
    rw [List.getElem?_append_left (by rw [h.1]; exact hi)] at h2
    exact h.2 i d u h1 h2
  · rw [List.getElem?_append_right (by omega)] at h1
    rw [List.getElem?_append_right (by rw [h.1]; omega)] at h2
    rw [h.1] at h2
    exact k.2 _ d u h1 h2

/-! ### Assertions -/

inductive As where
  | rd (d : D) (u : Value)
  | rds (ds : List D) (us : List Value)
  | own (b : Nat) (e : TypeId) (cs : List Value)
  | acc (u : Value) (e : TypeId) (sz n : Nat) (us : List Value)
  | mp (b : Nat) (l : List (Value × Value))

def As.blk : As → Option Nat
  | .own b _ _ => some b
  | .acc u _ _ _ _ => u.ownBlock
  | .mp b _ => some b
  | _ => none

def As.ok (M : Mem) (w : World) : As → Prop
  | .rd d u => Rd M d u
  | .rds ds us => RdL M ds us
  | .own b e cs => M b = none ∧ w.heap[b]? = some (.cells cs.toArray e (0, 0))
  | .acc u e sz n us => w.ownsRow 0 e sz u n us ∧ ∀ b, u.ownBlock = some b → M b = none
  | .mp b l => M b = none ∧ ∃ es clock, w.heap[b]? = some (.map es clock) ∧ es.toList.map (fun e => (e.key, e.val)) = l

/-- The state of memory: as it was when w0 was, but for what Γ owns. -/
structure St (w0 : World) (M : Mem) (Γ : List As) (w : World) : Prop where
  os : w.os = w0.os
  tape : w.tape = w0.tape
  output : w.output = w0.output
  size : w0.heap.size ≤ w.heap.size
  mem : ∀ b o, M b = some o → w.heap[b]? = some o
  all : ∀ x, x ∈ Γ → x.ok M w
  nodup : (Γ.filterMap As.blk).Nodup

theorem St.lt {w0 w : World} {M : Mem} {Γ : List As} (h : St w0 M Γ w) {b : Nat} {o : Obj} (hb : M b = some o) : b < w.heap.size := by
  have := h.mem b o hb
  exact (Array.getElem?_eq_some_iff.1 this).1

theorem St.fresh {w0 w : World} {M : Mem} {Γ : List As} (h : St w0 M Γ w) : M w.heap.size = none := by
  cases hM : M w.heap.size with
  | none => rfl
  | some o => have := h.lt hM; omega

theorem St.cell {w0 w : World} {M : Mem} {Γ : List As} (h : St w0 M Γ w) {p : Addr} {v : Value} (hv : cellM M p = some v) : w.cell? p = some v := by
  unfold cellM at hv
  unfold World.cell?
  cases hM : M p.block with
  | none => simp [hM] at hv
  | some o =>
    rw [h.mem _ _ hM]
    rw [hM] at hv
    cases o <;> first | exact hv | simp at hv

theorem As.ok_blk_lt {M : Mem} {w : World} {x : As} (h : x.ok M w) {b : Nat} (hb : x.blk = some b) : b < w.heap.size ∧ M b = none := by
  cases x with
  | rd d u => simp [As.blk] at hb
  | rds d u => simp [As.blk] at hb
  | own b' e cs =>
    simp only [As.blk, Option.some.injEq] at hb
    subst hb
    exact ⟨(Array.getElem?_eq_some_iff.1 h.2).1, h.1⟩
  | acc u e sz n us =>
    simp only [As.blk] at hb
    exact ⟨(h.1.lt b hb).2, h.2 b hb⟩
  | mp b' l =>
    simp only [As.blk, Option.some.injEq] at hb
    subst hb
    obtain ⟨h1, es, clock, h2, _⟩ := h
    exact ⟨(Array.getElem?_eq_some_iff.1 h2).1, h1⟩

/-- An assertion whose own block is as it was still holds, over more sealed memory. -/
theorem As.ok_keep {M M' : Mem} {w w' : World} {x : As} (h : x.ok M w) (hs : Sub M M') (hb : ∀ b, x.blk = some b → w'.heap[b]? = w.heap[b]? ∧ M' b = none) : x.ok M' w' := by
  cases x with
  | rd d u => exact Rd.mono hs d u h
  | rds ds us => exact RdL.mono hs h
  | own b e cs => exact ⟨(hb b rfl).2, by rw [(hb b rfl).1]; exact h.2⟩
  | acc u e sz n us =>
    refine ⟨?_, fun b hbb => (hb b hbb).2⟩
    obtain ⟨h1, h2⟩ := h.1
    refine ⟨h1, ?_⟩
    rcases h2 with h2 | ⟨g, cap, cur, hv, hg, hh, r⟩
    · exact .inl h2
    · exact .inr ⟨g, cap, cur, hv, hg, by rw [(hb g (by subst hv; rfl)).1]; exact hh, r⟩
  | mp b l =>
    obtain ⟨_, es, clock, h2, h3⟩ := h
    exact ⟨(hb b rfl).2, es, clock, by rw [(hb b rfl).1]; exact h2, h3⟩

/-! Membership in, exchange of one element of, a written-out list -/

theorem mem_blk {Γ : List As} {x : As} {b : Nat} (hx : x ∈ Γ) (hb : x.blk = some b) : b ∈ Γ.filterMap As.blk := List.mem_filterMap.2 ⟨x, hx, hb⟩

theorem St.draw {w0 w : World} {M : Mem} {Γ : List As} (h : St w0 M Γ w) (k : Nat) : St w0 M Γ { w with drawn := k } :=
  ⟨h.os, h.tape, h.output, h.size, h.mem, fun x hx => As.ok_keep (w' := { w with drawn := k }) (h.all x hx) (Sub.refl M) fun _ hb => ⟨rfl, (As.ok_blk_lt (h.all x hx) hb).2⟩, h.nodup⟩

/-- Forget: any sublist. -/
theorem St.sub {w0 w : World} {M : Mem} {Γ Γ' : List As} (h : St w0 M Γ w) (hs : List.Sublist Γ' Γ) : St w0 M Γ' w :=
  ⟨h.os, h.tape, h.output, h.size, h.mem, fun x hx => h.all x (hs.subset hx), (hs.filterMap As.blk).nodup h.nodup⟩

theorem St.perm {w0 w : World} {M : Mem} {Γ Γ' : List As} (h : St w0 M Γ w) (hp : List.Perm Γ Γ') : St w0 M Γ' w :=
  ⟨h.os, h.tape, h.output, h.size, h.mem, fun x hx => h.all x (hp.symm.subset hx), (hp.filterMap As.blk).nodup_iff.1 h.nodup⟩

/-- Facts without a block of their own may be added. -/
theorem St.add {w0 w : World} {M : Mem} {Γ : List As} (h : St w0 M Γ w) {x : As} (hx : x.ok M w) (hb : x.blk = none) : St w0 M (x :: Γ) w :=
  ⟨h.os, h.tape, h.output, h.size, h.mem, fun y hy => by
    rcases List.mem_cons.1 hy with rfl | hy
    · exact hx
    · exact h.all y hy, by simpa [List.filterMap_cons, hb] using h.nodup⟩

theorem St.rd {w0 w : World} {M : Mem} {Γ : List As} (h : St w0 M Γ w) {d : D} {u : Value} (hm : As.rd d u ∈ Γ) : Rd M d u := h.all _ hm

/-- Back to the sealed memory of an earlier state, where what is owned now was owned then, in the same words. -/
theorem St.back {w0 w w' : World} {M M' : Mem} {Γ : List As} (h : St w0 M Γ w) (h' : St w0 M' Γ w') (hs : Sub M M') : St w0 M Γ w' :=
  ⟨h'.os, h'.tape, h'.output, h'.size, fun b o hb => h'.mem b o (hs b o hb), fun x hx => by
    have h1 := h.all x hx
    have h2 := h'.all x hx
    cases x with
    | rd d u => exact h1
    | rds d u => exact h1
    | own b e cs => exact ⟨h1.1, h2.2⟩
    | acc u e sz n us => exact ⟨h2.1, h1.2⟩
    | mp b l => exact ⟨h1.1, h2.2⟩, h.nodup⟩

/-- Memory may be seen otherwise. -/
def Turn (w0 : World) (M : Mem) (Γ : List As) (F : Mem → List As → Prop) : Prop := ∀ w, St w0 M Γ w → ∃ M' Γ', F M' Γ' ∧ St w0 M' Γ' w
theorem Turn.same {w0 : World} {M : Mem} {Γ : List As} {F : Mem → List As → Prop} (h : F M Γ) : Turn w0 M Γ F := fun _ hw => ⟨M, Γ, h, hw⟩
theorem Turn.of {w0 : World} {M M' : Mem} {Γ Γ' : List As} {F : Mem → List As → Prop} (h : F M' Γ') (k : ∀ w, St w0 M Γ w → St w0 M' Γ' w) : Turn w0 M Γ F := fun w hw => ⟨M', Γ', h, k w hw⟩

/-- A new block. -/
theorem St.alloc {w0 w : World} {M : Mem} {Γ : List As} (h : St w0 M Γ w) (e : TypeId) (cs : List Value) :
    St w0 M (.own w.heap.size e cs :: Γ) { w with heap := w.heap.push (.cells cs.toArray e (0, 0)) } := by
  have hold : ∀ b, b < w.heap.size → (w.heap.push (.cells cs.toArray e (0, 0)))[b]? = w.heap[b]? := fun b hb => by
    rw [Array.getElem?_push, if_neg (by omega)]
  refine ⟨h.os, h.tape, h.output, by simp; have := h.size; omega, fun b o hb => ?_, fun x hx => ?_, ?_⟩
  · rw [hold b (h.lt hb)]; exact h.mem b o hb
  · rcases List.mem_cons.1 hx with rfl | hx
    · exact ⟨h.fresh, by simp⟩
    · exact As.ok_keep (h.all x hx) (Sub.refl M) fun b hb => ⟨hold b (As.ok_blk_lt (h.all x hx) hb).1, (As.ok_blk_lt (h.all x hx) hb).2⟩
  · simp only [List.filterMap_cons, As.blk]
    refine List.nodup_cons.2 ⟨fun hm => ?_, h.nodup⟩
    obtain ⟨x, hx, hb⟩ := List.mem_filterMap.1 hm
    have := (As.ok_blk_lt (h.all x hx) hb).1
    omega

/-- The block at the list's head gets other cells. -/
theorem St.write {w0 w : World} {M : Mem} {Γ : List As} {b : Nat} {e : TypeId} {cs : List Value} (h : St w0 M (.own b e cs :: Γ) w) (cs' : List Value) (w' : World)
    (hw : w' = { w with heap := w.heap.setIfInBounds b (.cells cs'.toArray e (0, 0)) }) : St w0 M (.own b e cs' :: Γ) w' := by
  subst hw
  have hown := h.all _ (List.mem_cons_self ..)
  have hlt : b < w.heap.size := (Array.getElem?_eq_some_iff.1 hown.2).1
  have hne : ∀ k, k ≠ b → (w.heap.setIfInBounds b (.cells cs'.toArray e (0, 0)))[k]? = w.heap[k]? := fun k hk => Array.getElem?_setIfInBounds_ne (by omega)
  have hnd := h.nodup
  simp only [List.filterMap_cons, As.blk] at hnd
  refine ⟨h.os, h.tape, h.output, by simp; exact h.size, fun k o hk => ?_, fun x hx => ?_, by simpa [List.filterMap_cons, As.blk] using h.nodup⟩
  · rw [hne k (fun e => by subst e; rw [hown.1] at hk; cases hk)]; exact h.mem k o hk
  · rcases List.mem_cons.1 hx with rfl | hm
    · exact ⟨hown.1, by simp [hlt]⟩
    · have hx' := h.all x (List.mem_cons_of_mem _ hm)
      refine As.ok_keep hx' (Sub.refl M) fun k hk => ⟨hne k fun e => ?_, (As.ok_blk_lt hx' hk).2⟩
      subst e
      exact (List.nodup_cons.1 hnd).1 (mem_blk hm hk)

end Xe

/-
  THE ENGINE, PART B: the rules for control, for regions, for calls. No program in sight.
-/
namespace Xe
open Go

/-- What is asked of each way out, in words on slots and memory. -/
abbrev Pst := Exit → Lm → Mem → List As → Prop

def Real (n : Nat) (w0 : World) (X : Pst) (e : Exit) (a : Act) (w : World) : Prop := ∃ L M Γ, X e L M Γ ∧ Sat n L a ∧ St w0 M Γ w

def CW (P : Program) (n : Nat) (w0 : World) (c : Code) (X : Pst) (L : Lm) (M : Mem) (Γ : List As) : Prop :=
  ∀ a w, Sat n L a → St w0 M Γ w → c.wp P (Real n w0 X) a w

def thenX (K : Lm → Mem → List As → Prop) (X : Pst) : Pst
  | .normal, L, M, Γ => K L M Γ
  | e, L, M, Γ => X e L M Γ

def blockX (id : Nat) (X : Pst) : Pst
  | .exit i, L, M, Γ => match Nat.beq i id with
    | true => X .normal L M Γ
    | false => X (.exit i) L M Γ
  | e, L, M, Γ => X e L M Γ

section
variable {P : Program} {n : Nat} {w0 : World} {X : Pst} {L : Lm} {M : Mem} {Γ : List As}

theorem CW.mono {X' : Pst} {c : Code} (h : CW P n w0 c X L M Γ) (hx : ∀ e L M Γ, X e L M Γ → X' e L M Γ) : CW P n w0 c X' L M Γ :=
  fun a w ha hw => wp_mono (h a w ha hw) fun _ _ _ ⟨L, M, Γ, hX, h1, h2⟩ => ⟨L, M, Γ, hx _ _ _ _ hX, h1, h2⟩

/-- Weaker words on the state. -/
theorem CW.pre {c : Code} {L' : Lm} {M' : Mem} {Γ' : List As} (h : CW P n w0 c X L' M' Γ') (hL : Keep L L') (hG : ∀ w, St w0 M Γ w → St w0 M' Γ' w) : CW P n w0 c X L M Γ :=
  fun a w ha hw => h a w (ha.keep hL) (hG w hw)

theorem CW.keep {c : Code} {L' : Lm} (hL : Keep L L') (h : CW P n w0 c X L' M Γ) : CW P n w0 c X L M Γ := h.pre hL fun _ hw => hw

theorem CW.turn {c : Code} {F : Mem → List As → Prop} (ht : Turn w0 M Γ F) (h : ∀ M' Γ', F M' Γ' → CW P n w0 c X L M' Γ') : CW P n w0 c X L M Γ :=
  fun a w ha hw => let ⟨M', Γ', hF, hw'⟩ := ht w hw; h M' Γ' hF a w ha hw'

/-- What holds in whatever such state may be used. -/
theorem CW.know {c : Code} {F : Prop} (hF : ∀ w, St w0 M Γ w → F) (h : F → CW P n w0 c X L M Γ) : CW P n w0 c X L M Γ :=
  fun a w ha hw => h (hF w hw) a w ha hw

theorem CW.seq {c1 c2 : Code} (h : ∀ K : Lm → Mem → List As → Prop, (∀ L M Γ, CW P n w0 c2 X L M Γ → K L M Γ) → CW P n w0 c1 (thenX K X) L M Γ) : CW P n w0 (.seq c1 c2) X L M Γ := by
  intro a w ha hw
  refine wp_seq (wp_mono (h (fun L M Γ => CW P n w0 c2 X L M Γ) (fun _ _ _ h => h) a w ha hw) ?_)
  rintro e a w ⟨L, M, Γ, hX, h1, h2⟩
  cases e <;> first | exact hX a w h1 h2 | exact ⟨L, M, Γ, hX, h1, h2⟩

/-- The same, the words between the two written by hand: where several ways meet. -/
theorem CW.cut {c1 c2 : Code} (K : Lm → Mem → List As → Prop) (h : CW P n w0 c1 (thenX K X) L M Γ) (k : ∀ L M Γ, K L M Γ → CW P n w0 c2 X L M Γ) : CW P n w0 (.seq c1 c2) X L M Γ := by
  intro a w ha hw
  refine wp_seq (wp_mono (h a w ha hw) ?_)
  rintro e a w ⟨L, M, Γ, hX, h1, h2⟩
  cases e <;> first | exact k _ _ _ hX a w h1 h2 | exact ⟨L, M, Γ, hX, h1, h2⟩

theorem CW.skip (h : X .normal L M Γ) : CW P n w0 .skip X L M Γ := fun _ _ ha hw => wp_skip ⟨L, M, Γ, h, ha, hw⟩
theorem CW.label {l : Nat} (h : X .normal L M Γ) : CW P n w0 (.label l) X L M Γ := fun _ _ ha hw => wp_label ⟨L, M, Γ, h, ha, hw⟩
theorem CW.exit {id : Nat} (h : X (.exit id) L M Γ) : CW P n w0 (.exit id) X L M Γ := fun _ _ ha hw => wp_exit ⟨L, M, Γ, h, ha, hw⟩
theorem CW.ret (h : X .ret L M Γ) : CW P n w0 .ret X L M Γ := fun _ _ ha hw => wp_ret ⟨L, M, Γ, h, ha, hw⟩

theorem CW.block {id : Nat} {c : Code} (h : CW P n w0 c (blockX id X) L M Γ) : CW P n w0 (.block id c) X L M Γ := by
  intro a w ha hw
  refine wp_block (wp_mono (h a w ha hw) ?_)
  rintro e a w ⟨L, M, Γ, hX, h1, h2⟩
  cases e with
  | exit i =>
    simp only [Exit.inBlock]
    by_cases e : i = id
    · subst e
      have hb : Nat.beq i i = true := Nat.beq_refl i
      simp only [blockX, hb] at hX
      simp only [if_true]
      exact ⟨L, M, Γ, hX, h1, h2⟩
    · have hb : Nat.beq i id = false := by
        cases hb : Nat.beq i id with
        | false => rfl
        | true => exact absurd (Nat.eq_of_beq_eq_true hb) e
      simp only [blockX, hb] at hX
      rw [if_neg e]
      exact ⟨L, M, Γ, hX, h1, h2⟩
  | _ => exact ⟨L, M, Γ, hX, h1, h2⟩

theorem CW.cond {t : Operand} {c1 c2 : Code} {b : Bool} (ht : evL L t = some (.bool b)) (h1 : b = true → CW P n w0 c1 X L M Γ) (h2 : b = false → CW P n w0 c2 X L M Γ) : CW P n w0 (.cond t c1 c2) X L M Γ :=
  fun a w ha hw => wp_cond_split (ha.ev ht) (fun hb => h1 hb a w ha hw) (fun hb => h2 hb a w ha hw)
theorem CW.yes {t : Operand} {c1 c2 : Code} (ht : evL L t = some (.bool true)) (h1 : CW P n w0 c1 X L M Γ) : CW P n w0 (.cond t c1 c2) X L M Γ :=
  fun a w ha hw => wp_cond_true (ha.ev ht) (h1 a w ha hw)
theorem CW.no {t : Operand} {c1 c2 : Code} (ht : evL L t = some (.bool false)) (h1 : CW P n w0 c2 X L M Γ) : CW P n w0 (.cond t c1 c2) X L M Γ :=
  fun a w ha hw => wp_cond_false (ha.ev ht) (h1 a w ha hw)
/-- A test that is a proposition's. -/
theorem CW.ite {t : Operand} {c1 c2 : Code} {p : Prop} [Decidable p] (ht : evL L t = some (.bool (decide p))) (h1 : p → CW P n w0 c1 X L M Γ) (h2 : ¬ p → CW P n w0 c2 X L M Γ) : CW P n w0 (.cond t c1 c2) X L M Γ :=
  CW.cond ht (fun h => h1 (of_decide_eq_true h)) (fun h => h2 (of_decide_eq_false h))

/-- A loop: I m: what holds at a round's head, m rounds at most to come. -/
theorem CW.loop {c : Code} (I : Nat → Lm → Mem → List As → Prop) (m : Nat) (h0 : I m L M Γ)
    (round : ∀ m L M Γ, I m L M Γ → CW P n w0 c (thenX (fun L M Γ => ∃ m', m' < m ∧ I m' L M Γ) X) L M Γ) : CW P n w0 (.loop c) X L M Γ := by
  intro a w ha hw b k cs
  have key : ∀ m (L : Lm) (M : Mem) (Γ : List As) (a : Act) (w : World), I m L M Γ → Sat n L a → St w0 M Γ w →
      ∃ e a' w', Real n w0 X e a' w' ∧ Arrives P (lone (b.at a (.code c :: .inLoop c :: k)) cs w) b k cs e a' w' := by
    intro m
    induction m using Nat.strongRecOn with
    | _ m ih =>
      intro L M Γ a w hI ha hw
      obtain ⟨e, a1, w1, hq, harr⟩ := round m L M Γ hI a w ha hw b (.inLoop c :: k) cs
      obtain ⟨L1, M1, Γ1, hX, h1, h2⟩ := hq
      cases e with
      | normal =>
        obtain ⟨m', hlt, hI'⟩ := hX
        obtain ⟨e2, a2, w2, hq2, harr2⟩ := ih m' hlt L1 M1 Γ1 a1 w1 hI' h1 h2
        exact ⟨e2, a2, w2, hq2, .of_steps (Steps.trans harr (.one step_inLoop)) harr2⟩
      | exit id => exact ⟨_, a1, w1, ⟨L1, M1, Γ1, hX, h1, h2⟩, .pass (x := .inLoop c) rfl (fun _ _ => .inl (by simp)) harr⟩
      | goto l => exact ⟨_, a1, w1, ⟨L1, M1, Γ1, hX, h1, h2⟩, .pass (x := .inLoop c) rfl (fun _ _ => .inl (by simp)) harr⟩
      | ret => exact ⟨_, a1, w1, ⟨L1, M1, Γ1, hX, h1, h2⟩, .pass (x := .inLoop c) rfl (fun _ _ => .inl (by simp)) harr⟩
      | panic ch => exact ⟨_, a1, w1, ⟨L1, M1, Γ1, hX, h1, h2⟩, .pass (x := .inLoop c) rfl (fun _ _ => .inl (by simp)) harr⟩
      | outgrown => exact ⟨_, a1, w1, ⟨L1, M1, Γ1, hX, h1, h2⟩, .pass (x := .inLoop c) rfl (fun _ _ => .inl (by simp)) harr⟩
  obtain ⟨e, a', w', hq, harr⟩ := key m L M Γ a w h0 ha hw
  exact ⟨e, a', w', hq, .of_steps (.one step_loop) harr⟩
end
end Xe

/-
  THE ENGINE, PART C: regions, one operation after the other; entering a function; calls. No program in sight.
-/
namespace Xe
open Go

/-- What a call leaves: a value, memory. -/
abbrev Post := Value → Mem → List As → Prop
def RetP (w0 : World) (R : Post) (e : Ending) (w' : World) : Prop := ∃ v M Γ, e = .returned v ∧ R v M Γ ∧ St w0 M Γ w'

/-- The contract of a call from such a state. -/
def CallOk (P : Program) (w0 : World) (M : Mem) (Γ : List As) (f : FuncId) (args : Array Value) (R : Post) : Prop :=
  ∀ w, St w0 M Γ w → Calls P f args w (RetP w0 R)

/-! ### A region in the order of the text -/

def RL (P : Program) (n : Nat) (w0 : World) (ops : Array Oper) (rest : List Oper) (L : Lm) (M : Mem) (Γ : List As) (K : Lm → Mem → List As → Prop) : Prop :=
  ∀ R : Exit → Act → World → Prop, (∀ L M Γ, K L M Γ → ∀ a w, Sat n L a → St w0 M Γ w → R .normal a w) → ∀ a w, Sat n L a → St w0 M Γ w → wpList P ops R rest a w

/-- In whatever such state the operation yields v and does nothing else. -/
def Yq (P : Program) (w0 : World) (L : Lm) (M : Mem) (Γ : List As) (o : Oper) (v : Value) : Prop :=
  ∀ n a w, Sat n L a → St w0 M Γ w → (execOp a.eval o).run P w = .ok (.value v) w

/-- The operation's guard lets it run. -/
def Want (ops : Array Oper) (L : Lm) (o : Oper) (b : Bool) : Prop :=
  match o.guard with
  | none => b = true
  | some (j, want) => ∃ t x, (ops[j]?).bind (·.dst) = some t ∧ getL L t = some (.bool x) ∧ b = (x == want)

theorem Want.spec {ops : Array Oper} {L : Lm} {o : Oper} {b : Bool} (h : Want ops L o b) {n : Nat} {a : Act} (ha : Sat n L a) : Region.wanted o (yielded ops a.tmps) = b := by
  unfold Want at h
  unfold Region.wanted
  split at h
  · rename_i hg
    rw [hg]; exact h.symm
  · rename_i j want hg
    obtain ⟨t, x, ht, hx, rfl⟩ := h
    rw [hg]
    have := ha.get t _ hx
    simp only [yielded, ht, Option.bind_some, this]
    cases x <;> cases want <;> rfl

section
variable {P : Program} {n : Nat} {w0 : World} {ops : Array Oper} {rest : List Oper} {L : Lm} {M : Mem} {Γ : List As} {K : Lm → Mem → List As → Prop}

theorem RL.nil (h : K L M Γ) : RL P n w0 ops [] L M Γ K := fun _ hR a w ha hw => hR L M Γ h a w ha hw

theorem RL.pre {L' : Lm} {M' : Mem} {Γ' : List As} (hL : Keep L L') (hG : ∀ w, St w0 M Γ w → St w0 M' Γ' w) (h : RL P n w0 ops rest L' M' Γ' K) : RL P n w0 ops rest L M Γ K :=
  fun R hR a w ha hw => h R hR a w (ha.keep hL) (hG w hw)

theorem RL.know {F : Prop} (hF : ∀ w, St w0 M Γ w → F) (h : F → RL P n w0 ops rest L M Γ K) : RL P n w0 ops rest L M Γ K :=
  fun R hR a w ha hw => h (hF w hw) R hR a w ha hw

theorem RL.turn {F : Mem → List As → Prop} (ht : Turn w0 M Γ F) (h : ∀ M' Γ', F M' Γ' → RL P n w0 ops rest L M' Γ' K) : RL P n w0 ops rest L M Γ K :=
  fun R hR a w ha hw => let ⟨M', Γ', hF, hw'⟩ := ht w hw; h M' Γ' hF R hR a w ha hw'

/-- A quiet operation without a guard. -/
theorem RL.q {op : Op} {ty : TypeId} {pos : String} {after : Array Edge} {d : Nat} {v : Value} (hy : Yq P w0 L M Γ ⟨some d, op, ty, pos, after, none⟩ v) (hd : Nat.blt d n = true)
    (h : RL P n w0 ops rest ((d, v) :: L) M Γ K) : RL P n w0 ops (⟨some d, op, ty, pos, after, none⟩ :: rest) L M Γ K := by
  intro R hR a w ha hw
  unfold wpList
  rw [if_pos (by simp [Region.wanted])]
  refine .inl ?_
  unfold Oper.wp
  rw [hy n a w ha hw]
  exact h R hR _ _ (ha.put hd) hw

/-- .. with one that lets it run. -/
theorem RL.qg {op : Op} {ty : TypeId} {pos : String} {after : Array Edge} {g : Nat × Bool} {d : Nat} {v : Value} (hg : Want ops L ⟨some d, op, ty, pos, after, some g⟩ true) (hy : Yq P w0 L M Γ ⟨some d, op, ty, pos, after, some g⟩ v) (hd : Nat.blt d n = true)
    (h : RL P n w0 ops rest ((d, v) :: L) M Γ K) : RL P n w0 ops (⟨some d, op, ty, pos, after, some g⟩ :: rest) L M Γ K := by
  intro R hR a w ha hw
  unfold wpList
  rw [if_pos (hg.spec ha)]
  refine .inl ?_
  unfold Oper.wp
  rw [hy n a w ha hw]
  exact h R hR _ _ (ha.put hd) hw

/-- .. with one that does not. -/
theorem RL.no {op : Op} {ty : TypeId} {pos : String} {after : Array Edge} {g : Nat × Bool} {d : Nat} (hg : Want ops L ⟨some d, op, ty, pos, after, some g⟩ false) (hd : Nat.blt d n = true)
    (h : RL P n w0 ops rest ((d, undef) :: L) M Γ K) : RL P n w0 ops (⟨some d, op, ty, pos, after, some g⟩ :: rest) L M Γ K := by
  intro R hR a w ha hw
  unfold wpList
  rw [if_neg (by rw [hg.spec ha]; simp)]
  exact h R hR _ _ (ha.put hd) hw

/-- .. whatever its guard, where it lets it run. -/
theorem RL.qw {op : Op} {ty : TypeId} {pos : String} {after : Array Edge} {g : Option (Nat × Bool)} {d : Nat} {v : Value} (hg : Want ops L ⟨some d, op, ty, pos, after, g⟩ true) (hy : Yq P w0 L M Γ ⟨some d, op, ty, pos, after, g⟩ v) (hd : Nat.blt d n = true)
    (h : RL P n w0 ops rest ((d, v) :: L) M Γ K) : RL P n w0 ops (⟨some d, op, ty, pos, after, g⟩ :: rest) L M Γ K := by
  intro R hR a w ha hw
  unfold wpList
  rw [if_pos (hg.spec ha)]
  refine .inl ?_
  unfold Oper.wp
  rw [hy n a w ha hw]
  exact h R hR _ _ (ha.put hd) hw

/-- A test: the two ways part here. -/
theorem RL.qs {op : Op} {ty : TypeId} {pos : String} {after : Array Edge} {d : Nat} {p : Prop} [Decidable p] (hy : Yq P w0 L M Γ ⟨some d, op, ty, pos, after, none⟩ (.bool (decide p))) (hd : Nat.blt d n = true)
    (h1 : p → RL P n w0 ops rest ((d, .bool true) :: L) M Γ K) (h2 : ¬ p → RL P n w0 ops rest ((d, .bool false) :: L) M Γ K) : RL P n w0 ops (⟨some d, op, ty, pos, after, none⟩ :: rest) L M Γ K := by
  by_cases hp : p
  · rw [decide_eq_true hp] at hy; exact RL.q hy hd (h1 hp)
  · rw [decide_eq_false hp] at hy; exact RL.q hy hd (h2 hp)
theorem RL.qgs {op : Op} {ty : TypeId} {pos : String} {after : Array Edge} {g : Nat × Bool} {d : Nat} {p : Prop} [Decidable p] (hg : Want ops L ⟨some d, op, ty, pos, after, some g⟩ true) (hy : Yq P w0 L M Γ ⟨some d, op, ty, pos, after, some g⟩ (.bool (decide p))) (hd : Nat.blt d n = true)
    (h1 : p → RL P n w0 ops rest ((d, .bool true) :: L) M Γ K) (h2 : ¬ p → RL P n w0 ops rest ((d, .bool false) :: L) M Γ K) : RL P n w0 ops (⟨some d, op, ty, pos, after, some g⟩ :: rest) L M Γ K := by
  by_cases hp : p
  · rw [decide_eq_true hp] at hy; exact RL.qg hg hy hd (h1 hp)
  · rw [decide_eq_false hp] at hy; exact RL.qg hg hy hd (h2 hp)

/-- An operation that turns memory: from each such state, a value and a state anew. -/
theorem RL.e {op : Op} {ty : TypeId} {pos : String} {after : Array Edge} {d : Nat} (F : Value → Mem → List As → Prop)
    (hy : ∀ n a w, Sat n L a → St w0 M Γ w → ∃ v w' M' Γ', (execOp a.eval ⟨some d, op, ty, pos, after, none⟩).run P w = .ok (.value v) w' ∧ F v M' Γ' ∧ St w0 M' Γ' w') (hd : Nat.blt d n = true)
    (h : ∀ v M' Γ', F v M' Γ' → RL P n w0 ops rest ((d, v) :: L) M' Γ' K) : RL P n w0 ops (⟨some d, op, ty, pos, after, none⟩ :: rest) L M Γ K := by
  intro R hR a w ha hw
  unfold wpList
  rw [if_pos (by simp [Region.wanted])]
  refine .inl ?_
  unfold Oper.wp
  obtain ⟨v, w', M', Γ', hr, hF, hw'⟩ := hy n a w ha hw
  rw [hr]
  exact h v M' Γ' hF R hR _ _ (ha.put hd) hw'

/-- A store. -/
theorem RL.s {op : Op} {ty : TypeId} {pos : String} {after : Array Edge} {Γ' : List As}
    (hy : ∀ n a w, Sat n L a → St w0 M Γ w → ∃ w', (execOp a.eval ⟨none, op, ty, pos, after, none⟩).run P w = .ok .skip w' ∧ St w0 M Γ' w')
    (h : RL P n w0 ops rest L M Γ' K) : RL P n w0 ops (⟨none, op, ty, pos, after, none⟩ :: rest) L M Γ K := by
  intro R hR a w ha hw
  unfold wpList
  rw [if_pos (by simp [Region.wanted])]
  refine .inl ?_
  unfold Oper.wp
  obtain ⟨w', hr, hw'⟩ := hy n a w ha hw
  rw [hr]
  exact h R hR _ _ ha hw'

/-- A call. -/
theorem RL.c {op : Op} {ty : TypeId} {pos : String} {after : Array Edge} {g : Option (Nat × Bool)} {d : Nat} {f : FuncId} {args : Array Value} {F : Post} (hg : Want ops L ⟨some d, op, ty, pos, after, g⟩ true)
    (hy : ∀ n a w, Sat n L a → (execOp a.eval ⟨some d, op, ty, pos, after, g⟩).run P w = .ok (.enter f args) w) (hd : Nat.blt d n = true)
    (hc : CallOk P w0 M Γ f args F)
    (h : ∀ v M' Γ', F v M' Γ' → RL P n w0 ops rest ((d, v) :: L) M' Γ' K) : RL P n w0 ops (⟨some d, op, ty, pos, after, g⟩ :: rest) L M Γ K := by
  intro R hR a w ha hw
  unfold wpList
  rw [if_pos (hg.spec ha)]
  refine .inl ?_
  unfold Oper.wp
  rw [hy n a w ha]
  refine (hc w hw).mono ?_
  rintro e w' ⟨v, M', Γ', rfl, hF, hw'⟩
  exact h v M' Γ' hF R hR _ _ (ha.put hd) hw'

/-- .. the ways through it meet: what then holds is written out. -/
theorem CW.regionM {id : Nat} {X : Pst} {l : List Oper} (L' : Lm) (h : RL P n w0 l.toArray l L M Γ (fun L1 M1 Γ1 => Keep L1 L' ∧ ∀ w, St w0 M1 Γ1 w → St w0 M Γ w)) (k : X .normal L' M Γ) : CW P n w0 (.region id l.toArray false) X L M Γ :=
  fun a w ha hw => wp_region_lit (h _ (fun _ _ _ hX _ w ha hw => ⟨L', M, Γ, k, ha.keep hX.1, hX.2 w hw⟩) a w ha hw)

theorem CW.region {id : Nat} {X : Pst} {l : List Oper} (h : RL P n w0 l.toArray l L M Γ (X .normal)) : CW P n w0 (.region id l.toArray false) X L M Γ :=
  fun a w ha hw => wp_region_lit (h _ (fun L M Γ hX _ _ ha hw => ⟨L, M, Γ, hX, ha, hw⟩) a w ha hw)
end

/-! ### A region that draws its order, all of whose operations are quiet -/

/-- C0: the words at the region's beginning, which are the class of worlds; Γ: what is known besides. -/
def QL (P : Program) (n : Nat) (w0 : World) (ops : Array Oper) (C0 : List As) (M : Mem) (rest : List Oper) (L : Lm) (Γ : List As) (K : Lm → List As → Prop) : Prop :=
  (∃ w, St w0 M C0 w) → (∀ w, St w0 M C0 w → St w0 M Γ w) →
  ∀ R : Act → Prop, (∀ L Γ, K L Γ → (∀ w, St w0 M C0 w → St w0 M Γ w) → ∀ a, Sat n L a → R a) → ∀ a, Sat n L a → wpQuiet P ops (St w0 M C0) R rest a

section
variable {P : Program} {n : Nat} {w0 : World} {ops : Array Oper} {C0 : List As} {rest : List Oper} {L : Lm} {M : Mem} {Γ : List As} {K : Lm → List As → Prop}

theorem QL.nil (h : K L Γ) : QL P n w0 ops C0 M [] L Γ K := fun _ hC _ hR a ha => hR L Γ h hC a ha

theorem QL.know {F : Prop} (hF : ∀ w, St w0 M Γ w → F) (h : F → QL P n w0 ops C0 M rest L Γ K) : QL P n w0 ops C0 M rest L Γ K :=
  fun hex hC => h (let ⟨w, hw⟩ := hex; hF w (hC w hw)) hex hC

theorem QL.more {Γ' : List As} (hG : ∀ w, St w0 M Γ w → St w0 M Γ' w) (h : QL P n w0 ops C0 M rest L Γ' K) : QL P n w0 ops C0 M rest L Γ K :=
  fun hex hC => h hex fun w hw => hG w (hC w hw)

theorem QL.q {op : Op} {ty : TypeId} {pos : String} {after : Array Edge} {d : Nat} {v : Value} (hy : Yq P w0 L M Γ ⟨some d, op, ty, pos, after, none⟩ v) (hd : Nat.blt d n = true)
    (h : QL P n w0 ops C0 M rest ((d, v) :: L) Γ K) : QL P n w0 ops C0 M (⟨some d, op, ty, pos, after, none⟩ :: rest) L Γ K := by
  intro hex hC R hR a ha
  unfold wpQuiet
  rw [if_pos (by simp [Region.wanted])]
  refine ⟨v, fun w hw => ?_, h hex hC R hR _ (ha.put hd)⟩
  unfold Oper.quietAt
  rw [hy n a w ha (hC w hw)]
  exact ⟨rfl, rfl⟩

theorem QL.qg {op : Op} {ty : TypeId} {pos : String} {after : Array Edge} {g : Nat × Bool} {d : Nat} {v : Value} (hg : Want ops L ⟨some d, op, ty, pos, after, some g⟩ true) (hy : Yq P w0 L M Γ ⟨some d, op, ty, pos, after, some g⟩ v) (hd : Nat.blt d n = true)
    (h : QL P n w0 ops C0 M rest ((d, v) :: L) Γ K) : QL P n w0 ops C0 M (⟨some d, op, ty, pos, after, some g⟩ :: rest) L Γ K := by
  intro hex hC R hR a ha
  unfold wpQuiet
  rw [if_pos (hg.spec ha)]
  refine ⟨v, fun w hw => ?_, h hex hC R hR _ (ha.put hd)⟩
  unfold Oper.quietAt
  rw [hy n a w ha (hC w hw)]
  exact ⟨rfl, rfl⟩

theorem QL.no {op : Op} {ty : TypeId} {pos : String} {after : Array Edge} {g : Nat × Bool} {d : Nat} (hg : Want ops L ⟨some d, op, ty, pos, after, some g⟩ false) (hd : Nat.blt d n = true)
    (h : QL P n w0 ops C0 M rest ((d, undef) :: L) Γ K) : QL P n w0 ops C0 M (⟨some d, op, ty, pos, after, some g⟩ :: rest) L Γ K := by
  intro hex hC R hR a ha
  unfold wpQuiet
  rw [if_neg (by rw [hg.spec ha]; simp)]
  exact h hex hC R hR _ (ha.put hd)

theorem QL.qw {op : Op} {ty : TypeId} {pos : String} {after : Array Edge} {g : Option (Nat × Bool)} {d : Nat} {v : Value} (hg : Want ops L ⟨some d, op, ty, pos, after, g⟩ true) (hy : Yq P w0 L M Γ ⟨some d, op, ty, pos, after, g⟩ v) (hd : Nat.blt d n = true)
    (h : QL P n w0 ops C0 M rest ((d, v) :: L) Γ K) : QL P n w0 ops C0 M (⟨some d, op, ty, pos, after, g⟩ :: rest) L Γ K := by
  intro hex hC R hR a ha
  unfold wpQuiet
  rw [if_pos (hg.spec ha)]
  refine ⟨v, fun w hw => ?_, h hex hC R hR _ (ha.put hd)⟩
  unfold Oper.quietAt
  rw [hy n a w ha (hC w hw)]
  exact ⟨rfl, rfl⟩
theorem QL.qs {op : Op} {ty : TypeId} {pos : String} {after : Array Edge} {d : Nat} {p : Prop} [Decidable p] (hy : Yq P w0 L M Γ ⟨some d, op, ty, pos, after, none⟩ (.bool (decide p))) (hd : Nat.blt d n = true)
    (h1 : p → QL P n w0 ops C0 M rest ((d, .bool true) :: L) Γ K) (h2 : ¬ p → QL P n w0 ops C0 M rest ((d, .bool false) :: L) Γ K) : QL P n w0 ops C0 M (⟨some d, op, ty, pos, after, none⟩ :: rest) L Γ K := by
  by_cases hp : p
  · rw [decide_eq_true hp] at hy; exact QL.q hy hd (h1 hp)
  · rw [decide_eq_false hp] at hy; exact QL.q hy hd (h2 hp)
theorem QL.qgs {op : Op} {ty : TypeId} {pos : String} {after : Array Edge} {g : Nat × Bool} {d : Nat} {p : Prop} [Decidable p] (hg : Want ops L ⟨some d, op, ty, pos, after, some g⟩ true) (hy : Yq P w0 L M Γ ⟨some d, op, ty, pos, after, some g⟩ (.bool (decide p))) (hd : Nat.blt d n = true)
    (h1 : p → QL P n w0 ops C0 M rest ((d, .bool true) :: L) Γ K) (h2 : ¬ p → QL P n w0 ops C0 M rest ((d, .bool false) :: L) Γ K) : QL P n w0 ops C0 M (⟨some d, op, ty, pos, after, some g⟩ :: rest) L Γ K := by
  by_cases hp : p
  · rw [decide_eq_true hp] at hy; exact QL.qg hg hy hd (h1 hp)
  · rw [decide_eq_false hp] at hy; exact QL.qg hg hy hd (h2 hp)

/-- A call that hands back one known value and leaves what there was. -/
theorem QL.c {op : Op} {ty : TypeId} {pos : String} {after : Array Edge} {g : Option (Nat × Bool)} {d : Nat} {f : FuncId} {args : Array Value} {v : Value} (hg : Want ops L ⟨some d, op, ty, pos, after, g⟩ true)
    (hy : ∀ n a w, Sat n L a → (execOp a.eval ⟨some d, op, ty, pos, after, g⟩).run P w = .ok (.enter f args) w) (hd : Nat.blt d n = true)
    (hc : ∀ Γ0, (∀ w, St w0 M Γ0 w → St w0 M Γ w) → CallOk P w0 M Γ0 f args (fun u M' Γ' => u = v ∧ M' = M ∧ Γ' = Γ0))
    (h : QL P n w0 ops C0 M rest ((d, v) :: L) Γ K) : QL P n w0 ops C0 M (⟨some d, op, ty, pos, after, g⟩ :: rest) L Γ K := by
  intro hex hC R hR a ha
  unfold wpQuiet
  rw [if_pos (hg.spec ha)]
  refine ⟨v, fun w hw => ?_, h hex hC R hR _ (ha.put hd)⟩
  unfold Oper.quietAt
  rw [hy n a w ha]
  refine ⟨rfl, (hc C0 hC w hw).mono ?_⟩
  rintro e w' ⟨u, M', Γ', rfl, ⟨rfl, rfl, rfl⟩, hw'⟩
  exact ⟨rfl, hw'⟩

theorem CW.regionQM {id : Nat} {X : Pst} {l : List Oper} (hm : P.follows .mixedOrders = true) (hB : Region.lexB .any l.toArray = true) (L' : Lm) (h : QL P n w0 l.toArray Γ M l L Γ (fun L1 Γ1 => Keep L1 L' ∧ ∀ w, St w0 M Γ1 w → St w0 M Γ w)) (k : X .normal L' M Γ) : CW P n w0 (.region id l.toArray true) X L M Γ := by
  intro a w ha hw
  refine wp_region_quiet (C := St w0 M Γ) hm hB (hw.draw _) ?_
  have := h ⟨w, hw⟩ (fun _ hw => hw) (fun a' => ∀ w', St w0 M Γ w' → Real n w0 X .normal a' w') (fun _ _ hX _ _ ha w' hw' => ⟨L', M, Γ, k, ha.keep hX.1, hw'⟩) a ha
  simpa using this

theorem CW.regionQ {id : Nat} {X : Pst} {l : List Oper} (hm : P.follows .mixedOrders = true) (hB : Region.lexB .any l.toArray = true) (h : QL P n w0 l.toArray Γ M l L Γ (fun L Γ => X .normal L M Γ)) : CW P n w0 (.region id l.toArray true) X L M Γ := by
  intro a w ha hw
  refine wp_region_quiet (C := St w0 M Γ) hm hB (hw.draw _) ?_
  have := h ⟨w, hw⟩ (fun _ hw => hw) (fun a' => ∀ w', St w0 M Γ w' → Real n w0 X .normal a' w') (fun L Γ' hX hC a ha w' hw' => ⟨L, M, Γ', hX, ha, hC w' hw'⟩) a ha
  simpa using this
end

/-! ### Entering a function -/

/-- What is asked at a function's end: its result lies in slot r. -/
def endX (w0 : World) (r : Nat) (R : Post) : Pst
  | .ret, L, M, Γ | .normal, L, M, Γ => ∃ v, getL L r = some v ∧ Turn w0 M Γ (R v)
  | _, _, _, _ => False

/-- Slots of the parameters. -/
def slotsOf : Nat → List Value → Lm
  | _, [] => []
  | i, v :: vs => (i, v) :: slotsOf (i + 1) vs

theorem slotsOf_get : ∀ (vs : List Value) (i t : Nat) (v : Value), getL (slotsOf i vs) t = some v → ∃ k, t = i + k ∧ vs[k]? = some v
  | [], _, _, _, h => by simp [slotsOf, getL] at h
  | x :: xs, i, t, v, h => by
    simp only [slotsOf, getL] at h
    cases hb : Nat.beq t i with
    | true =>
      rw [hb] at h
      simp only [Option.some.injEq] at h
      exact ⟨0, by have := Nat.eq_of_beq_eq_true hb; omega, by simp [h]⟩
    | false =>
      rw [hb] at h
      obtain ⟨k, h1, h2⟩ := slotsOf_get xs (i + 1) t v h
      exact ⟨k + 1, by omega, by simpa using h2⟩

theorem sat_start (n : Nat) (args : List Value) (hn : Nat.ble args.length n = true) :
    Sat n (slotsOf 0 args) { tmps := args.toArray ++ Array.replicate (n - args.toArray.size) undef, defers := [] } := by
  have hn' : args.length ≤ n := by simpa [Nat.ble_eq] using hn
  refine ⟨by simp; omega, rfl, fun t v h => ?_⟩
  obtain ⟨k, rfl, hk⟩ := slotsOf_get args 0 t v h
  have : k < args.length := by
    rcases Nat.lt_or_ge k args.length with h | h
    · exact h
    · rw [List.getElem?_eq_none h] at hk; cases hk
  simp only [Nat.zero_add]
  rw [Array.getElem?_append_left (by simpa using this)]
  simpa using hk

/-- One result, in a slot. -/
theorem enter {P : Program} {f : FuncId} {fn : Func} {c : Code} {args : List Value} {w0 : World} {M : Mem} {Γ : List As} {R : Post} {r n : Nat}
    (hf : P.funcs[f]? = some fn) (hb : fn.body = some c) (hn : fn.ntmps = n) (hr : fn.results = #[.tmp r]) (ha : Nat.ble args.length n = true)
    (h : ∀ w1, St w0 M Γ w1 → CW P n w0 c (endX w0 r R) (slotsOf 0 args) M Γ) : CallOk P w0 M Γ f args.toArray R := by
  intro w hw
  refine calls_of_wp hf hb ?_
  rw [hn]
  refine wp_mono (h w hw _ w (sat_start n args ha) hw) ?_
  rintro e a w' ⟨L, M1, Γ1, hX, h1, h2⟩
  cases e with
  | normal | ret =>
    obtain ⟨v, hv, hi⟩ := hX
    obtain ⟨M', Γ', hR, hw'⟩ := hi w' h2
    refine ⟨h1.defers, v, ?_, v, M', Γ', rfl, hR, hw'⟩
    have := h1.get r v hv
    simp [results, hr, this]
  | _ => exact hX.elim

/-- Two results, in slots. -/
theorem enter2 {P : Program} {f : FuncId} {fn : Func} {c : Code} {args : List Value} {w0 : World} {M : Mem} {Γ : List As} {R : Post} {r s n : Nat}
    (hf : P.funcs[f]? = some fn) (hb : fn.body = some c) (hn : fn.ntmps = n) (hr : fn.results = #[.tmp r, .tmp s]) (ha : Nat.ble args.length n = true)
    (h : ∀ w1, St w0 M Γ w1 → CW P n w0 c (fun e L M Γ => match e with
      | .ret | .normal => ∃ u v, getL L r = some u ∧ getL L s = some v ∧ Turn w0 M Γ (R (.tuple #[u, v]))
      | _ => False) (slotsOf 0 args) M Γ) : CallOk P w0 M Γ f args.toArray R := by
  intro w hw
  refine calls_of_wp hf hb ?_
  rw [hn]
  refine wp_mono (h w hw _ w (sat_start n args ha) hw) ?_
  rintro e a w' ⟨L, M1, Γ1, hX, h1, h2⟩
  cases e with
  | normal | ret =>
    obtain ⟨u, v, hu, hv, hi⟩ := hX
    obtain ⟨M', Γ', hR, hw'⟩ := hi w' h2
    refine ⟨h1.defers, .tuple #[u, v], ?_, _, M', Γ', rfl, hR, hw'⟩
    have e1 := h1.get r u hu
    have e2 := h1.get s v hv
    simp [results, hr, e1, e2]
  | _ => exact hX.elim

/-- Three. -/
theorem enter3 {P : Program} {f : FuncId} {fn : Func} {c : Code} {args : List Value} {w0 : World} {M : Mem} {Γ : List As} {R : Post} {r s t n : Nat}
    (hf : P.funcs[f]? = some fn) (hb : fn.body = some c) (hn : fn.ntmps = n) (hr : fn.results = #[.tmp r, .tmp s, .tmp t]) (ha : Nat.ble args.length n = true)
    (h : ∀ w1, St w0 M Γ w1 → CW P n w0 c (fun e L M Γ => match e with
      | .ret | .normal => ∃ u v x, getL L r = some u ∧ getL L s = some v ∧ getL L t = some x ∧ Turn w0 M Γ (R (.tuple #[u, v, x]))
      | _ => False) (slotsOf 0 args) M Γ) : CallOk P w0 M Γ f args.toArray R := by
  intro w hw
  refine calls_of_wp hf hb ?_
  rw [hn]
  refine wp_mono (h w hw _ w (sat_start n args ha) hw) ?_
  rintro e a w' ⟨L, M1, Γ1, hX, h1, h2⟩
  cases e with
  | normal | ret =>
    obtain ⟨u, v, x, hu, hv, hx, hi⟩ := hX
    obtain ⟨M', Γ', hR, hw'⟩ := hi w' h2
    refine ⟨h1.defers, .tuple #[u, v, x], ?_, _, M', Γ', rfl, hR, hw'⟩
    have e1 := h1.get r u hu
    have e2 := h1.get s v hv
    have e3 := h1.get t x hx
    simp [results, hr, e1, e2, e3]
  | _ => exact hX.elim

/-- No result. -/
theorem enter0 {P : Program} {f : FuncId} {fn : Func} {c : Code} {args : List Value} {w0 : World} {M : Mem} {Γ : List As} {R : Post} {n : Nat}
    (hf : P.funcs[f]? = some fn) (hb : fn.body = some c) (hn : fn.ntmps = n) (hr : fn.results = #[]) (ha : Nat.ble args.length n = true)
    (h : ∀ w1, St w0 M Γ w1 → CW P n w0 c (fun e _ M Γ => match e with
      | .ret | .normal => Turn w0 M Γ (R (.tuple #[]))
      | _ => False) (slotsOf 0 args) M Γ) : CallOk P w0 M Γ f args.toArray R := by
  intro w hw
  refine calls_of_wp hf hb ?_
  rw [hn]
  refine wp_mono (h w hw _ w (sat_start n args ha) hw) ?_
  rintro e a w' ⟨L, M1, Γ1, hX, h1, h2⟩
  cases e with
  | normal | ret =>
    obtain ⟨M', Γ', hR, hw'⟩ := hX w' h2
    exact ⟨h1.defers, .tuple #[], by simp [results, hr], _, M', Γ', rfl, hR, hw'⟩
  | _ => exact hX.elim
end Xe

/-
  THE ENGINE, PART D: the quiet operations, one lemma each. No program in sight.
-/
namespace Xe
open Go

/-! ### Facts on types, as closed words -/

def flatB (P : Program) (t : TypeId) : Bool := match P.underlying t with
  | some (.struct _) => false
  | some (.array ..) => false
  | none => false
  | _ => true
def aggB (P : Program) (t : TypeId) (sz : Nat) : Bool := (match P.underlying t with
  | some (.struct _) => true
  | some (.array ..) => true
  | _ => false) && (match P.info? t with
  | some i => Nat.beq i.size sz
  | none => false)
def sizeB (P : Program) (t : TypeId) (sz : Nat) : Bool := match P.info? t with
  | some i => Nat.beq i.size sz
  | none => false
def sliceB (P : Program) (t e sz : Nat) : Bool := (match P.underlying t with
  | some (.slice e') => Nat.beq e' e
  | _ => false) && sizeB P e sz
def fieldB (P : Program) (s i off : Nat) : Bool := match P.underlying s with
  | some (.struct fs) => match fs[i]? with
    | some f => Nat.beq f.offset off && (match P.info? f.type with
      | some j => Nat.blt 0 j.size
      | none => false)
    | none => false
  | _ => false
def funcB (P : Program) (f : FuncId) : Bool := match P.funcs[f]? with
  | some fn => !(fn.name == "runtime.NumGoroutine") && fn.body.isSome
  | none => false

section
variable {P : Program} {w : World}
theorem run_flat {t : TypeId} (h : flatB P t = true) : (isAgg t).run P w = .ok false w := by
  unfold flatB at h
  unfold isAgg
  cases hu : P.underlying t with
  | none => simp [hu] at h
  | some d =>
    simp only [Sem.run_bind, run_underlying hu, Result.andThen_ok]
    cases d <;> first | rfl | simp [hu] at h
theorem run_aggB {t : TypeId} {sz : Nat} (h : aggB P t sz = true) : (isAgg t).run P w = .ok true w ∧ (Go.sizeOf t).run P w = .ok sz w := by
  unfold aggB at h
  simp only [Bool.and_eq_true] at h
  obtain ⟨h1, h2⟩ := h
  constructor
  · unfold isAgg
    cases hu : P.underlying t with
    | none => simp [hu] at h1
    | some d =>
      simp only [Sem.run_bind, run_underlying hu, Result.andThen_ok]
      cases d <;> first | rfl | simp [hu] at h1
  · cases hi : P.info? t with
    | none => simp [hi] at h2
    | some i =>
      rw [hi] at h2
      have := Nat.eq_of_beq_eq_true h2
      simp [Go.sizeOf, typeInfo, hi, this]
theorem run_sizeB {t : TypeId} {sz : Nat} (h : sizeB P t sz = true) : (Go.sizeOf t).run P w = .ok sz w := by
  unfold sizeB at h
  cases hi : P.info? t with
  | none => simp [hi] at h
  | some i =>
    rw [hi] at h
    have := Nat.eq_of_beq_eq_true h
    simp [Go.sizeOf, typeInfo, hi, this]
theorem sliceB_spec {t e sz : Nat} (h : sliceB P t e sz = true) : P.underlying t = some (.slice e) ∧ sizeB P e sz = true := by
  unfold sliceB at h
  simp only [Bool.and_eq_true] at h
  obtain ⟨h1, h2⟩ := h
  refine ⟨?_, h2⟩
  cases hu : P.underlying t with
  | none => simp [hu] at h1
  | some d =>
    rw [hu] at h1
    cases d <;> first | (have := Nat.eq_of_beq_eq_true h1; subst this; rfl) | simp at h1
theorem run_fieldB {s i off : Nat} (h : fieldB P s i off = true) (x : Addr) : (Instr.fieldAt s (.pointer (some x)) i).run P w = .ok (.pointer (some (x.add off))) w := by
  unfold fieldB at h
  unfold Instr.fieldAt
  cases hu : P.underlying s with
  | none => simp [hu] at h
  | some d =>
    rw [hu] at h
    cases d with
    | struct fs =>
      simp only [] at h
      cases hf : fs[i]? with
      | none => simp [hf] at h
      | some f =>
        rw [hf] at h
        simp only [Bool.and_eq_true] at h
        obtain ⟨h1, h2⟩ := h
        have h1 := Nat.eq_of_beq_eq_true h1
        cases hi : P.info? f.type with
        | none => simp [hi] at h2
        | some j =>
          rw [hi] at h2
          have h2 : 0 < j.size := by simpa [Nat.blt_eq] using h2
          have h3 : j.size ≠ 0 := by omega
          simp [run_underlying hu, hf, Instr.sureAddr, fieldPlace, Go.sizeOf, typeInfo, hi, h3, h1]
    | _ => simp at h
end

/-! ### The lemmas -/
section
variable {P : Program} {w0 : World} {L : Lm} {M : Mem} {Γ : List As} {d : Option Nat} {ty : TypeId} {pos : String} {af : Array Edge} {g : Option (Nat × Bool)}

namespace Y
theorem move {x : Operand} {v : Value} (h : evL L x = some v) : Yq P w0 L M Γ ⟨d, .move x, ty, pos, af, g⟩ v := fun n a w ha _ => by
  simp [execOp, ha.ev h]
theorem assign {x : Operand} {v : Value} (h : evL L x = some v) : Yq P w0 L M Γ ⟨d, .assign x, ty, pos, af, g⟩ v := fun n a w ha _ => by
  simp [execOp, ha.ev h]
theorem pick {c x y : Operand} {b : Bool} {u v : Value} (hc : evL L c = some (.bool b)) (hx : evL L x = some u) (hy : evL L y = some v) : Yq P w0 L M Γ ⟨d, .pick c x y, ty, pos, af, g⟩ (if b then u else v) := fun n a w ha _ => by
  simp [execOp, ha.ev hc, ha.ev hx, ha.ev hy, asBool]
theorem pickT {c x y : Operand} {u : Value} (hc : evL L c = some (.bool true)) (hx : evL L x = some u) : Yq P w0 L M Γ ⟨d, .pick c x y, ty, pos, af, g⟩ u := fun n a w ha _ => by
  simp [execOp, ha.ev hc, ha.ev hx, asBool]
theorem pickF {c x y : Operand} {v : Value} (hc : evL L c = some (.bool false)) (hy : evL L y = some v) : Yq P w0 L M Γ ⟨d, .pick c x y, ty, pos, af, g⟩ v := fun n a w ha _ => by
  simp [execOp, ha.ev hc, ha.ev hy, asBool]

theorem wrap_in {z : Int} (h : -9223372036854775808 ≤ z ∧ z ≤ 9223372036854775807) : IntKind.i64.wrap z = z := IntWalk.i64_in z h

theorem add {x y : Operand} {m k : Int} {t : TypeId} (hx : evL L x = some (.int .i64 m)) (hy : evL L y = some (.int .i64 k)) (hb : -9223372036854775808 ≤ m + k ∧ m + k ≤ 9223372036854775807) :
    Yq P w0 L M Γ ⟨d, .binOp .add t x y t, ty, pos, af, g⟩ (.int .i64 (m + k)) := fun n a w ha _ => by
  simp [execOp, ha.ev hx, ha.ev hy, eqGuard, Go.binOp, Op.intArith, wrap_in hb]
theorem sub {x y : Operand} {m k : Int} {t : TypeId} (hx : evL L x = some (.int .i64 m)) (hy : evL L y = some (.int .i64 k)) (hb : -9223372036854775808 ≤ m - k ∧ m - k ≤ 9223372036854775807) :
    Yq P w0 L M Γ ⟨d, .binOp .sub t x y t, ty, pos, af, g⟩ (.int .i64 (m - k)) := fun n a w ha _ => by
  simp [execOp, ha.ev hx, ha.ev hy, eqGuard, Go.binOp, Op.intArith, wrap_in hb]
theorem mul {x y : Operand} {m k : Int} {t : TypeId} (hx : evL L x = some (.int .i64 m)) (hy : evL L y = some (.int .i64 k)) (hb : -9223372036854775808 ≤ m * k ∧ m * k ≤ 9223372036854775807) :
    Yq P w0 L M Γ ⟨d, .binOp .mul t x y t, ty, pos, af, g⟩ (.int .i64 (m * k)) := fun n a w ha _ => by
  simp [execOp, ha.ev hx, ha.ev hy, eqGuard, Go.binOp, Op.intArith, wrap_in hb]
theorem quo {x y : Operand} {m k : Int} {t : TypeId} (hx : evL L x = some (.int .i64 m)) (hy : evL L y = some (.int .i64 k)) (h0 : k ≠ 0) (hb : -9223372036854775808 ≤ m.tdiv k ∧ m.tdiv k ≤ 9223372036854775807) :
    Yq P w0 L M Γ ⟨d, .binOp .quo t x y t, ty, pos, af, g⟩ (.int .i64 (m.tdiv k)) := fun n a w ha _ => by
  simp [execOp, ha.ev hx, ha.ev hy, eqGuard, Go.binOp, Op.intDiv, h0, wrap_in hb]
theorem rem {x y : Operand} {m k : Int} {t : TypeId} (hx : evL L x = some (.int .i64 m)) (hy : evL L y = some (.int .i64 k)) (h0 : k ≠ 0) :
    Yq P w0 L M Γ ⟨d, .binOp .rem t x y t, ty, pos, af, g⟩ (.int .i64 (m.tmod k)) := fun n a w ha _ => by
  simp [execOp, ha.ev hx, ha.ev hy, eqGuard, Go.binOp, Op.intDiv, h0]
theorem lss {x y : Operand} {m k : Int} {t : TypeId} (hx : evL L x = some (.int .i64 m)) (hy : evL L y = some (.int .i64 k)) :
    Yq P w0 L M Γ ⟨d, .binOp .lss t x y t, ty, pos, af, g⟩ (.bool (decide (m < k))) := fun n a w ha _ => by
  simp [execOp, ha.ev hx, ha.ev hy, eqGuard, Go.binOp, Op.intCmp]
theorem leq {x y : Operand} {m k : Int} {t : TypeId} (hx : evL L x = some (.int .i64 m)) (hy : evL L y = some (.int .i64 k)) :
    Yq P w0 L M Γ ⟨d, .binOp .leq t x y t, ty, pos, af, g⟩ (.bool (decide (m ≤ k))) := fun n a w ha _ => by
  simp [execOp, ha.ev hx, ha.ev hy, eqGuard, Go.binOp, Op.intCmp]
theorem gtr {x y : Operand} {m k : Int} {t : TypeId} (hx : evL L x = some (.int .i64 m)) (hy : evL L y = some (.int .i64 k)) :
    Yq P w0 L M Γ ⟨d, .binOp .gtr t x y t, ty, pos, af, g⟩ (.bool (decide (k < m))) := fun n a w ha _ => by
  simp [execOp, ha.ev hx, ha.ev hy, eqGuard, Go.binOp, Op.intCmp]
theorem geq {x y : Operand} {m k : Int} {t : TypeId} (hx : evL L x = some (.int .i64 m)) (hy : evL L y = some (.int .i64 k)) :
    Yq P w0 L M Γ ⟨d, .binOp .geq t x y t, ty, pos, af, g⟩ (.bool (decide (k ≤ m))) := fun n a w ha _ => by
  simp [execOp, ha.ev hx, ha.ev hy, eqGuard, Go.binOp, Op.intCmp]
theorem eql {x y : Operand} {m k : Int} {t : TypeId} (hx : evL L x = some (.int .i64 m)) (hy : evL L y = some (.int .i64 k)) :
    Yq P w0 L M Γ ⟨d, .binOp .eql t x y t, ty, pos, af, g⟩ (.bool (decide (m = k))) := fun n a w ha _ => by
  simp [execOp, ha.ev hx, ha.ev hy, eqGuard, Go.binOp, Op.intCmp]
  by_cases h : m = k <;> simp [h]
theorem neq {x y : Operand} {m k : Int} {t : TypeId} (hx : evL L x = some (.int .i64 m)) (hy : evL L y = some (.int .i64 k)) :
    Yq P w0 L M Γ ⟨d, .binOp .neq t x y t, ty, pos, af, g⟩ (.bool (decide (m ≠ k))) := fun n a w ha _ => by
  simp [execOp, ha.ev hx, ha.ev hy, eqGuard, Go.binOp, Op.intCmp]
  by_cases h : m = k <;> simp [h]
theorem neg {x : Operand} {m : Int} {t : TypeId} (hx : evL L x = some (.int .i64 m)) (hb : -9223372036854775808 ≤ -m ∧ -m ≤ 9223372036854775807) :
    Yq P w0 L M Γ ⟨d, .unOp .neg t x, ty, pos, af, g⟩ (.int .i64 (-m)) := fun n a w ha _ => by
  have hb' : -9223372036854775808 ≤ 0 - m ∧ 0 - m ≤ 9223372036854775807 := by omega
  simp only [execOp, ha.ev hx, Op.unary, Op.intArith, wrap_in hb']
  simp
theorem not {x : Operand} {b : Bool} {t : TypeId} (hx : evL L x = some (.bool b)) :
    Yq P w0 L M Γ ⟨d, .unOp .not t x, ty, pos, af, g⟩ (.bool (!b)) := fun n a w ha _ => by
  simp [execOp, ha.ev hx, Op.unary]
/-- .. of a test. -/
theorem notD {x : Operand} {p : Prop} [Decidable p] {t : TypeId} (hx : evL L x = some (.bool (decide p))) :
    Yq P w0 L M Γ ⟨d, .unOp .not t x, ty, pos, af, g⟩ (.bool (decide (¬ p))) := fun n a w ha _ => by
  simp [execOp, ha.ev hx, Op.unary]
theorem extract {x : Operand} {vs : List Value} {i : Nat} {v : Value} (hx : evL L x = some (.tuple vs.toArray)) (hi : vs[i]? = some v) :
    Yq P w0 L M Γ ⟨d, .extract x i, ty, pos, af, g⟩ v := fun n a w ha _ => by
  simp [execOp, ha.ev hx, Instr.extract, hi]

theorem len {x : Operand} {t : TypeId} {a : Option Addr} {k c : Nat} {e : Nat} (hx : evL L x = some (.slice a k c)) (ht : P.underlying t = some (.slice e)) :
    Yq P w0 L M Γ ⟨d, .call ⟨.builtin .len, #[x], #[t]⟩, ty, pos, af, g⟩ (.int .i64 (k : Int)) := fun n a w ha _ => by
  simp [execOp, resolve, invoke, Go.builtin, Builtin.len_, ha.ev hx, run_underlying ht, goInt]
theorem min2 {x y : Operand} {m k : Int} {ts : Array TypeId} (hx : evL L x = some (.int .i64 m)) (hy : evL L y = some (.int .i64 k)) :
    Yq P w0 L M Γ ⟨d, .call ⟨.builtin .min, #[x, y], ts⟩, ty, pos, af, g⟩ (.int .i64 (min m k)) := fun n a w ha _ => by
  simp [execOp, resolve, invoke, Go.builtin, Builtin.min_, Builtin.min2, ha.ev hx, ha.ev hy]
  omega
theorem max2 {x y : Operand} {m k : Int} {ts : Array TypeId} (hx : evL L x = some (.int .i64 m)) (hy : evL L y = some (.int .i64 k)) :
    Yq P w0 L M Γ ⟨d, .call ⟨.builtin .max, #[x, y], ts⟩, ty, pos, af, g⟩ (.int .i64 (max m k)) := fun n a w ha _ => by
  simp [execOp, resolve, invoke, Go.builtin, Builtin.max_, Builtin.max2, ha.ev hx, ha.ev hy]
  omega

/-- The address of an element of a slice that is no nil. -/
theorem index {x i : Operand} {t e sz : Nat} {a : Option Addr} {l c : Nat} {ik : IntKind} {z : Int} (k : Nat) (hx : evL L x = some (.slice a l c)) (hi : evL L i = some (.int ik z)) (hz : z = (k : Int)) (hk : k < l)
    (ht : sliceB P t e sz = true) (hs : ∀ w, St w0 M Γ w → a.isSome = true) :
    Yq P w0 L M Γ ⟨d, .indexAddr t x i, ty, pos, af, g⟩ (.pointer (some (adr a (k * sz)))) := fun n ac w ha hw => by
  obtain ⟨b, rfl⟩ := Option.isSome_iff_exists.1 (hs w hw)
  subst hz
  obtain ⟨h1, h2⟩ := sliceB_spec ht
  simp [execOp, ha.ev hx, ha.ev hi, Instr.indexAt, asIntOf, run_underlying h1, run_sizeB h2, hk, adr]
theorem field {x : Operand} {s i off : Nat} {a : Option Addr} {q : Nat} (hx : evL L x = some (.pointer (some (adr a q)))) (hf : fieldB P s i off = true) :
    Yq P w0 L M Γ ⟨d, .fieldAddr s x i, ty, pos, af, g⟩ (.pointer (some (adr a (q + off)))) := fun n ac w ha _ => by
  simp [execOp, ha.ev hx, run_fieldB hf, adr_add]

/-- A cell that is known in every such state. -/
theorem load {x : Operand} {t : TypeId} {p : Addr} {v : Value} (hx : evL L x = some (.pointer (some p))) (hf : flatB P t = true) (hc : ∀ w, St w0 M Γ w → w.cell? p = some v) :
    Yq P w0 L M Γ ⟨d, .load t x, ty, pos, af, g⟩ v := fun n a w ha hw => by
  simp [execOp, ha.ev hx, Instr.loadAt, Instr.sureAddr, loadVar, run_flat hf, hc w hw]
theorem run_loadCellsFrom {w : World} {p : Addr} : ∀ (vs : List Value) (i : Nat) (acc : Array Value), (∀ j v, vs[j]? = some v → w.cell? (p.add (i + j)) = some v) →
    (loadCellsFrom p i vs.length acc).run P w = .ok (acc ++ vs.toArray) w
  | [], i, acc, _ => by simp [loadCellsFrom]
  | v :: vs, i, acc, h => by
    have h0 : w.cell? (p.add i) = some v := by simpa using h 0 v rfl
    have ih := run_loadCellsFrom (w := w) (p := p) vs (i + 1) (acc.push v) fun j u hj => by
      have := h (j + 1) u (by simpa using hj)
      rwa [show i + 1 + j = i + (j + 1) from by omega]
    simp only [List.length_cons, loadCellsFrom, Sem.run_bind, run_load, h0, Result.andThen_ok, ih]
    simp
/-- A struct, an array. -/
theorem loadAgg {x : Operand} {t : TypeId} {p : Addr} {vs : List Value} (hx : evL L x = some (.pointer (some p))) (hf : aggB P t vs.length = true) (hc : ∀ w, St w0 M Γ w → ∀ j v, vs[j]? = some v → w.cell? (p.add j) = some v) :
    Yq P w0 L M Γ ⟨d, .load t x, ty, pos, af, g⟩ (.agg vs.toArray) := fun n a w ha hw => by
  obtain ⟨h1, h2⟩ := run_aggB (P := P) (w := w) hf
  have h3 := run_loadCellsFrom (P := P) (w := w) (p := p) vs 0 #[] (by simpa using hc w hw)
  simp [execOp, ha.ev hx, Instr.loadAt, Instr.sureAddr, loadVar, h1, h2, loadCells, h3]
end Y
end

/-! ### Cells of what is owned, of what is sealed -/
theorem St.own_cell {w0 w : World} {M : Mem} {Γ : List As} (h : St w0 M Γ w) {b : Nat} {e : TypeId} {cs : List Value} (hm : As.own b e cs ∈ Γ) {q : Nat} {v : Value} (hq : cs[q]? = some v) :
    w.cell? (adr (some ⟨b, 0, none⟩) q) = some v := by
  have := (h.all _ hm).2
  rw [adr_some]
  simp [World.cell?, this, hq]
theorem St.rd_cell {w0 w : World} {M : Mem} {Γ : List As} (h : St w0 M Γ w) {n sz : Nat} {cs : List D} {a : Option Addr} {l c : Nat} (hm : As.rd (.sl n sz cs) (.slice a l c) ∈ Γ) {q : Nat} {e : D} (hq : cs[q]? = some e) :
    ∃ u, cellM M (adr a q) = some u ∧ Rd M e u := by
  have := h.rd hm
  simp only [Rd] at this
  obtain ⟨a', cap, h1, h2, h3, h4, h5, h6, h7⟩ := this
  simp only [Value.slice.injEq] at h1
  obtain ⟨rfl, rfl, rfl⟩ := h1
  simpa using RdC.get cs 0 h7 q e hq
theorem St.rd_some {w0 w : World} {M : Mem} {Γ : List As} (h : St w0 M Γ w) {n sz : Nat} {cs : List D} {a : Option Addr} {l c : Nat} (hm : As.rd (.sl n sz cs) (.slice a l c) ∈ Γ) (hn : 0 < l) : a.isSome = true := by
  have := h.rd hm
  simp only [Rd] at this
  obtain ⟨a', cap, h1, h2, h3, h4, h5, h6, h7⟩ := this
  simp only [Value.slice.injEq] at h1
  obtain ⟨rfl, rfl, rfl⟩ := h1
  exact h6 hn

end Xe

/-
  THE ENGINE, PART E: derived rules: loads, new blocks, stores, appends, calls. Printed by gen_E.py. No program in sight.
-/
namespace Xe
open Go

theorem sub_get {cs ds : List D} {q sz : Nat} (hq : (cs.drop q).take sz = ds) {j : Nat} {e : D} (hj : ds[j]? = some e) : cs[q + j]? = some e := by
  subst hq
  have hlt : j < ((cs.drop q).take sz).length := by
    rcases Nat.lt_or_ge j ((cs.drop q).take sz).length with h | h
    · exact h
    · rw [List.getElem?_eq_none h] at hj; cases hj
  have h2 : j < sz := by simp at hlt; omega
  rw [List.getElem?_take_of_lt h2, List.getElem?_drop] at hj
  exact hj

theorem cells_of {M : Mem} {a : Option Addr} {q : Nat} : ∀ {ds : List D}, (∀ j e, ds[j]? = some e → ∃ u, cellM M (adr a (q + j)) = some u ∧ Rd M e u) →
    ∃ us, RdL M ds us ∧ ∀ j v, us[j]? = some v → cellM M (adr a (q + j)) = some v := by
  intro ds
  induction ds generalizing q with
  | nil => exact fun _ => ⟨[], RdL.nil M, fun j v h => by simp at h⟩
  | cons d ds ih =>
    intro h
    obtain ⟨u, h1, h2⟩ := h 0 d rfl
    obtain ⟨us, h3, h4⟩ := ih (q := q + 1) fun j e hj => by
      have := h (j + 1) e (by simpa using hj)
      rwa [show q + 1 + j = q + (j + 1) from by omega]
    refine ⟨u :: us, RdL.cons h2 h3, fun j v hj => ?_⟩
    cases j with
    | zero => simp only [List.getElem?_cons_zero, Option.some.injEq] at hj; subst hj; exact h1
    | succ j =>
      have := h4 j v (by simpa using hj)
      rwa [show q + 1 + j = q + (j + 1) from by omega] at this

theorem RdL.get {M : Mem} {ds : List D} {us : List Value} (h : RdL M ds us) {q : Nat} {e : D} (hq : ds[q]? = some e) : ∃ u, us[q]? = some u ∧ Rd M e u := by
  have hlt : q < us.length := by
    rw [h.1]
    rcases Nat.lt_or_ge q ds.length with h | h
    · exact h
    · rw [List.getElem?_eq_none h] at hq; cases hq
  exact ⟨us[q], by simp [hlt], h.2 q _ _ hq (by simp [hlt])⟩

theorem Rd.one {M : Mem} : ∀ {d : D} {u : Value}, Rd M d u → u.oneCell' = true
  | .v x, u, h => by simp only [Rd] at h; rw [h.1]; exact h.2
  | .sl n sz cs, u, h => by
    simp only [Rd] at h
    obtain ⟨a, c, rfl, _⟩ := h
    rfl
theorem RdL.one {M : Mem} {ds : List D} {us : List Value} (h : RdL M ds us) : ∀ u ∈ us, u.oneCell' = true := by
  intro u hu
  obtain ⟨k, hk, rfl⟩ := List.mem_iff_getElem.1 hu
  have hk' : k < ds.length := by rw [← h.1]; exact hk
  exact Rd.one (h.2 k ds[k] us[k] (by simp [hk']) (by simp [hk]))

section
variable {P : Program} {w0 : World} {L : Lm} {M : Mem} {Γ : List As} {d : Option Nat} {ty : TypeId} {pos : String} {af : Array Edge} {g : Option (Nat × Bool)}
namespace Y
/-- A plain value out of sealed memory. -/
theorem loadRd {x : Operand} {t : TypeId} {a : Option Addr} {q n0 sz0 l c : Nat} {cs : List D} {v : Value} (hx : evL L x = some (.pointer (some (adr a q)))) (hm : As.rd (.sl n0 sz0 cs) (.slice a l c) ∈ Γ) (hq : cs[q]? = some (.v v)) (hf : flatB P t = true) :
    Yq P w0 L M Γ ⟨d, .load t x, ty, pos, af, g⟩ v :=
  Y.load hx hf fun w hw => by
    obtain ⟨u, h1, h2⟩ := hw.rd_cell hm hq
    simp only [Rd] at h2
    rw [← h2.1]
    exact hw.cell h1
/-- .. out of a block of the call's own, known by its very values. -/
theorem loadOwn {x : Operand} {t : TypeId} {b e q : Nat} {cs : List Value} {v : Value} (hx : evL L x = some (.pointer (some (adr (some ⟨b, 0, none⟩) q)))) (hm : As.own b e cs ∈ Γ) (hq : cs[q]? = some v) (hf : flatB P t = true) :
    Yq P w0 L M Γ ⟨d, .load t x, ty, pos, af, g⟩ v := Y.load hx hf fun _ hw => hw.own_cell hm hq
/-- .. known by what its values read as. -/
theorem loadOwnV {x : Operand} {t : TypeId} {b e q : Nat} {us : List Value} {ds : List D} {v : Value} (hx : evL L x = some (.pointer (some (adr (some ⟨b, 0, none⟩) q)))) (hm : As.own b e us ∈ Γ) (hr : As.rds ds us ∈ Γ) (hq : ds[q]? = some (.v v)) (hf : flatB P t = true) :
    Yq P w0 L M Γ ⟨d, .load t x, ty, pos, af, g⟩ v := Y.load hx hf fun w hw => by
      obtain ⟨u, h1, h2⟩ := RdL.get (hw.all _ hr) hq
      simp only [Rd] at h2
      rw [← h2.1]
      exact hw.own_cell hm h1
theorem vs_get {vs : List Value} {j : Nat} {v : Value} (h : vs[j]? = some v) : (vs.map D.v)[j]? = some (.v v) := by simp [h]
/-- A struct of plain values out of sealed memory. -/
theorem loadAggRd {x : Operand} {t : TypeId} {a : Option Addr} {q n0 sz0 l c : Nat} {cs : List D} (vs : List Value) (hx : evL L x = some (.pointer (some (adr a q)))) (hm : As.rd (.sl n0 sz0 cs) (.slice a l c) ∈ Γ) (hq : (cs.drop q).take vs.length = vs.map D.v) (hf : aggB P t vs.length = true) :
    Yq P w0 L M Γ ⟨d, .load t x, ty, pos, af, g⟩ (.agg vs.toArray) := Y.loadAgg hx hf fun w hw j v hj => by
      obtain ⟨u, h1, h2⟩ := hw.rd_cell hm (sub_get hq (vs_get hj))
      simp only [Rd] at h2
      rw [← h2.1, adr_add]
      exact hw.cell h1
/-- .. out of a block of the call's own, known by its very values. -/
theorem loadAggOwn {x : Operand} {t : TypeId} {b e q : Nat} {cs : List Value} (vs : List Value) (hx : evL L x = some (.pointer (some (adr (some ⟨b, 0, none⟩) q)))) (hm : As.own b e cs ∈ Γ) (hq : ∀ j v, vs[j]? = some v → cs[q + j]? = some v) (hf : aggB P t vs.length = true) :
    Yq P w0 L M Γ ⟨d, .load t x, ty, pos, af, g⟩ (.agg vs.toArray) := Y.loadAgg hx hf fun _ hw j v hj => by
      rw [adr_add]
      exact hw.own_cell hm (hq j v hj)
/-- .. the whole block. -/
theorem loadAll {x : Operand} {t : TypeId} {b e : Nat} {cs : List Value} {sz : Nat} (hx : evL L x = some (.pointer (some (adr (some ⟨b, 0, none⟩) 0)))) (hm : As.own b e cs ∈ Γ) (hl : cs.length = sz) (hf : aggB P t sz = true) :
    Yq P w0 L M Γ ⟨d, .load t x, ty, pos, af, g⟩ (.agg cs.toArray) := loadAggOwn cs hx hm (fun j v h => by simpa using h) (by rw [hl]; exact hf)
/-- .. a part of plain values, known by what they read as. -/
theorem loadAggV {x : Operand} {t : TypeId} {b e q : Nat} {us : List Value} {ds : List D} (vs : List Value) (hx : evL L x = some (.pointer (some (adr (some ⟨b, 0, none⟩) q)))) (hm : As.own b e us ∈ Γ) (hr : As.rds ds us ∈ Γ) (hq : (ds.drop q).take vs.length = vs.map D.v) (hf : aggB P t vs.length = true) :
    Yq P w0 L M Γ ⟨d, .load t x, ty, pos, af, g⟩ (.agg vs.toArray) := Y.loadAgg hx hf fun w hw j v hj => by
      obtain ⟨u, h1, h2⟩ := RdL.get (hw.all _ hr) (sub_get hq (vs_get hj))
      simp only [Rd] at h2
      rw [← h2.1, adr_add]
      exact hw.own_cell hm h1
end Y
end

section
variable {P : Program} {n : Nat} {w0 : World} {ops : Array Oper} {rest : List Oper} {L : Lm} {M : Mem} {Γ : List As} {K : Lm → Mem → List As → Prop}
theorem RL.more {Γ' : List As} (hG : ∀ w, St w0 M Γ w → St w0 M Γ' w) (h : RL P n w0 ops rest L M Γ' K) : RL P n w0 ops rest L M Γ K := RL.pre (Keep.refl L) hG h

/-- A nested slice, out of sealed memory. -/
theorem RL.loadSl {x : Operand} {t : TypeId} {ty : TypeId} {pos : String} {af : Array Edge} {g : Option (Nat × Bool)} {d : Nat} {a : Option Addr} {q n0 sz0 l c n1 sz1 : Nat} {cs cs1 : List D}
    (hg : Want ops L ⟨some d, .load t x, ty, pos, af, g⟩ true) (hx : evL L x = some (.pointer (some (adr a q)))) (hm : As.rd (.sl n0 sz0 cs) (.slice a l c) ∈ Γ) (hq : cs[q]? = some (.sl n1 sz1 cs1)) (hf : flatB P t = true) (hd : Nat.blt d n = true)
    (h : ∀ a1 c1, n1 ≤ c1 → n1 ≤ 140737488355328 → RL P n w0 ops rest ((d, .slice a1 n1 c1) :: L) M (.rd (.sl n1 sz1 cs1) (.slice a1 n1 c1) :: Γ) K) :
    RL P n w0 ops (⟨some d, .load t x, ty, pos, af, g⟩ :: rest) L M Γ K := by
  refine RL.know (F := ∃ u, cellM M (adr a q) = some u ∧ Rd M (.sl n1 sz1 cs1) u) (fun w hw => hw.rd_cell hm hq) ?_
  rintro ⟨u, hu, hr⟩
  have hr' := hr
  simp only [Rd] at hr'
  obtain ⟨a1, c1, rfl, h2, h3, h4, _⟩ := hr'
  exact RL.qw hg (Y.load hx hf fun w hw => hw.cell hu) hd (RL.more (fun w hw => hw.add (x := .rd (.sl n1 sz1 cs1) (.slice a1 n1 c1)) hr rfl) (h a1 c1 h2 h4))

/-- .. out of a block of the call's own. -/
theorem RL.loadOwnSl {x : Operand} {t : TypeId} {ty : TypeId} {pos : String} {af : Array Edge} {g : Option (Nat × Bool)} {d b e : Nat} {q n1 sz1 : Nat} {us : List Value} {ds cs1 : List D}
    (hg : Want ops L ⟨some d, .load t x, ty, pos, af, g⟩ true) (hx : evL L x = some (.pointer (some (adr (some ⟨b, 0, none⟩) q)))) (hm : As.own b e us ∈ Γ) (hr : As.rds ds us ∈ Γ) (hq : ds[q]? = some (.sl n1 sz1 cs1)) (hf : flatB P t = true) (hd : Nat.blt d n = true)
    (h : ∀ a1 c1, us[q]? = some (.slice a1 n1 c1) → n1 ≤ c1 → n1 ≤ 140737488355328 → RL P n w0 ops rest ((d, .slice a1 n1 c1) :: L) M (.rd (.sl n1 sz1 cs1) (.slice a1 n1 c1) :: Γ) K) :
    RL P n w0 ops (⟨some d, .load t x, ty, pos, af, g⟩ :: rest) L M Γ K := by
  refine RL.know (F := ∃ u, us[q]? = some u ∧ Rd M (.sl n1 sz1 cs1) u) (fun w hw => ?_) ?_
  · have := hw.all _ hr
    simp only [As.ok] at this
    have hlt : q < us.length := by
      rw [this.1]
      rcases Nat.lt_or_ge q ds.length with h | h
      · exact h
      · rw [List.getElem?_eq_none h] at hq; cases hq
    exact ⟨us[q], by simp [hlt], this.2 q _ _ hq (by simp [hlt])⟩
  · rintro ⟨u, hu, hr⟩
    have hr' := hr
    simp only [Rd] at hr'
    obtain ⟨a1, c1, rfl, h2, h3, h4, _⟩ := hr'
    exact RL.qw hg (Y.load hx hf fun w hw => hw.own_cell hm hu) hd (RL.more (fun w hw => hw.add (x := .rd (.sl n1 sz1 cs1) (.slice a1 n1 c1)) hr rfl) (h a1 c1 hu h2 h4))

/-- A struct out of sealed memory. -/
theorem RL.loadAgg {x : Operand} {t : TypeId} {ty : TypeId} {pos : String} {af : Array Edge} {g : Option (Nat × Bool)} {d : Nat} {a : Option Addr} {q sz n0 sz0 l c : Nat} {cs ds : List D}
    (hg : Want ops L ⟨some d, .load t x, ty, pos, af, g⟩ true) (hx : evL L x = some (.pointer (some (adr a q)))) (hm : As.rd (.sl n0 sz0 cs) (.slice a l c) ∈ Γ) (hq : (cs.drop q).take sz = ds) (hl : ds.length = sz) (hf : aggB P t sz = true) (hd : Nat.blt d n = true)
    (h : ∀ us, us.length = sz → RdL M ds us → RL P n w0 ops rest ((d, .agg us.toArray) :: L) M (.rds ds us :: Γ) K) :
    RL P n w0 ops (⟨some d, .load t x, ty, pos, af, g⟩ :: rest) L M Γ K := by
  refine RL.know (F := ∃ us, RdL M ds us ∧ ∀ j v, us[j]? = some v → cellM M (adr a (q + j)) = some v) (fun w hw => cells_of (fun j e hj => hw.rd_cell hm (sub_get hq hj))) ?_
  rintro ⟨us, hr, hc⟩
  have hul : us.length = sz := by rw [hr.1, hl]
  refine RL.qw hg (Y.loadAgg (vs := us) hx (by rw [hul]; exact hf) fun _ hw j v hj => ?_) hd (RL.more (fun w hw => hw.add (x := .rds ds us) hr rfl) (h us hul hr))
  rw [adr_add]
  exact hw.cell (hc j v hj)

/-- A part of a block of the call's own, known by what it reads as. -/
theorem RL.loadPart {x : Operand} {t : TypeId} {ty : TypeId} {pos : String} {af : Array Edge} {g : Option (Nat × Bool)} {d b e : Nat} {q sz : Nat} {us : List Value} {ds ds' : List D}
    (hg : Want ops L ⟨some d, .load t x, ty, pos, af, g⟩ true) (hx : evL L x = some (.pointer (some (adr (some ⟨b, 0, none⟩) q)))) (hm : As.own b e us ∈ Γ) (hr : As.rds ds us ∈ Γ) (hq : (ds.drop q).take sz = ds') (hl : ds'.length = sz) (hf : aggB P t sz = true) (hd : Nat.blt d n = true)
    (h : ∀ us', us'.length = sz → RdL M ds' us' → RL P n w0 ops rest ((d, .agg us'.toArray) :: L) M (.rds ds' us' :: Γ) K) :
    RL P n w0 ops (⟨some d, .load t x, ty, pos, af, g⟩ :: rest) L M Γ K := by
  refine RL.know (F := RdL M ds us) (fun w hw => hw.all _ hr) ?_
  intro hus
  have hr' : RdL M ds' ((us.drop q).take sz) := by
    refine ⟨?_, fun k e u h1 h2 => ?_⟩
    · rw [← hq]; simp [hus.1]
    · have h1' := sub_get hq h1
      have h2' : us[q + k]? = some u := by
        have hk : k < sz := by
          rcases Nat.lt_or_ge k sz with h | h
          · exact h
          · rw [List.getElem?_eq_none (by simp; omega)] at h2; cases h2
        rwa [List.getElem?_take_of_lt hk, List.getElem?_drop] at h2
      exact hus.2 _ _ _ h1' h2'
  have hul : ((us.drop q).take sz).length = sz := by rw [hr'.1, hl]
  refine RL.qw hg (Y.loadAggOwn ((us.drop q).take sz) hx hm (fun j v hj => ?_) (by rw [hul]; exact hf)) hd (RL.more (fun w hw => hw.add (x := .rds ds' _) hr' rfl) (h _ hul hr'))
  have hk : j < sz := by
    rcases Nat.lt_or_ge j sz with h | h
    · exact h
    · rw [List.getElem?_eq_none (by simp; omega)] at hj; cases hj
  rwa [List.getElem?_take_of_lt hk, List.getElem?_drop] at hj
end

section
variable {P : Program} {n : Nat} {w0 : World} {ops : Array Oper} {C0 : List As} {rest : List Oper} {L : Lm} {M : Mem} {Γ : List As} {K : Lm → List As → Prop}

/-- A nested slice, out of sealed memory. -/
theorem QL.loadSl {x : Operand} {t : TypeId} {ty : TypeId} {pos : String} {af : Array Edge} {g : Option (Nat × Bool)} {d : Nat} {a : Option Addr} {q n0 sz0 l c n1 sz1 : Nat} {cs cs1 : List D}
    (hg : Want ops L ⟨some d, .load t x, ty, pos, af, g⟩ true) (hx : evL L x = some (.pointer (some (adr a q)))) (hm : As.rd (.sl n0 sz0 cs) (.slice a l c) ∈ Γ) (hq : cs[q]? = some (.sl n1 sz1 cs1)) (hf : flatB P t = true) (hd : Nat.blt d n = true)
    (h : ∀ a1 c1, n1 ≤ c1 → n1 ≤ 140737488355328 → QL P n w0 ops C0 M rest ((d, .slice a1 n1 c1) :: L)  (.rd (.sl n1 sz1 cs1) (.slice a1 n1 c1) :: Γ) K) :
    QL P n w0 ops C0 M (⟨some d, .load t x, ty, pos, af, g⟩ :: rest) L  Γ K := by
  refine QL.know (F := ∃ u, cellM M (adr a q) = some u ∧ Rd M (.sl n1 sz1 cs1) u) (fun w hw => hw.rd_cell hm hq) ?_
  rintro ⟨u, hu, hr⟩
  have hr' := hr
  simp only [Rd] at hr'
  obtain ⟨a1, c1, rfl, h2, h3, h4, _⟩ := hr'
  exact QL.qw hg (Y.load hx hf fun w hw => hw.cell hu) hd (QL.more (fun w hw => hw.add (x := .rd (.sl n1 sz1 cs1) (.slice a1 n1 c1)) hr rfl) (h a1 c1 h2 h4))

/-- .. out of a block of the call's own. -/
theorem QL.loadOwnSl {x : Operand} {t : TypeId} {ty : TypeId} {pos : String} {af : Array Edge} {g : Option (Nat × Bool)} {d b e : Nat} {q n1 sz1 : Nat} {us : List Value} {ds cs1 : List D}
    (hg : Want ops L ⟨some d, .load t x, ty, pos, af, g⟩ true) (hx : evL L x = some (.pointer (some (adr (some ⟨b, 0, none⟩) q)))) (hm : As.own b e us ∈ Γ) (hr : As.rds ds us ∈ Γ) (hq : ds[q]? = some (.sl n1 sz1 cs1)) (hf : flatB P t = true) (hd : Nat.blt d n = true)
    (h : ∀ a1 c1, us[q]? = some (.slice a1 n1 c1) → n1 ≤ c1 → n1 ≤ 140737488355328 → QL P n w0 ops C0 M rest ((d, .slice a1 n1 c1) :: L)  (.rd (.sl n1 sz1 cs1) (.slice a1 n1 c1) :: Γ) K) :
    QL P n w0 ops C0 M (⟨some d, .load t x, ty, pos, af, g⟩ :: rest) L  Γ K := by
  refine QL.know (F := ∃ u, us[q]? = some u ∧ Rd M (.sl n1 sz1 cs1) u) (fun w hw => ?_) ?_
  · have := hw.all _ hr
    simp only [As.ok] at this
    have hlt : q < us.length := by
      rw [this.1]
      rcases Nat.lt_or_ge q ds.length with h | h
      · exact h
      · rw [List.getElem?_eq_none h] at hq; cases hq
    exact ⟨us[q], by simp [hlt], this.2 q _ _ hq (by simp [hlt])⟩
  · rintro ⟨u, hu, hr⟩
    have hr' := hr
    simp only [Rd] at hr'
    obtain ⟨a1, c1, rfl, h2, h3, h4, _⟩ := hr'
    exact QL.qw hg (Y.load hx hf fun w hw => hw.own_cell hm hu) hd (QL.more (fun w hw => hw.add (x := .rd (.sl n1 sz1 cs1) (.slice a1 n1 c1)) hr rfl) (h a1 c1 hu h2 h4))

/-- A struct out of sealed memory. -/
theorem QL.loadAgg {x : Operand} {t : TypeId} {ty : TypeId} {pos : String} {af : Array Edge} {g : Option (Nat × Bool)} {d : Nat} {a : Option Addr} {q sz n0 sz0 l c : Nat} {cs ds : List D}
    (hg : Want ops L ⟨some d, .load t x, ty, pos, af, g⟩ true) (hx : evL L x = some (.pointer (some (adr a q)))) (hm : As.rd (.sl n0 sz0 cs) (.slice a l c) ∈ Γ) (hq : (cs.drop q).take sz = ds) (hl : ds.length = sz) (hf : aggB P t sz = true) (hd : Nat.blt d n = true)
    (h : ∀ us, us.length = sz → RdL M ds us → QL P n w0 ops C0 M rest ((d, .agg us.toArray) :: L)  (.rds ds us :: Γ) K) :
    QL P n w0 ops C0 M (⟨some d, .load t x, ty, pos, af, g⟩ :: rest) L  Γ K := by
  refine QL.know (F := ∃ us, RdL M ds us ∧ ∀ j v, us[j]? = some v → cellM M (adr a (q + j)) = some v) (fun w hw => cells_of (fun j e hj => hw.rd_cell hm (sub_get hq hj))) ?_
  rintro ⟨us, hr, hc⟩
  have hul : us.length = sz := by rw [hr.1, hl]
  refine QL.qw hg (Y.loadAgg (vs := us) hx (by rw [hul]; exact hf) fun _ hw j v hj => ?_) hd (QL.more (fun w hw => hw.add (x := .rds ds us) hr rfl) (h us hul hr))
  rw [adr_add]
  exact hw.cell (hc j v hj)

/-- A part of a block of the call's own, known by what it reads as. -/
theorem QL.loadPart {x : Operand} {t : TypeId} {ty : TypeId} {pos : String} {af : Array Edge} {g : Option (Nat × Bool)} {d b e : Nat} {q sz : Nat} {us : List Value} {ds ds' : List D}
    (hg : Want ops L ⟨some d, .load t x, ty, pos, af, g⟩ true) (hx : evL L x = some (.pointer (some (adr (some ⟨b, 0, none⟩) q)))) (hm : As.own b e us ∈ Γ) (hr : As.rds ds us ∈ Γ) (hq : (ds.drop q).take sz = ds') (hl : ds'.length = sz) (hf : aggB P t sz = true) (hd : Nat.blt d n = true)
    (h : ∀ us', us'.length = sz → RdL M ds' us' → QL P n w0 ops C0 M rest ((d, .agg us'.toArray) :: L)  (.rds ds' us' :: Γ) K) :
    QL P n w0 ops C0 M (⟨some d, .load t x, ty, pos, af, g⟩ :: rest) L  Γ K := by
  refine QL.know (F := RdL M ds us) (fun w hw => hw.all _ hr) ?_
  intro hus
  have hr' : RdL M ds' ((us.drop q).take sz) := by
    refine ⟨?_, fun k e u h1 h2 => ?_⟩
    · rw [← hq]; simp [hus.1]
    · have h1' := sub_get hq h1
      have h2' : us[q + k]? = some u := by
        have hk : k < sz := by
          rcases Nat.lt_or_ge k sz with h | h
          · exact h
          · rw [List.getElem?_eq_none (by simp; omega)] at h2; cases h2
        rwa [List.getElem?_take_of_lt hk, List.getElem?_drop] at h2
      exact hus.2 _ _ _ h1' h2'
  have hul : ((us.drop q).take sz).length = sz := by rw [hr'.1, hl]
  refine QL.qw hg (Y.loadAggOwn ((us.drop q).take sz) hx hm (fun j v hj => ?_) (by rw [hul]; exact hf)) hd (QL.more (fun w hw => hw.add (x := .rds ds' _) hr' rfl) (h _ hul hr'))
  have hk : j < sz := by
    rcases Nat.lt_or_ge j sz with h | h
    · exact h
    · rw [List.getElem?_eq_none (by simp; omega)] at hj; cases hj
  rwa [List.getElem?_take_of_lt hk, List.getElem?_drop] at hj
end

/-! ### New blocks -/
section
variable {P : Program} {n : Nat} {w0 : World} {ops : Array Oper} {rest : List Oper} {L : Lm} {M : Mem} {Γ : List As} {K : Lm → Mem → List As → Prop} {ty : TypeId} {pos : String} {af : Array Edge} {d : Nat}

/-- A variable is made, with a value. -/
theorem RL.box {e : TypeId} {x : Operand} {v : Value} (cs : List Value) (hx : evL L x = some v) (hc : v.cells = cs.toArray) (hd : Nat.blt d n = true)
    (h : ∀ b, RL P n w0 ops rest ((d, .pointer (some (adr (some ⟨b, 0, none⟩) 0))) :: L) M (.own b e cs :: Γ) K) : RL P n w0 ops (⟨some d, .box e x, ty, pos, af, none⟩ :: rest) L M Γ K := by
  refine RL.e (fun v M' Γ' => ∃ b, v = .pointer (some (adr (some ⟨b, 0, none⟩) 0)) ∧ M' = M ∧ Γ' = .own b e cs :: Γ) (fun n a w ha hw => ?_) hd ?_
  · refine ⟨.pointer (some ⟨w.heap.size, 0, none⟩), _, M, _, ?_, ⟨w.heap.size, by rw [adr_some], rfl, rfl⟩, hw.alloc e cs⟩
    simp [execOp, ha.ev hx, Instr.box, newVar, newRow, hc]
  · rintro v M' Γ' ⟨b, rfl, rfl, rfl⟩
    exact h b

def zeroB (P : Program) (e : TypeId) : Option Value := (P.info? e).bind (·.zero)
theorem run_zeroB {w : World} {e : TypeId} {z : Value} (h : zeroB P e = some z) : (zeroValue e).run P w = .ok z w := by
  unfold zeroB at h
  cases hi : P.info? e with
  | none => simp [hi] at h
  | some i =>
    simp only [hi, Option.bind_some] at h
    simp [zeroValue, typeInfo, hi, h]

/-- A variable is made, zero. -/
theorem RL.alloc {e : TypeId} {z : Value} (cs : List Value) (hz : zeroB P e = some z) (hc : z.cells = cs.toArray) (hd : Nat.blt d n = true)
    (h : ∀ b, RL P n w0 ops rest ((d, .pointer (some (adr (some ⟨b, 0, none⟩) 0))) :: L) M (.own b e cs :: Γ) K) : RL P n w0 ops (⟨some d, .alloc e, ty, pos, af, none⟩ :: rest) L M Γ K := by
  refine RL.e (fun v M' Γ' => ∃ b, v = .pointer (some (adr (some ⟨b, 0, none⟩) 0)) ∧ M' = M ∧ Γ' = .own b e cs :: Γ) (fun n a w ha hw => ?_) hd ?_
  · refine ⟨.pointer (some ⟨w.heap.size, 0, none⟩), _, M, _, ?_, ⟨w.heap.size, by rw [adr_some], rfl, rfl⟩, hw.alloc e cs⟩
    simp [execOp, Instr.alloc, run_zeroB hz, newVar, newRow, hc]
  · rintro v M' Γ' ⟨b, rfl, rfl, rfl⟩
    exact h b
end

/-! ### Stores -/
/-- Γ' is Γ with x' in the place of x. -/
inductive Repl (x x' : As) : List As → List As → Prop
  | here (Γ : List As) : Repl x x' (x :: Γ) (x' :: Γ)
  | there (y : As) {Γ Γ' : List As} : Repl x x' Γ Γ' → Repl x x' (y :: Γ) (y :: Γ')

theorem Repl.perm {x x' : As} {Γ Γ' : List As} (h : Repl x x' Γ Γ') : ∃ R, List.Perm Γ (x :: R) ∧ List.Perm (x' :: R) Γ' := by
  induction h with
  | here Γ => exact ⟨Γ, .refl _, .refl _⟩
  | there y _ ih =>
    obtain ⟨R, h1, h2⟩ := ih
    exact ⟨y :: R, (h1.cons y).trans (.swap x y R), (List.Perm.swap y x' R).trans (h2.cons y)⟩

theorem St.write_at {w0 w : World} {M : Mem} {Γ Γ' : List As} {b : Nat} {e : TypeId} {cs cs' : List Value} (hw : St w0 M Γ w) (hr : Repl (.own b e cs) (.own b e cs') Γ Γ') :
    St w0 M Γ' { w with heap := w.heap.setIfInBounds b (.cells cs'.toArray e (0, 0)) } := by
  obtain ⟨R, h1, h2⟩ := hr.perm
  exact ((hw.perm h1).write cs' _ rfl).perm h2

theorem Repl.mem {x x' : As} {Γ Γ' : List As} (h : Repl x x' Γ Γ') : x ∈ Γ := by
  induction h with
  | here Γ => exact List.mem_cons_self ..
  | there y _ ih => exact List.mem_cons_of_mem _ ih

theorem set_own {w : World} {b : Nat} {e : TypeId} {cs : List Value} (h : w.heap[b]? = some (.cells cs.toArray e (0, 0))) (q : Nat) (v : Value) :
    w.setCell (adr (some ⟨b, 0, none⟩) q) v = { w with heap := w.heap.setIfInBounds b (.cells (cs.set q v).toArray e (0, 0)) } := by
  rw [adr_some]
  have hlt : b < w.heap.size := (Array.getElem?_eq_some_iff.1 h).1
  have hb : w.heap[b] = .cells cs.toArray e (0, 0) := (Array.getElem?_eq_some_iff.1 h).2
  simp only [World.setCell]
  congr 1
  apply Array.ext
  · simp
  · intro i h1 h2
    by_cases hi : b = i
    · subst hi
      simp [Array.getElem_modify, hb]
    · rw [Array.getElem_modify, if_neg hi, Array.getElem_setIfInBounds_ne (by simpa using h1) hi]

section
variable {P : Program} {n : Nat} {w0 : World} {ops : Array Oper} {rest : List Oper} {L : Lm} {M : Mem} {Γ : List As} {K : Lm → Mem → List As → Prop} {ty : TypeId} {pos : String} {af : Array Edge} {d : Nat}
theorem run_store_own {w : World} {b : Nat} {e : TypeId} {cs : List Value} (h : w.heap[b]? = some (.cells cs.toArray e (0, 0))) {q : Nat} {v : Value} (hq : q < cs.length) (h1 : v.oneCell' = true) :
    (store (adr (some ⟨b, 0, none⟩) q) v).run P w = .ok () { w with heap := w.heap.setIfInBounds b (.cells (cs.set q v).toArray e (0, 0)) } := by
  have hc : w.cell? (adr (some ⟨b, 0, none⟩) q) = some cs[q] := by rw [adr_some]; simp [World.cell?, h, hq]
  have hf : w.frozen? (adr (some ⟨b, 0, none⟩) q) = false := by rw [adr_some]; simp [World.frozen?, h]
  rw [run_store P w _ v _ h1, hc]
  simp only [hf]
  rw [set_own h]
  simp

/-- One cell of a block of the call's own. -/
theorem RL.store {t : TypeId} {x y : Operand} {b e q : Nat} {cs : List Value} {v : Value} {Γ' : List As} (cs' : List Value) (hx : evL L x = some (.pointer (some (adr (some ⟨b, 0, none⟩) q)))) (hy : evL L y = some v)
    (hr : Repl (.own b e cs) (.own b e cs') Γ Γ') (hs : cs.set q v = cs') (hq : q < cs.length) (h1 : v.oneCell' = true) (ht : sizeB P t 1 = true)
    (h : RL P n w0 ops rest L M Γ' K) : RL P n w0 ops (⟨none, .store t x y, ty, pos, af, none⟩ :: rest) L M Γ K := by
  refine RL.s (Γ' := Γ') (fun n a w ha hw => ?_) h
  have hb := (hw.all _ hr.mem).2
  subst hs
  refine ⟨_, ?_, hw.write_at hr⟩
  have hcells : v.cells = #[v] := by cases v <;> first | rfl | simp [Value.oneCell'] at h1
  have h2 : (adr (some ⟨b, 0, none⟩) q).add 0 = adr (some ⟨b, 0, none⟩) q := by rw [adr_add]; rfl
  simp [execOp, ha.ev hx, ha.ev hy, Instr.storeAt, Instr.sureAddr, storeVar, hcells, run_sizeB ht, storeCells, h2, run_store_own hb hq h1]

theorem run_storeCells_own : ∀ (vs : List Value) (i : Nat) (w : World) (b : Nat) (e : TypeId) (cs : List Value) (q : Nat), w.heap[b]? = some (.cells cs.toArray e (0, 0)) → q + i + vs.length ≤ cs.length → (∀ v ∈ vs, v.oneCell' = true) →
    (storeCells (adr (some ⟨b, 0, none⟩) q) vs i).run P w = .ok () { w with heap := w.heap.setIfInBounds b (.cells (cs.take (q + i) ++ vs ++ cs.drop (q + i + vs.length)).toArray e (0, 0)) } := by
  intro vs i w b e cs q h hl h1
  rw [adr_some]
  have := run_storeCells_at P b (0 + q) e vs i cs.toArray w (by rw [h]) (by simpa using hl) h1
  rw [this]
  simp only [World.setRow, Nat.zero_add]
  congr 2
  have hlt : b < w.heap.size := (Array.getElem?_eq_some_iff.1 h).1
  have hb : w.heap[b] = .cells cs.toArray e (0, 0) := (Array.getElem?_eq_some_iff.1 h).2
  apply Array.ext
  · simp
  · intro j h3 h4
    by_cases hi : b = j
    · subst hi
      simp [Array.getElem_modify, hb]
    · rw [Array.getElem_modify, if_neg hi, Array.getElem_setIfInBounds_ne (by simpa using h3) hi]

/-- A struct into a block of the call's own. -/
theorem RL.storeAgg {t : TypeId} {x y : Operand} {b e q : Nat} {cs vs : List Value} {Γ' : List As} (cs' : List Value) (hx : evL L x = some (.pointer (some (adr (some ⟨b, 0, none⟩) q)))) (hy : evL L y = some (.agg vs.toArray))
    (hr : Repl (.own b e cs) (.own b e cs') Γ Γ') (hs : cs.take q ++ vs ++ cs.drop (q + vs.length) = cs') (hq : q + vs.length ≤ cs.length) (h1 : ∀ w, St w0 M Γ w → ∀ v ∈ vs, v.oneCell' = true) (ht : sizeB P t vs.length = true)
    (h : RL P n w0 ops rest L M Γ' K) : RL P n w0 ops (⟨none, .store t x y, ty, pos, af, none⟩ :: rest) L M Γ K := by
  refine RL.s (Γ' := Γ') (fun n a w ha hw => ?_) h
  have hb := (hw.all _ hr.mem).2
  subst hs
  refine ⟨_, ?_, hw.write_at hr⟩
  have h2 := run_storeCells_own (P := P) vs 0 w b e cs q hb (by simpa using hq) (h1 w hw)
  simp only [Nat.add_zero] at h2
  simp [execOp, ha.ev hx, ha.ev hy, Instr.storeAt, Instr.sureAddr, storeVar, Value.cells, run_sizeB ht, h2]
end

/-! ### Calls -/
def evs (L : Lm) : List Operand → Option (List Value)
  | [] => some []
  | x :: xs => match evL L x with
    | some v => match evs L xs with
      | some vs => some (v :: vs)
      | none => none
    | none => none
theorem Sat.evs {n : Nat} {L : Lm} {a : Act} (h : Sat n L a) : ∀ {xs : List Operand} {vs : List Value}, evs L xs = some vs → xs.map a.eval = vs
  | [], vs, hv => by simp only [Xe.evs, Option.some.injEq] at hv; simp [← hv]
  | x :: xs, vs, hv => by
    simp only [Xe.evs] at hv
    cases hx : evL L x with
    | none => simp [hx] at hv
    | some v =>
      rw [hx] at hv
      simp only [] at hv
      cases hxs : Xe.evs L xs with
      | none => simp [hxs] at hv
      | some us =>
        rw [hxs] at hv
        simp only [Option.some.injEq] at hv
        rw [← hv]
        simp [h.ev hx, h.evs hxs]

section
variable {P : Program} {w0 : World} {L : Lm} {M : Mem} {Γ : List As} {d : Option Nat} {ty : TypeId} {pos : String} {af : Array Edge} {g : Option (Nat × Bool)}
theorem run_funcB {w : World} {f : FuncId} (h : funcB P f = true) (args : Array Value) : (callFunc f args).run P w = .ok (.enter f args) w := by
  unfold funcB at h
  cases hf : P.funcs[f]? with
  | none => simp [hf] at h
  | some fn =>
    rw [hf] at h
    simp only [Bool.and_eq_true, Bool.not_eq_true', beq_eq_false_iff_ne] at h
    obtain ⟨h1, h2⟩ := h
    have h3 : fn.body ≠ none := by intro e; rw [e] at h2; cases h2
    simp [callFunc, hf, h1, h3]
/-- A call of a function by its name. -/
theorem call_enter {f : FuncId} {xs : List Operand} {ts : Array TypeId} {vs : List Value} (hf : funcB P f = true) (hx : evs L xs = some vs) :
    ∀ n a w, Sat n L a → (execOp a.eval ⟨d, .call ⟨.value (.func f), xs.toArray, ts⟩, ty, pos, af, g⟩).run P w = .ok (.enter f vs.toArray) w := fun n a w ha => by
  have h1 : (xs.toArray.map a.eval) = vs.toArray := by rw [List.map_toArray, ha.evs hx]
  simp only [execOp, resolve, h1, Act.eval, Deferred.ofValue]
  simp [invoke, run_funcB hf]
/-- A call of a function value. -/
theorem call_value {f : FuncId} {y : Operand} {first captured : Array Value} {xs : List Operand} {ts : Array TypeId} {vs : List Value} (hf : funcB P f = true) (hy : evL L y = some (.func (.func f) first captured)) (hx : evs L xs = some vs) :
    ∀ n a w, Sat n L a → (execOp a.eval ⟨d, .call ⟨.value y, xs.toArray, ts⟩, ty, pos, af, g⟩).run P w = .ok (.enter f (first ++ vs.toArray ++ captured)) w := fun n a w ha => by
  have h1 : (xs.toArray.map a.eval) = vs.toArray := by rw [List.map_toArray, ha.evs hx]
  simp only [execOp, resolve, h1, ha.ev hy, Deferred.ofValue]
  simp [invoke, run_funcB hf]
end

section
variable {P : Program} {n : Nat} {w0 : World} {ops : Array Oper} {rest : List Oper} {L : Lm} {M : Mem} {Γ : List As} {K : Lm → Mem → List As → Prop} {ty : TypeId} {pos : String} {af : Array Edge} {d : Nat}
/-- A call by its contract. -/
theorem RL.call {g : Option (Nat × Bool)} {f : FuncId} {xs : List Operand} {ts : Array TypeId} {vs : List Value} {F : Post} (hg : Want ops L ⟨some d, .call ⟨.value (.func f), xs.toArray, ts⟩, ty, pos, af, g⟩ true) (hf : funcB P f = true) (hx : evs L xs = some vs) (hd : Nat.blt d n = true)
    (hc : CallOk P w0 M Γ f vs.toArray F) (h : ∀ v M' Γ', F v M' Γ' → RL P n w0 ops rest ((d, v) :: L) M' Γ' K) :
    RL P n w0 ops (⟨some d, .call ⟨.value (.func f), xs.toArray, ts⟩, ty, pos, af, g⟩ :: rest) L M Γ K := RL.c hg (call_enter hf hx) hd hc h
/-- .. one known value, memory as it was. -/
theorem RL.callv {g : Option (Nat × Bool)} {f : FuncId} {xs : List Operand} {ts : Array TypeId} {vs : List Value} {v : Value} (hg : Want ops L ⟨some d, .call ⟨.value (.func f), xs.toArray, ts⟩, ty, pos, af, g⟩ true) (hf : funcB P f = true) (hx : evs L xs = some vs) (hd : Nat.blt d n = true)
    (hc : CallOk P w0 M Γ f vs.toArray (fun u M' Γ' => u = v ∧ M' = M ∧ Γ' = Γ)) (h : RL P n w0 ops rest ((d, v) :: L) M Γ K) :
    RL P n w0 ops (⟨some d, .call ⟨.value (.func f), xs.toArray, ts⟩, ty, pos, af, g⟩ :: rest) L M Γ K := RL.c hg (call_enter hf hx) hd hc (by rintro u M' Γ' ⟨rfl, rfl, rfl⟩; exact h)
theorem RL.callvs {g : Option (Nat × Bool)} {f : FuncId} {xs : List Operand} {ts : Array TypeId} {vs : List Value} {p : Prop} [Decidable p] (hg : Want ops L ⟨some d, .call ⟨.value (.func f), xs.toArray, ts⟩, ty, pos, af, g⟩ true) (hf : funcB P f = true) (hx : evs L xs = some vs) (hd : Nat.blt d n = true)
    (hc : CallOk P w0 M Γ f vs.toArray (fun u M' Γ' => u = .bool (decide p) ∧ M' = M ∧ Γ' = Γ)) (h1 : p → RL P n w0 ops rest ((d, .bool true) :: L) M Γ K) (h2 : ¬ p → RL P n w0 ops rest ((d, .bool false) :: L) M Γ K) :
    RL P n w0 ops (⟨some d, .call ⟨.value (.func f), xs.toArray, ts⟩, ty, pos, af, g⟩ :: rest) L M Γ K := by
  by_cases hp : p
  · rw [decide_eq_true hp] at hc; exact RL.callv hg hf hx hd hc (h1 hp)
  · rw [decide_eq_false hp] at hc; exact RL.callv hg hf hx hd hc (h2 hp)
/-- A function value's call. -/
theorem RL.callf {g : Option (Nat × Bool)} {f : FuncId} {y : Operand} {first captured : Array Value} {xs : List Operand} {ts : Array TypeId} {vs : List Value} {F : Post} (hg : Want ops L ⟨some d, .call ⟨.value y, xs.toArray, ts⟩, ty, pos, af, g⟩ true) (hf : funcB P f = true) (hy : evL L y = some (.func (.func f) first captured)) (hx : evs L xs = some vs) (hd : Nat.blt d n = true)
    (hc : CallOk P w0 M Γ f (first ++ vs.toArray ++ captured) F) (h : ∀ v M' Γ', F v M' Γ' → RL P n w0 ops rest ((d, v) :: L) M' Γ' K) :
    RL P n w0 ops (⟨some d, .call ⟨.value y, xs.toArray, ts⟩, ty, pos, af, g⟩ :: rest) L M Γ K := RL.c hg (call_value hf hy hx) hd hc h
theorem RL.callfv {g : Option (Nat × Bool)} {f : FuncId} {y : Operand} {first captured : Array Value} {xs : List Operand} {ts : Array TypeId} {vs : List Value} {v : Value} (hg : Want ops L ⟨some d, .call ⟨.value y, xs.toArray, ts⟩, ty, pos, af, g⟩ true) (hf : funcB P f = true) (hy : evL L y = some (.func (.func f) first captured)) (hx : evs L xs = some vs) (hd : Nat.blt d n = true)
    (hc : CallOk P w0 M Γ f (first ++ vs.toArray ++ captured) (fun u M' Γ' => u = v ∧ M' = M ∧ Γ' = Γ)) (h : RL P n w0 ops rest ((d, v) :: L) M Γ K) :
    RL P n w0 ops (⟨some d, .call ⟨.value y, xs.toArray, ts⟩, ty, pos, af, g⟩ :: rest) L M Γ K := RL.c hg (call_value hf hy hx) hd hc (by rintro u M' Γ' ⟨rfl, rfl, rfl⟩; exact h)
end
section
variable {P : Program} {n : Nat} {w0 : World} {ops : Array Oper} {C0 : List As} {rest : List Oper} {L : Lm} {M : Mem} {Γ : List As} {K : Lm → List As → Prop} {ty : TypeId} {pos : String} {af : Array Edge} {d : Nat} {g : Option (Nat × Bool)}
theorem QL.callv {f : FuncId} {xs : List Operand} {ts : Array TypeId} {vs : List Value} {v : Value} (hg : Want ops L ⟨some d, .call ⟨.value (.func f), xs.toArray, ts⟩, ty, pos, af, g⟩ true) (hf : funcB P f = true) (hx : evs L xs = some vs) (hd : Nat.blt d n = true)
    (hc : ∀ Γ0, (∀ w, St w0 M Γ0 w → St w0 M Γ w) → CallOk P w0 M Γ0 f vs.toArray (fun u M' Γ' => u = v ∧ M' = M ∧ Γ' = Γ0)) (h : QL P n w0 ops C0 M rest ((d, v) :: L) Γ K) :
    QL P n w0 ops C0 M (⟨some d, .call ⟨.value (.func f), xs.toArray, ts⟩, ty, pos, af, g⟩ :: rest) L Γ K := QL.c hg (call_enter hf hx) hd hc h
theorem QL.callvs {f : FuncId} {xs : List Operand} {ts : Array TypeId} {vs : List Value} {p : Prop} [Decidable p] (hg : Want ops L ⟨some d, .call ⟨.value (.func f), xs.toArray, ts⟩, ty, pos, af, g⟩ true) (hf : funcB P f = true) (hx : evs L xs = some vs) (hd : Nat.blt d n = true)
    (hc : ∀ Γ0, (∀ w, St w0 M Γ0 w → St w0 M Γ w) → CallOk P w0 M Γ0 f vs.toArray (fun u M' Γ' => u = .bool (decide p) ∧ M' = M ∧ Γ' = Γ0)) (h1 : p → QL P n w0 ops C0 M rest ((d, .bool true) :: L) Γ K) (h2 : ¬ p → QL P n w0 ops C0 M rest ((d, .bool false) :: L) Γ K) :
    QL P n w0 ops C0 M (⟨some d, .call ⟨.value (.func f), xs.toArray, ts⟩, ty, pos, af, g⟩ :: rest) L Γ K := by
  by_cases hp : p
  · rw [decide_eq_true hp] at hc; exact QL.callv hg hf hx hd hc (h1 hp)
  · rw [decide_eq_false hp] at hc; exact QL.callv hg hf hx hd hc (h2 hp)
end
end Xe

/-
  THE ENGINE, PART F: loops with a frame; slices that grow; slices that are made; what is sealed. No program in sight.
-/
namespace Xe
open Go

/-! ### A loop: only what a round turns is written out -/
def EndR (w0 : World) (M : Mem) (L0 : Lm) (Γ0 : List As) (I : Nat → Lm → Mem → List As → Prop) (m : Nat) (L2 : Lm) (M2 : Mem) (Γ2 : List As) : Prop :=
  ∃ m' Lc, m' < m ∧ Keep L2 (Lc ++ L0) ∧ Turn w0 M2 Γ2 (fun M3 Γ3 => ∃ Γc, Γ3 = Γc ++ Γ0 ∧ Sub M M3 ∧ I m' Lc M3 Γc)

theorem CW.loopF {P : Program} {n : Nat} {w0 : World} {X : Pst} {L : Lm} {M : Mem} {Γ : List As} {c : Code} (I : Nat → Lm → Mem → List As → Prop) (m : Nat) (Lc : Lm) (Γc : List As) {L0 : Lm} {Γ0 : List As}
    (hL : L = Lc ++ L0) (hG : Γ = Γc ++ Γ0) (h0 : I m Lc M Γc)
    (round : ∀ m Lc M1 Γc, Sub M M1 → I m Lc M1 Γc → CW P n w0 c (thenX (EndR w0 M L0 Γ0 I m) X) (Lc ++ L0) M1 (Γc ++ Γ0)) : CW P n w0 (.loop c) X L M Γ := by
  subst hL hG
  refine CW.loop (fun m L M1 Γ => ∃ Lc Γc, L = Lc ++ L0 ∧ Γ = Γc ++ Γ0 ∧ Sub M M1 ∧ I m Lc M1 Γc) m ⟨Lc, Γc, rfl, rfl, Sub.refl M, h0⟩ ?_
  rintro m L M1 Γ ⟨Lc, Γc, rfl, rfl, hs, hI⟩
  intro a w ha hw
  refine wp_mono (round m Lc M1 Γc hs hI a w ha hw) ?_
  rintro e a w ⟨L2, M2, Γ2, hX, h1, h2⟩
  cases e with
  | normal =>
    obtain ⟨m', Lc', hlt, hk, ht⟩ := hX
    obtain ⟨M3, Γ3, ⟨Γc', rfl, hs3, hI3⟩, hw3⟩ := ht w h2
    exact ⟨Lc' ++ L0, M3, Γc' ++ Γ0, ⟨m', hlt, Lc', Γc', rfl, rfl, hs3, hI3⟩, h1.keep hk, hw3⟩
  | _ => exact ⟨L2, M2, Γ2, hX, h1, h2⟩

/-! ### Made by the call: sealed -/
def Mem.put (M : Mem) (b : Nat) (o : Obj) : Mem := fun k => if k = b then some o else M k
theorem Mem.put_sub {M : Mem} {b : Nat} {o : Obj} (h : M b = none) : Sub M (M.put b o) := fun k x hk => by
  unfold Mem.put
  by_cases e : k = b
  · subst e; rw [h] at hk; cases hk
  · rw [if_neg e]; exact hk

theorem St.seal_block {w0 w : World} {M : Mem} {Γ : List As} {x : As} {b : Nat} {o : Obj} (hw : St w0 M (x :: Γ) w) (hx : x.blk = some b) (ho : w.heap[b]? = some o) : St w0 (M.put b o) Γ w := by
  have hb := As.ok_blk_lt (hw.all x (List.mem_cons_self ..)) hx
  have hs : Sub M (M.put b o) := Mem.put_sub hb.2
  have hnd := hw.nodup
  simp only [List.filterMap_cons, hx] at hnd
  refine ⟨hw.os, hw.tape, hw.output, hw.size, fun k y hk => ?_, fun y hy => ?_, (List.nodup_cons.1 hnd).2⟩
  · unfold Mem.put at hk
    by_cases e : k = b
    · subst e; rw [if_pos rfl] at hk; cases hk; exact ho
    · rw [if_neg e] at hk; exact hw.mem k y hk
  · have hy' := hw.all y (List.mem_cons_of_mem _ hy)
    refine As.ok_keep hy' hs fun k hk => ⟨rfl, ?_⟩
    have hne : k ≠ b := fun e => by subst e; exact (List.nodup_cons.1 hnd).1 (mem_blk hy hk)
    unfold Mem.put
    rw [if_neg hne]
    exact (As.ok_blk_lt hy' hk).2

theorem cellM_put {M : Mem} {b : Nat} {c : Array Value} {e : TypeId} {i : Nat} {v : Value} (h : c[i]? = some v) : cellM (M.put b (.cells c e (0, 0))) (adr (some ⟨b, 0, none⟩) i) = some v := by
  rw [adr_some]
  simp [cellM, Mem.put, h]

/-- A slice that the call has grown is from now on only read. -/
theorem St.sealAcc {w0 w : World} {M : Mem} {Γ : List As} {u : Value} {e : TypeId} {sz n : Nat} {us : List Value} {ds : List D} (hw : St w0 M (.acc u e sz n us :: Γ) w) (hr : RdL M ds us) (hn : n ≤ lim) :
    ∃ M', Sub M M' ∧ Rd M' (.sl n sz ds) u ∧ St w0 M' (.rd (.sl n sz ds) u :: Γ) w := by
  have hx := hw.all _ (List.mem_cons_self ..)
  obtain ⟨⟨hl, hh⟩, hM⟩ := hx
  rcases hh with ⟨rfl, rfl⟩ | ⟨b, cap, cur, rfl, _, hb, hnc, hcm, hcs, htk⟩
  · have hd : ds = [] := by
      have h1 := hr.1
      have : us.length = 0 := by simpa using hl
      rw [this] at h1
      exact List.eq_nil_of_length_eq_zero h1.symm
    subst hd
    have hrd : Rd M (.sl 0 sz []) (.slice none 0 0) := by
      simp only [Rd]
      exact ⟨none, 0, rfl, Nat.le_refl _, Nat.zero_le _, Nat.zero_le _, by simp, by simp, by simp [RdC]⟩
    refine ⟨M, Sub.refl M, hrd, ?_⟩
    exact (hw.sub (List.sublist_cons_self _ _)).add (x := .rd (.sl 0 sz []) (.slice none 0 0)) hrd rfl
  · have hMb : M b = none := hM b rfl
    have hs : Sub M (M.put b (.cells cur e (0, 0))) := Mem.put_sub hMb
    have hw' := hw.seal_block (b := b) rfl hb
    have hrd : Rd (M.put b (.cells cur e (0, 0))) (.sl n sz ds) (.slice (some ⟨b, 0, none⟩) n cap) := by
      simp only [Rd]
      refine ⟨some ⟨b, 0, none⟩, cap, rfl, hnc, hcm, hn, by rw [← hr.1]; exact hl, fun _ => rfl, RdC.mk ds 0 fun k d hk => ?_⟩
      obtain ⟨v, h1, h2⟩ := RdL.get hr hk
      refine ⟨v, ?_, Rd.mono hs d v h2⟩
      rw [Nat.zero_add]
      apply cellM_put
      have hk' : k < n * sz := by
        rw [← hl]
        rcases Nat.lt_or_ge k us.length with h | h
        · exact h
        · rw [List.getElem?_eq_none h] at h1; cases h1
      rw [← htk, List.getElem?_take_of_lt hk'] at h1
      simpa using h1
    exact ⟨_, hs, hrd, hw'.add (x := .rd _ _) hrd rfl⟩

/-- A block of the call's own of whole elements is from now on only read. -/
theorem St.seal_own {w0 w : World} {M : Mem} {Γ : List As} {b n : Nat} {e : TypeId} {sz : Nat} {us : List Value} {ds : List D} (hw : St w0 M (.own b e us :: Γ) w) (hr : RdL M ds us) (hl : us.length = n * sz) (hn : n ≤ lim) :
    ∃ M', Sub M M' ∧ Rd M' (.sl n sz ds) (.slice (some ⟨b, 0, none⟩) n n) ∧ St w0 M' (.rd (.sl n sz ds) (.slice (some ⟨b, 0, none⟩) n n) :: Γ) w := by
  have hx := hw.all _ (List.mem_cons_self ..)
  obtain ⟨hM, hb⟩ := hx
  have hs : Sub M (M.put b (.cells us.toArray e (0, 0))) := Mem.put_sub hM
  have hw' := hw.seal_block (b := b) rfl hb
  have hrd : Rd (M.put b (.cells us.toArray e (0, 0))) (.sl n sz ds) (.slice (some ⟨b, 0, none⟩) n n) := by
    simp only [Rd]
    refine ⟨some ⟨b, 0, none⟩, n, rfl, Nat.le_refl _, by unfold lim at hn; unfold maxLen; omega, hn, by rw [← hr.1]; exact hl, fun _ => rfl, RdC.mk ds 0 fun k d hk => ?_⟩
    obtain ⟨v, h1, h2⟩ := RdL.get hr hk
    refine ⟨v, ?_, Rd.mono hs d v h2⟩
    rw [Nat.zero_add]
    apply cellM_put
    simpa using h1
  exact ⟨_, hs, hrd, hw'.add (x := .rd _ _) hrd rfl⟩

/-- A block of the call's own of whole elements may be grown. -/
theorem St.own_acc {w0 w : World} {M : Mem} {Γ : List As} {b n : Nat} {e : TypeId} {sz : Nat} {us : List Value} (hw : St w0 M (.own b e us :: Γ) w) (hl : us.length = n * sz) (hn : n ≤ maxLen) :
    St w0 M (.acc (.slice (some ⟨b, 0, none⟩) n n) e sz n us :: Γ) w := by
  have hx := hw.all _ (List.mem_cons_self ..)
  refine ⟨hw.os, hw.tape, hw.output, hw.size, hw.mem, fun y hy => ?_, by simpa [List.filterMap_cons, As.blk, Value.ownBlock] using hw.nodup⟩
  rcases List.mem_cons.1 hy with rfl | hy
  · refine ⟨⟨hl, .inr ⟨b, n, us.toArray, rfl, Nat.zero_le _, hx.2, Nat.le_refl _, hn, by simpa using hl, ?_⟩⟩, fun k hk => ?_⟩
    · rw [List.take_of_length_le (by simp; omega)]
    · simp only [Value.ownBlock, Option.some.injEq] at hk
      subst hk; exact hx.1
  · exact hw.all y (List.mem_cons_of_mem _ hy)

theorem St.acc_nil {w0 w : World} {M : Mem} {Γ : List As} (hw : St w0 M Γ w) (e sz : Nat) : St w0 M (.acc (.slice none 0 0) e sz 0 [] :: Γ) w :=
  hw.add ⟨World.ownsRow_nil w 0 e sz, fun b hb => by simp [Value.ownBlock] at hb⟩ rfl

/-! ### append -/
/-- The facts on a slice type whose values are grown. -/
structure ElemOk (P : Program) (t e sz bytes : Nat) : Prop where
  ut : P.underlying t = some (.slice e)
  info : ∃ i z, P.info? e = some i ∧ i.zero = some z ∧ i.size = sz ∧ i.bytes = bytes ∧ z.cells.size = sz
  pos : 0 < sz
theorem ElemOk.mk' {P : Program} {t e sz bytes : Nat} {z : Value} (h1 : P.underlying t = some (.slice e)) (h2 : (P.info? e).map (fun i => (i.zero, i.size, i.bytes)) = some (some z, sz, bytes)) (h3 : z.cells.size = sz) (h4 : Nat.blt 0 sz = true) : ElemOk P t e sz bytes := by
  refine ⟨h1, ?_, by simpa [Nat.blt_eq] using h4⟩
  cases hi : P.info? e with
  | none => simp [hi] at h2
  | some i =>
    simp only [hi, Option.map_some, Option.some.injEq, Prod.mk.injEq] at h2
    exact ⟨i, z, rfl, h2.1, h2.2.1, h2.2.2, h3⟩

/-- The new cells lie in memory, each where it should. -/
def SrcOk (w0 : World) (M : Mem) (Γ : List As) (x : Value) (sz m : Nat) (news : List Value) : Prop :=
  news.length = m * sz ∧ (∀ u ∈ news, u.oneCell' = true) ∧
  ((∃ p c, x = .slice (some p) m c ∧ ∀ w, St w0 M Γ w → ∀ j u, news[j]? = some u → w.cell? (p.add j) = some u) ∨ (m = 0 ∧ ∃ c, x = .slice none 0 c))

theorem St.grown {w0 w w' : World} {M : Mem} {Γ : List As} {u u' : Value} {e : TypeId} {sz n n' : Nat} {us us' : List Value} (hw : St w0 M (.acc u e sz n us :: Γ) w)
    (hg : w.grownBy w' u.ownBlock) (ho : w'.ownsRow 0 e sz u' n' us') (hb : ∀ b, u'.ownBlock = some b → u.ownBlock = some b ∨ w.heap.size ≤ b) : St w0 M (.acc u' e sz n' us' :: Γ) w' := by
  have hx := hw.all _ (List.mem_cons_self ..)
  have hold : ∀ k, k < w.heap.size → u.ownBlock ≠ some k → w'.heap[k]? = w.heap[k]? := fun k hk hne => hg.block k hk (fun e => hne e.symm)
  have hnd := hw.nodup
  have hrest : ∀ y ∈ Γ, ∀ k, y.blk = some k → u.ownBlock ≠ some k := fun y hy k hk e => by
    simp only [List.filterMap_cons, As.blk, e] at hnd
    exact (List.nodup_cons.1 hnd).1 (mem_blk hy hk)
  refine ⟨hg.os.trans hw.os, hg.tape.trans hw.tape, hg.output.trans hw.output, Nat.le_trans hw.size hg.size, fun k o hk => ?_, fun y hy => ?_, ?_⟩
  · rw [hold k (hw.lt hk) (fun e => by rw [hx.2 k e] at hk; cases hk)]; exact hw.mem k o hk
  · rcases List.mem_cons.1 hy with rfl | hm
    · refine ⟨ho, fun b hbb => ?_⟩
      rcases hb b hbb with h | h
      · exact hx.2 b h
      · cases hM : M b with
        | none => rfl
        | some o => have := hw.lt hM; omega
    · have hy' := hw.all y (List.mem_cons_of_mem _ hm)
      refine As.ok_keep hy' (Sub.refl M) fun k hk => ⟨hold k (As.ok_blk_lt hy' hk).1 (hrest y hm k hk), (As.ok_blk_lt hy' hk).2⟩
  · simp only [List.filterMap_cons, As.blk] at hnd ⊢
    cases hu' : u'.ownBlock with
    | none =>
      cases hu : u.ownBlock with
      | none => simpa [hu] using hnd
      | some k => rw [hu] at hnd; exact (List.nodup_cons.1 hnd).2
    | some b =>
      have hnd2 : (List.filterMap As.blk Γ).Nodup := by
        cases hu : u.ownBlock with
        | none => simpa [hu] using hnd
        | some k => rw [hu] at hnd; exact (List.nodup_cons.1 hnd).2
      refine List.nodup_cons.2 ⟨fun hm => ?_, hnd2⟩
      obtain ⟨y, hy, hk⟩ := List.mem_filterMap.1 hm
      rcases hb b hu' with h | h
      · exact hrest y hy b hk h
      · have := (As.ok_blk_lt (hw.all y (List.mem_cons_of_mem _ hy)) hk).1
        omega

theorem append_acc {P : Program} {w0 w : World} {M : Mem} {Γ : List As} {t ty e sz bytes n m : Nat} {u x : Value} {us news : List Value} (hE : ElemOk P t e sz bytes)
    (hw : St w0 M (.acc u e sz n us :: Γ) w) (hs : SrcOk w0 M (.acc u e sz n us :: Γ) x sz m news) (hb : (n + m) * bytes ≤ 140737488355328) (hm : n + m ≤ lim) :
    ∃ u' w', (Builtin.append_ #[t, t] ty #[u, x]).run P w = .ok u' w' ∧ St w0 M (.acc u' e sz (n + m) (us ++ news) :: Γ) w' := by
  obtain ⟨ht, ⟨i, z, hi, hz, hsize, hby, hzs⟩, hpos⟩ := hE
  obtain ⟨hl, h1, hsrc⟩ := hs
  have hx := hw.all _ (List.mem_cons_self ..)
  have h63 : n + m ≤ maxLen := by unfold lim at hm; unfold maxLen; omega
  rcases hsrc with ⟨p, c, rfl, hnews⟩ | ⟨rfl, c, rfl⟩
  · obtain ⟨v', w', hr, ho, hg, _⟩ := run_append_own (P := P) w 0 t ty e i z sz bytes ht hi hz hsize hby hzs hpos u n us hx.1 p m c news hl (hnews w hw) h1 h63 hb (Nat.zero_le _)
    refine ⟨v', w', hr, hw.grown hg ho fun b hbb => ?_⟩
    subst hsize
    obtain ⟨hlen, hh⟩ := hx.1
    rcases hh with ⟨rfl, rfl⟩ | ⟨b0, cap, cur, rfl, _, hb0, hnc, hcm, hcs, htk⟩
    · rcases Nat.eq_zero_or_pos m with rfl | hmp
      · have e0 : news = [] := List.eq_nil_of_length_eq_zero (by simpa using hl)
        subst e0
        have hr2 : (Builtin.append_ #[t, t] ty #[.slice none 0 0, .slice (some p) 0 c]).run P w = .ok (.slice none 0 0) w := by
          have hf := run_firstCells_some (P := P) w i.size 0 p 0 c [] (by simp) (by simp)
          simp [Builtin.append_, run_underlying ht, Go.sizeOf, typeInfo, hi, Builtin.lenOf, hf]
        rw [hr2] at hr
        cases hr
        simp [Value.ownBlock] at hbb
      · have hr2 := run_append_nil (P := P) w t ty e i z ht hi hz p m c news hl (hnews w hw) hmp (by unfold lim at hm; omega) (by rw [hby]; simp at hb; omega)
        rw [hr2] at hr
        cases hr
        simp only [Value.ownBlock, Option.some.injEq] at hbb
        right; omega
    · by_cases hroom : n + m ≤ cap
      · have hr2 := run_append_room (P := P) w t ty e i ht hi b0 n cap cur hb0 p m c news hl (hnews w hw) h1 hroom (by rw [hl, hcs, ← Nat.add_mul]; exact Nat.mul_le_mul_right _ hroom)
        rw [hr2] at hr
        cases hr
        exact .inl hbb
      · have holds : ∀ j v, us[j]? = some v → w.cell? ((⟨b0, 0, none⟩ : Addr).add j) = some v := hx.1.cells rfl
        have hr2 := run_append_grow (P := P) w t ty e i z ht hi hz ⟨b0, 0, none⟩ n cap us hlen holds p m c news hl (hnews w hw) (by omega) (by unfold lim at hm; omega)
          (by rw [hby]; exact growslice_fits (by omega) hb)
        rw [hr2] at hr
        cases hr
        simp only [Value.ownBlock, Option.some.injEq] at hbb
        right; omega
  · have e0 : news = [] := List.eq_nil_of_length_eq_zero (by simpa using hl)
    subst e0
    refine ⟨u, w, ?_, by simpa using hw⟩
    obtain ⟨hlen, hh⟩ := hx.1
    rcases hh with ⟨rfl, rfl⟩ | ⟨b0, cap, cur, rfl, _, hb0, hnc, hcm, hcs, htk⟩
    · simp [Builtin.append_, run_underlying ht, Go.sizeOf, typeInfo, hi, Builtin.lenOf, Builtin.firstCells]
    · simp [Builtin.append_, run_underlying ht, Go.sizeOf, typeInfo, hi, Builtin.lenOf, Builtin.firstCells, hnc, storeCells]

end Xe
