/-
  THE ENGINE, PART A: slots, sealed memory, readings, the state assertion, the rules for control. No program in sight.
-/
import Derived.WalkKit
import Derived.Deep.Quiet
namespace Xe
open Go

/-! ### Slots -/

abbrev Lm := List (Nat × Value)

def getL : Lm → Nat → Option Value
  | [], _ => none
  | (t, v) :: r, s => match Nat.beq s t with
    | true => some v
    | false => getL r s

def evL (L : Lm) : Operand → Option Value
  | .tmp t => getL L t
  | .const v => some v
  | .global g => some (.pointer (some ⟨g, 0, none⟩))
  | .func f => some (.func (.func f) #[] #[])

structure Sat (n : Nat) (L : Lm) (a : Act) : Prop where
  size : a.tmps.size = n
  defers : a.defers = []
  get : ∀ t v, getL L t = some v → a.tmps[t]? = some v

theorem Sat.ev {n : Nat} {L : Lm} {a : Act} (h : Sat n L a) {x : Operand} {v : Value} (hx : evL L x = some v) : a.eval x = v := by
  cases x with
  | tmp t =>
    have := h.get t v hx
    simp only [Act.eval, Array.getD_eq_getD_getElem?, this, Option.getD_some]
  | const c => simpa [evL, Act.eval] using hx
  | global g => simpa [evL, Act.eval] using hx
  | func f => simpa [evL, Act.eval] using hx

theorem Sat.put {n d : Nat} {L : Lm} {a : Act} {v : Value} (h : Sat n L a) (hd : Nat.blt d n = true) : Sat n ((d, v) :: L) (a.put (some d) v) := by
  have hd' : d < n := by simpa [Nat.blt_eq] using hd
  refine ⟨by simp [Act.put, h.size], by simp [Act.put, h.defers], fun t u ht => ?_⟩
  simp only [getL] at ht
  by_cases e : t = d
  · subst e
    have hb : Nat.beq t t = true := Nat.beq_refl t
    rw [hb] at ht
    simp only [Option.some.injEq] at ht
    subst ht
    have : t < a.tmps.size := by rw [h.size]; exact hd'
    simp [Act.put, this]
  · have hb : Nat.beq t d = false := by
      cases hb : Nat.beq t d with
      | false => rfl
      | true => exact absurd (Nat.eq_of_beq_eq_true hb) e
    rw [hb] at ht
    have := h.get t u ht
    simp only [Act.put]
    rw [Array.getElem?_setIfInBounds_ne (by omega)]
    exact this

theorem Sat.keep {n : Nat} {L L' : Lm} {a : Act} (h : Sat n L a) (hk : ∀ t v, getL L' t = some v → getL L t = some v) : Sat n L' a :=
  ⟨h.size, h.defers, fun t v ht => h.get t v (hk t v ht)⟩

/-- L' is a part of L. -/
def Keep (L L' : Lm) : Prop := ∀ t v, getL L' t = some v → getL L t = some v
theorem Keep.nil (L : Lm) : Keep L [] := fun _ _ h => by simp [getL] at h
theorem Keep.cons {L L' : Lm} (t : Nat) {v : Value} (h : getL L t = some v) (k : Keep L L') : Keep L ((t, v) :: L') := fun s u hs => by
  simp only [getL] at hs
  cases hb : Nat.beq s t with
  | true =>
    rw [hb] at hs
    simp only [Option.some.injEq] at hs
    subst hs
    rw [Nat.eq_of_beq_eq_true hb]; exact h
  | false => rw [hb] at hs; exact k s u hs
theorem Keep.refl (L : Lm) : Keep L L := fun _ _ h => h

/-! ### Sealed memory, readings -/

/-- Memory that is never written again. -/
abbrev Mem := Nat → Option Obj
def Sub (M M' : Mem) : Prop := ∀ b o, M b = some o → M' b = some o
theorem Sub.refl (M : Mem) : Sub M M := fun _ _ h => h
theorem Sub.trans {M M' M'' : Mem} (h : Sub M M') (k : Sub M' M'') : Sub M M'' := fun b o hb => k b o (h b o hb)

/-- The address i cells behind a. -/
def adr (a : Option Addr) (i : Nat) : Addr := (a.getD default).add i
theorem adr_add (a : Option Addr) (i j : Nat) : (adr a i).add j = adr a (i + j) := by
  unfold adr Addr.add
  by_cases hi : i = 0
  · subst hi
    by_cases hj : j = 0
    · simp [hj]
    · simp
  · by_cases hj : j = 0
    · simp [hj]
    · have : i + j ≠ 0 := by omega
      simp [hi, hj, Nat.add_assoc]
theorem adr_some (b o i : Nat) : adr (some ⟨b, o, none⟩) i = ⟨b, o + i, none⟩ := by
  unfold adr Addr.add
  by_cases hi : i = 0
  · simp [hi]
  · simp [hi]
theorem adr_of (x : Addr) (i : Nat) : x.add i = adr (some x) i := rfl

def cellM (M : Mem) (p : Addr) : Option Value :=
  match M p.block with
  | some (.cells c _ _) => if p.spot.isSome then none else c[p.off]?
  | _ => none

theorem cellM_mono {M M' : Mem} (h : Sub M M') {p : Addr} {v : Value} (hv : cellM M p = some v) : cellM M' p = some v := by
  unfold cellM at *
  cases hM : M p.block with
  | none => simp [hM] at hv
  | some o => rw [h _ _ hM]; rw [hM] at hv; exact hv

/-- What a value reads as. -/
inductive D where
  | v (x : Value)
  | sl (n sz : Nat) (cs : List D)

def lim : Nat := 140737488355328

mutual
def Rd (M : Mem) : D → Value → Prop
  | .v x, u => u = x ∧ x.oneCell' = true
  | .sl n sz cs, u => ∃ a cap, u = .slice a n cap ∧ n ≤ cap ∧ cap ≤ maxLen ∧ n ≤ lim ∧ cs.length = n * sz ∧ (0 < n → a.isSome = true) ∧ RdC M a 0 cs
def RdC (M : Mem) (a : Option Addr) : Nat → List D → Prop
  | _, [] => True
  | i, d :: ds => (∃ u, cellM M (adr a i) = some u ∧ Rd M d u) ∧ RdC M a (i + 1) ds
end

mutual
theorem Rd.mono {M M' : Mem} (h : Sub M M') : ∀ (d : D) (u : Value), Rd M d u → Rd M' d u
  | .v x, u, hr => by simpa [Rd] using hr
  | .sl n sz cs, u, hr => by
    simp only [Rd] at hr ⊢
    obtain ⟨a, cap, h1, h2, h3, h4, h5, h6, h7⟩ := hr
    exact ⟨a, cap, h1, h2, h3, h4, h5, h6, RdC.mono h a cs 0 h7⟩
theorem RdC.mono {M M' : Mem} (h : Sub M M') (a : Option Addr) : ∀ (cs : List D) (i : Nat), RdC M a i cs → RdC M' a i cs
  | [], i, _ => by simp [RdC]
  | d :: ds, i, hr => by
    simp only [RdC] at hr ⊢
    obtain ⟨⟨u, h1, h2⟩, h3⟩ := hr
    exact ⟨⟨u, cellM_mono h h1, Rd.mono h d u h2⟩, RdC.mono h a ds (i + 1) h3⟩
end

theorem RdC.get {M : Mem} {a : Option Addr} : ∀ (cs : List D) (i : Nat), RdC M a i cs → ∀ (k : Nat) (d : D), cs[k]? = some d → ∃ u, cellM M (adr a (i + k)) = some u ∧ Rd M d u
  | [], _, _, k, d, hk => by simp at hk
  | e :: es, i, h, k, d, hk => by
    simp only [RdC] at h
    cases k with
    | zero => simp only [List.getElem?_cons_zero, Option.some.injEq] at hk; subst hk; exact h.1
    | succ k =>
      obtain ⟨u, h1, h2⟩ := RdC.get es (i + 1) h.2 k d (by simpa using hk)
      exact ⟨u, by rw [show i + (k + 1) = i + 1 + k from by omega]; exact h1, h2⟩

theorem RdC.mk {M : Mem} {a : Option Addr} : ∀ (cs : List D) (i : Nat), (∀ (k : Nat) (d : D), cs[k]? = some d → ∃ u, cellM M (adr a (i + k)) = some u ∧ Rd M d u) → RdC M a i cs
  | [], _, _ => by simp [RdC]
  | e :: es, i, h => by
    simp only [RdC]
    refine ⟨?_, RdC.mk es (i + 1) fun k d hk => ?_⟩
    · have := h 0 e rfl; simpa using this
    · have := h (k + 1) d (by simpa using hk)
      rwa [show i + (k + 1) = i + 1 + k from by omega] at this

/-- Several cells, one behind the other. -/
def RdL (M : Mem) (ds : List D) (us : List Value) : Prop := us.length = ds.length ∧ ∀ (k : Nat) (d : D) (u : Value), ds[k]? = some d → us[k]? = some u → Rd M d u
theorem RdL.mono {M M' : Mem} (h : Sub M M') {ds : List D} {us : List Value} (hr : RdL M ds us) : RdL M' ds us :=
  ⟨hr.1, fun k d u h1 h2 => Rd.mono h d u (hr.2 k d u h1 h2)⟩
theorem RdL.nil (M : Mem) : RdL M [] [] := ⟨rfl, fun k d u h _ => by simp at h⟩
theorem RdL.cons {M : Mem} {d : D} {u : Value} {ds : List D} {us : List Value} (h : Rd M d u) (k : RdL M ds us) : RdL M (d :: ds) (u :: us) :=
  ⟨by simp [k.1], fun i e x h1 h2 => by
    cases i with
    | zero => simp only [List.getElem?_cons_zero, Option.some.injEq] at h1 h2; subst h1 h2; exact h
    | succ i => exact k.2 i e x (by simpa using h1) (by simpa using h2)⟩
theorem RdL.append {M : Mem} {ds es : List D} {us xs : List Value} (h : RdL M ds us) (k : RdL M es xs) : RdL M (ds ++ es) (us ++ xs) := by
  refine ⟨by simp [h.1, k.1], fun i d u h1 h2 => ?_⟩
  by_cases hi : i < ds.length
  · rw [List.getElem?_append_left hi] at h1
    rw [List.getElem?_append_left (by rw [h.1]; exact hi)] at h2
    exact h.2 i d u h1 h2
  · rw [List.getElem?_append_right (by omega)] at h1
    rw [List.getElem?_append_right (by rw [h.1]; omega)] at h2
    rw [h.1] at h2
    exact k.2 _ d u h1 h2

/-! ### Assertions -/

inductive As where
  | rd (d : D) (u : Value)
  | rds (ds : List D) (us : List Value)
  | own (b : Nat) (e : TypeId) (cs : List Value)
  | acc (u : Value) (e : TypeId) (sz n : Nat) (us : List Value)
  | mp (b : Nat) (l : List (Value × Value))

def As.blk : As → Option Nat
  | .own b _ _ => some b
  | .acc u _ _ _ _ => u.ownBlock
  | .mp b _ => some b
  | _ => none

def As.ok (M : Mem) (w : World) : As → Prop
  | .rd d u => Rd M d u
  | .rds ds us => RdL M ds us
  | .own b e cs => M b = none ∧ w.heap[b]? = some (.cells cs.toArray e (0, 0))
  | .acc u e sz n us => w.ownsRow 0 e sz u n us ∧ ∀ b, u.ownBlock = some b → M b = none
  | .mp b l => M b = none ∧ ∃ es clock, w.heap[b]? = some (.map es clock) ∧ es.toList.map (fun e => (e.key, e.val)) = l

/-- The state of memory: as it was when w0 was, but for what Γ owns. -/
structure St (w0 : World) (M : Mem) (Γ : List As) (w : World) : Prop where
  os : w.os = w0.os
  tape : w.tape = w0.tape
  output : w.output = w0.output
  size : w0.heap.size ≤ w.heap.size
  mem : ∀ b o, M b = some o → w.heap[b]? = some o
  all : ∀ x, x ∈ Γ → x.ok M w
  nodup : (Γ.filterMap As.blk).Nodup

theorem St.lt {w0 w : World} {M : Mem} {Γ : List As} (h : St w0 M Γ w) {b : Nat} {o : Obj} (hb : M b = some o) : b < w.heap.size := by
  have := h.mem b o hb
  exact (Array.getElem?_eq_some_iff.1 this).1

theorem St.fresh {w0 w : World} {M : Mem} {Γ : List As} (h : St w0 M Γ w) : M w.heap.size = none := by
  cases hM : M w.heap.size with
  | none => rfl
  | some o => have := h.lt hM; omega

theorem St.cell {w0 w : World} {M : Mem} {Γ : List As} (h : St w0 M Γ w) {p : Addr} {v : Value} (hv : cellM M p = some v) : w.cell? p = some v := by
  unfold cellM at hv
  unfold World.cell?
  cases hM : M p.block with
  | none => simp [hM] at hv
  | some o =>
    rw [h.mem _ _ hM]
    rw [hM] at hv
    cases o <;> first | exact hv | simp at hv

theorem As.ok_blk_lt {M : Mem} {w : World} {x : As} (h : x.ok M w) {b : Nat} (hb : x.blk = some b) : b < w.heap.size ∧ M b = none := by
  cases x with
  | rd d u => simp [As.blk] at hb
  | rds d u => simp [As.blk] at hb
  | own b' e cs =>
    simp only [As.blk, Option.some.injEq] at hb
    subst hb
    exact ⟨(Array.getElem?_eq_some_iff.1 h.2).1, h.1⟩
  | acc u e sz n us =>
    simp only [As.blk] at hb
    exact ⟨(h.1.lt b hb).2, h.2 b hb⟩
  | mp b' l =>
    simp only [As.blk, Option.some.injEq] at hb
    subst hb
    obtain ⟨h1, es, clock, h2, _⟩ := h
    exact ⟨(Array.getElem?_eq_some_iff.1 h2).1, h1⟩

/-- An assertion whose own block is as it was still holds, over more sealed memory. -/
theorem As.ok_keep {M M' : Mem} {w w' : World} {x : As} (h : x.ok M w) (hs : Sub M M') (hb : ∀ b, x.blk = some b → w'.heap[b]? = w.heap[b]? ∧ M' b = none) : x.ok M' w' := by
  cases x with
  | rd d u => exact Rd.mono hs d u h
  | rds ds us => exact RdL.mono hs h
  | own b e cs => exact ⟨(hb b rfl).2, by rw [(hb b rfl).1]; exact h.2⟩
  | acc u e sz n us =>
    refine ⟨?_, fun b hbb => (hb b hbb).2⟩
    obtain ⟨h1, h2⟩ := h.1
    refine ⟨h1, ?_⟩
    rcases h2 with h2 | ⟨g, cap, cur, hv, hg, hh, r⟩
    · exact .inl h2
    · exact .inr ⟨g, cap, cur, hv, hg, by rw [(hb g (by subst hv; rfl)).1]; exact hh, r⟩
  | mp b l =>
    obtain ⟨_, es, clock, h2, h3⟩ := h
    exact ⟨(hb b rfl).2, es, clock, by rw [(hb b rfl).1]; exact h2, h3⟩

/-! Membership in, exchange of one element of, a written-out list -/

theorem mem_blk {Γ : List As} {x : As} {b : Nat} (hx : x ∈ Γ) (hb : x.blk = some b) : b ∈ Γ.filterMap As.blk := List.mem_filterMap.2 ⟨x, hx, hb⟩

theorem St.draw {w0 w : World} {M : Mem} {Γ : List As} (h : St w0 M Γ w) (k : Nat) : St w0 M Γ { w with drawn := k } :=
  ⟨h.os, h.tape, h.output, h.size, h.mem, fun x hx => As.ok_keep (w' := { w with drawn := k }) (h.all x hx) (Sub.refl M) fun _ hb => ⟨rfl, (As.ok_blk_lt (h.all x hx) hb).2⟩, h.nodup⟩

/-- Forget: any sublist. -/
theorem St.sub {w0 w : World} {M : Mem} {Γ Γ' : List As} (h : St w0 M Γ w) (hs : List.Sublist Γ' Γ) : St w0 M Γ' w :=
  ⟨h.os, h.tape, h.output, h.size, h.mem, fun x hx => h.all x (hs.subset hx), (hs.filterMap As.blk).nodup h.nodup⟩

theorem St.perm {w0 w : World} {M : Mem} {Γ Γ' : List As} (h : St w0 M Γ w) (hp : List.Perm Γ Γ') : St w0 M Γ' w :=
  ⟨h.os, h.tape, h.output, h.size, h.mem, fun x hx => h.all x (hp.symm.subset hx), (hp.filterMap As.blk).nodup_iff.1 h.nodup⟩

/-- Facts without a block of their own may be added. -/
theorem St.add {w0 w : World} {M : Mem} {Γ : List As} (h : St w0 M Γ w) {x : As} (hx : x.ok M w) (hb : x.blk = none) : St w0 M (x :: Γ) w :=
  ⟨h.os, h.tape, h.output, h.size, h.mem, fun y hy => by
    rcases List.mem_cons.1 hy with rfl | hy
    · exact hx
    · exact h.all y hy, by simpa [List.filterMap_cons, hb] using h.nodup⟩

theorem St.rd {w0 w : World} {M : Mem} {Γ : List As} (h : St w0 M Γ w) {d : D} {u : Value} (hm : As.rd d u ∈ Γ) : Rd M d u := h.all _ hm

/-- Back to the sealed memory of an earlier state, where what is owned now was owned then, in the same words. -/
theorem St.back {w0 w w' : World} {M M' : Mem} {Γ : List As} (h : St w0 M Γ w) (h' : St w0 M' Γ w') (hs : Sub M M') : St w0 M Γ w' :=
  ⟨h'.os, h'.tape, h'.output, h'.size, fun b o hb => h'.mem b o (hs b o hb), fun x hx => by
    have h1 := h.all x hx
    have h2 := h'.all x hx
    cases x with
    | rd d u => exact h1
    | rds d u => exact h1
    | own b e cs => exact ⟨h1.1, h2.2⟩
    | acc u e sz n us => exact ⟨h2.1, h1.2⟩
    | mp b l => exact ⟨h1.1, h2.2⟩, h.nodup⟩

/-- Memory may be seen otherwise. -/
def Turn (w0 : World) (M : Mem) (Γ : List As) (F : Mem → List As → Prop) : Prop := ∀ w, St w0 M Γ w → ∃ M' Γ', F M' Γ' ∧ St w0 M' Γ' w
theorem Turn.same {w0 : World} {M : Mem} {Γ : List As} {F : Mem → List As → Prop} (h : F M Γ) : Turn w0 M Γ F := fun _ hw => ⟨M, Γ, h, hw⟩
theorem Turn.of {w0 : World} {M M' : Mem} {Γ Γ' : List As} {F : Mem → List As → Prop} (h : F M' Γ') (k : ∀ w, St w0 M Γ w → St w0 M' Γ' w) : Turn w0 M Γ F := fun w hw => ⟨M', Γ', h, k w hw⟩

/-- A new block. -/
theorem St.alloc {w0 w : World} {M : Mem} {Γ : List As} (h : St w0 M Γ w) (e : TypeId) (cs : List Value) :
    St w0 M (.own w.heap.size e cs :: Γ) { w with heap := w.heap.push (.cells cs.toArray e (0, 0)) } := by
  have hold : ∀ b, b < w.heap.size → (w.heap.push (.cells cs.toArray e (0, 0)))[b]? = w.heap[b]? := fun b hb => by
    rw [Array.getElem?_push, if_neg (by omega)]
  refine ⟨h.os, h.tape, h.output, by simp; have := h.size; omega, fun b o hb => ?_, fun x hx => ?_, ?_⟩
  · rw [hold b (h.lt hb)]; exact h.mem b o hb
  · rcases List.mem_cons.1 hx with rfl | hx
    · exact ⟨h.fresh, by simp⟩
    · exact As.ok_keep (h.all x hx) (Sub.refl M) fun b hb => ⟨hold b (As.ok_blk_lt (h.all x hx) hb).1, (As.ok_blk_lt (h.all x hx) hb).2⟩
  · simp only [List.filterMap_cons, As.blk]
    refine List.nodup_cons.2 ⟨fun hm => ?_, h.nodup⟩
    obtain ⟨x, hx, hb⟩ := List.mem_filterMap.1 hm
    have := (As.ok_blk_lt (h.all x hx) hb).1
    omega

/-- The block at the list's head gets other cells. -/
theorem St.write {w0 w : World} {M : Mem} {Γ : List As} {b : Nat} {e : TypeId} {cs : List Value} (h : St w0 M (.own b e cs :: Γ) w) (cs' : List Value) (w' : World)
    (hw : w' = { w with heap := w.heap.setIfInBounds b (.cells cs'.toArray e (0, 0)) }) : St w0 M (.own b e cs' :: Γ) w' := by
  subst hw
  have hown := h.all _ (List.mem_cons_self ..)
  have hlt : b < w.heap.size := (Array.getElem?_eq_some_iff.1 hown.2).1
  have hne : ∀ k, k ≠ b → (w.heap.setIfInBounds b (.cells cs'.toArray e (0, 0)))[k]? = w.heap[k]? := fun k hk => Array.getElem?_setIfInBounds_ne (by omega)
  have hnd := h.nodup
  simp only [List.filterMap_cons, As.blk] at hnd
  refine ⟨h.os, h.tape, h.output, by simp; exact h.size, fun k o hk => ?_, fun x hx => ?_, by simpa [List.filterMap_cons, As.blk] using h.nodup⟩
  · rw [hne k (fun e => by subst e; rw [hown.1] at hk; cases hk)]; exact h.mem k o hk
  · rcases List.mem_cons.1 hx with rfl | hm
    · exact ⟨hown.1, by simp [hlt]⟩
    · have hx' := h.all x (List.mem_cons_of_mem _ hm)
      refine As.ok_keep hx' (Sub.refl M) fun k hk => ⟨hne k fun e => ?_, (As.ok_blk_lt hx' hk).2⟩
      subst e
      exact (List.nodup_cons.1 hnd).1 (mem_blk hm hk)

end Xe
