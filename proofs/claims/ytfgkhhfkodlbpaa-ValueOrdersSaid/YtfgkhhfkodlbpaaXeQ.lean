/-
  THE ENGINE, PART Q: any argument made of integers, booleans, strings, structs and slices, and back. No program in sight.
-/
import Derived.Test.YtfgkhhfkodlbpaaXe3
import Derived.Carry
import Derived.OpenShut
namespace Xe
open Go Go.ChangeShapes Go.WideShapes Go.RowKit

/-- What the cells of a value of a type read as, as far as its type goes. -/
def WT (P : Program) : Nat → TypeId → List D → Prop
  | 0, _, _ => False
  | n + 1, t, ds => match P.underlying t with
    | some .bool => ∃ b, ds = [.v (.bool b)]
    | some (.int k) => ∃ z, ds = [.v (.int k z)] ∧ (Lit.int k z).wf = true
    | some .string => ∃ s : ByteArray, ds = [.v (.string s)] ∧ s.size ≤ lim
    | some (.slice e) => ∃ els : List (List D), ds = [.sl els.length (P.cellsOf e) els.flatten] ∧ els.length ≤ lim ∧ ∀ x ∈ els, WT P n e x
    | some (.struct fs) => ds.length = P.cellsOf t ∧ ∀ f ∈ fs.toList, WT P n f.type ((ds.drop f.offset).take (P.cellsOf f.type))
    | some (.array m e) => ds.length = P.cellsOf t ∧ ∀ i, i < m → WT P n e ((ds.drop (i * P.cellsOf e)).take (P.cellsOf e))
    | _ => False

/-- Fields lie one behind the other. -/
def contigB (P : Program) : Nat → List Field → Nat → Bool
  | off, [], tot => Nat.beq off tot
  | off, f :: fs, tot => Nat.beq f.offset off && contigB P (off + P.cellsOf f.type) fs tot
theorem contig_le {P : Program} : ∀ {fs : List Field} {off tot : Nat}, contigB P off fs tot = true → off ≤ tot ∧ ∀ f ∈ fs, off ≤ f.offset
  | [], off, tot, h => ⟨Nat.le_of_eq (Nat.eq_of_beq_eq_true h), fun f hf => by simp at hf⟩
  | g :: fs, off, tot, h => by
    simp only [contigB, Bool.and_eq_true] at h
    obtain ⟨h1, h2⟩ := contig_le h.2
    have h0 := Nat.eq_of_beq_eq_true h.1
    refine ⟨by omega, fun f hf => ?_⟩
    rcases List.mem_cons.1 hf with rfl | hf
    · omega
    · have := h2 f hf; omega

/-- The types of a list refer to each other alone. -/
def closedB (P : Program) (ts : List TypeId) : Bool := ts.all fun t => match P.underlying t with
  | some .bool => true
  | some (.int _) => true
  | some .string => true
  | some (.slice e) => ts.contains e && Nat.blt 0 (P.bytesOf e)
  | some (.struct fs) => contigB P 0 fs.toList (P.cellsOf t) && fs.toList.all fun f => ts.contains f.type
  | some (.array m e) => Nat.beq (P.cellsOf t) (m * P.cellsOf e) && ts.contains e
  | _ => false

theorem RdL.cut {M : Mem} {ds : List D} {us : List Value} (h : RdL M ds us) (q n : Nat) : RdL M ((ds.drop q).take n) ((us.drop q).take n) := by
  refine ⟨by simp [h.1], fun k d u h1 h2 => ?_⟩
  have hk : k < n := by
    rcases Nat.lt_or_ge k n with h | h
    · exact h
    · rw [List.getElem?_eq_none (by simp; omega)] at h1; cases h1
  rw [List.getElem?_take_of_lt hk, List.getElem?_drop] at h1 h2
  exact h.2 _ _ _ h1 h2

theorem RdL.ex {M : Mem} : ∀ {us : List Value}, (∀ u ∈ us, ∃ d, Rd M d u) → ∃ ds, RdL M ds us
  | [], _ => ⟨[], RdL.nil M⟩
  | u :: us, h => by
    obtain ⟨d, hd⟩ := h u (List.mem_cons_self ..)
    obtain ⟨ds, hds⟩ := RdL.ex fun x hx => h x (List.mem_cons_of_mem _ hx)
    exact ⟨d :: ds, RdL.cons hd hds⟩

theorem weightsAll_mem {H : Type} {P : Program} {e : TypeId} {d : DataW H} : ∀ {l : List (DataW H)}, d ∈ l → ∀ n ∈ d.weights P e, n ∈ DataW.weightsAll P e l
  | x :: xs, hd, n, hn => by
    rw [DataW.weightsAll, List.mem_append]
    rcases List.mem_cons.1 hd with rfl | hd
    · exact .inl hn
    · exact .inr (weightsAll_mem hd n hn)

theorem glueF {M : Mem} {P : Program} (F : Field → List D → Prop) : ∀ (fs : List Field) (off : Nat) (cs : List Value), contigB P off fs (off + cs.length) = true →
    (∀ f ∈ fs, ∃ ds, RdL M ds ((cs.drop (f.offset - off)).take (P.cellsOf f.type)) ∧ F f ds) → ∃ ds, RdL M ds cs ∧ ∀ f ∈ fs, F f ((ds.drop (f.offset - off)).take (P.cellsOf f.type)) := by
  intro fs
  induction fs with
  | nil =>
    intro off cs h _
    have := Nat.eq_of_beq_eq_true h
    have : cs = [] := List.eq_nil_of_length_eq_zero (by omega)
    subst this
    exact ⟨[], RdL.nil M, fun f hf => by simp at hf⟩
  | cons g fs ih =>
    intro off cs h hf
    simp only [contigB, Bool.and_eq_true] at h
    have h0 := Nat.eq_of_beq_eq_true h.1
    have h1 := contig_le h.2
    obtain ⟨d0, r0, f0⟩ := hf g (List.mem_cons_self ..)
    rw [h0, Nat.sub_self, List.drop_zero] at r0
    have hd0 : d0.length = P.cellsOf g.type := by rw [← r0.1, List.length_take]; omega
    obtain ⟨ds, r1, f1⟩ := ih (off + P.cellsOf g.type) (cs.drop (P.cellsOf g.type)) (by rw [List.length_drop, show off + P.cellsOf g.type + (cs.length - P.cellsOf g.type) = off + cs.length from by omega]; exact h.2) fun f hfm => by
      obtain ⟨ds, r, ff⟩ := hf f (List.mem_cons_of_mem _ hfm)
      have := h1.2 f hfm
      refine ⟨ds, ?_, ff⟩
      rw [List.drop_drop]
      rwa [show P.cellsOf g.type + (f.offset - (off + P.cellsOf g.type)) = f.offset - off from by omega]
    refine ⟨d0 ++ ds, ?_, fun f hfm => ?_⟩
    · have := r0.append r1
      rwa [List.take_append_drop] at this
    · rcases List.mem_cons.1 hfm with rfl | hfm
      · rw [h0, Nat.sub_self, List.drop_zero, ← hd0, List.take_left]
        exact f0
      · have := h1.2 f hfm
        have e := f1 f hfm
        rw [List.drop_append, List.drop_of_length_le (by omega), List.nil_append, hd0, show f.offset - off - P.cellsOf g.type = f.offset - (off + P.cellsOf g.type) from by omega]
        exact e

theorem flat_takeF : ∀ (l : List (List D)) (sz i : Nat) (hi : i < l.length), (∀ x ∈ l, x.length = sz) → ((l.flatten.drop (i * sz)).take sz) = l[i]
  | x :: xs, sz, 0, _, h => by
    have := h x (List.mem_cons_self ..)
    simp [← this]
  | x :: xs, sz, i + 1, hi, h => by
    have h0 := h x (List.mem_cons_self ..)
    have e : (x ++ xs.flatten).drop sz = xs.flatten := by rw [← h0]; exact List.drop_left
    rw [List.flatten_cons, Nat.succ_mul, Nat.add_comm, ← List.drop_drop, e, List.getElem_cons_succ]
    exact flat_takeF xs sz i (by simpa using hi) fun y hy => h y (List.mem_cons_of_mem _ hy)

section
variable {H : Type} {enc : TypeId × Value → H} {P : Program} {W : World}

/-- Readings of parts are put together. -/
theorem glue {M : Mem} (sz : Nat) (cs : List Value) (F : List D → Prop) : ∀ (m : Nat), cs.length = m * sz → (∀ i, i < m → ∃ ds, RdL M ds ((cs.drop (i * sz)).take sz) ∧ F ds) →
    ∃ els : List (List D), els.length = m ∧ RdL M els.flatten cs ∧ (∀ x ∈ els, F x) ∧ ∀ x ∈ els, x.length = sz := by
  intro m
  induction m generalizing cs with
  | zero =>
    intro hl _
    have : cs = [] := List.eq_nil_of_length_eq_zero (by omega)
    subst this
    exact ⟨[], rfl, RdL.nil M, fun x hx => by simp at hx, fun x hx => by simp at hx⟩
  | succ m ih =>
    intro hl h
    have hls : sz ≤ cs.length := by rw [hl, Nat.succ_mul]; omega
    obtain ⟨d0, r0, f0⟩ := h 0 (by omega)
    simp only [Nat.zero_mul, List.drop_zero] at r0
    obtain ⟨els, h1, h2, h3, h4⟩ := ih (cs.drop sz) (by rw [List.length_drop, hl, Nat.succ_mul]; omega) fun i hi => by
      obtain ⟨ds, r, f⟩ := h (i + 1) (by omega)
      refine ⟨ds, ?_, f⟩
      rw [List.drop_drop]
      rwa [show sz + i * sz = (i + 1) * sz from by rw [Nat.succ_mul]; omega]
    refine ⟨d0 :: els, by simp [h1], ?_, fun x hx => ?_, fun x hx => ?_⟩
    · have := r0.append h2
      rwa [List.take_append_drop] at this
    · rcases List.mem_cons.1 hx with rfl | hx
      · exact f0
      · exact h3 x hx
    · rcases List.mem_cons.1 hx with rfl | hx
      · rw [← r0.1, List.length_take]; omega
      · exact h4 x hx

theorem flatten_len {sz : Nat} : ∀ {els : List (List D)}, (∀ x ∈ els, x.length = sz) → els.flatten.length = els.length * sz
  | [], _ => by simp
  | x :: xs, h => by
    rw [List.flatten_cons, List.length_append, h x (List.mem_cons_self ..), flatten_len fun y hy => h y (List.mem_cons_of_mem _ hy), List.length_cons, Nat.succ_mul, Nat.add_comm]

theorem open_cells {ts : List TypeId} (hcl : closedB P ts = true) : ∀ (n : Nat) (t : TypeId) (cs : List Value) (x : DataW H × List MemPlace), t ∈ ts →
    DataW.trod enc P W 0 (fun _ => true) true n t cs = some x → (∀ k ∈ x.1.weights P t, k ≤ reachBytes) → ∃ ds, RdL (memOf W) ds cs ∧ WT P n t ds := by
  intro n
  induction n with
  | zero => intro t cs x _ h; simp [DataW.trod] at h
  | succ n ih =>
    intro t cs x ht h hw
    have hc := List.all_eq_true.1 hcl t ht
    cases hu : P.underlying t with
    | none => simp [hu] at hc
    | some u =>
      rw [hu] at hc
      cases u with
      | bool =>
        obtain ⟨b, rfl, rfl⟩ := DataW.trod_bool hu h
        exact ⟨[.v (.bool b)], RdL.cons (by simp [Rd, Value.oneCell']) (RdL.nil _), by simp [WT, hu]⟩
      | int k =>
        obtain ⟨z, rfl, rfl, hz⟩ := DataW.trod_int hu h
        exact ⟨[.v (.int k z)], RdL.cons (by simp [Rd, Value.oneCell']) (RdL.nil _), by simp [WT, hu, hz]⟩
      | string =>
        obtain ⟨s, rfl, rfl, hs⟩ := DataW.trod_string hu h
        refine ⟨[.v (.string s)], RdL.cons (by simp [Rd, Value.oneCell']) (RdL.nil _), ?_⟩
        have := hw s.data.toList.length (by rw [DataW.weights]; exact List.mem_singleton.2 rfl)
        have h5 := reachBytes_lt
        have hsz : s.data.toList.length = s.size := by rw [Array.length_toList]; rfl
        simp only [WT, hu]
        exact ⟨s, rfl, by unfold lim; omega⟩
      | slice e =>
        simp only [Bool.and_eq_true, List.contains_iff_mem] at hc
        obtain ⟨he, hb⟩ := hc
        have hb : 0 < P.bytesOf e := by simpa [Nat.blt_eq] using hb
        rcases DataW.trod_slice hu h with ⟨rfl, rfl⟩ | ⟨a, len, cap, elems, rest, n', hn, rfl, rfl, _, hl, hm, hlen, hel, _, _⟩
        · refine ⟨[.sl 0 (P.cellsOf e) []], RdL.cons Rd.nilS (RdL.nil _), ?_⟩
          simp only [WT, hu]
          exact ⟨[], rfl, Nat.zero_le _, fun x hx => by simp at hx⟩
        · obtain rfl : n' = n := by omega
          have hwl : len ≤ lim := by
            have := hw ((elems.map (·.1)).length + (rest.map (·.1)).length |> (· * P.bytesOf e)) (by simp [DataW.weights, hu])
            have h5 := reachBytes_lt
            have h6 : len ≤ ((elems.map (·.1)).length + (rest.map (·.1)).length) * P.bytesOf e := Nat.le_trans (by simp [hlen]) (Nat.le_mul_of_pos_right _ hb)
            simp only at this
            unfold lim; omega
          have each : ∀ i, i < len → ∃ cs' ds, W.cells? 0 (a.add (i * P.cellsOf e)) (P.cellsOf e) = some cs' ∧ RdL (memOf W) ds cs' ∧ WT P n' e ds := fun i hi => by
            have h1 := hel i hi
            have h2 : i < elems.length := by omega
            rw [List.getElem?_eq_getElem h2, Option.bind_eq_some_iff] at h1
            obtain ⟨cs', h3, h4⟩ := h1
            obtain ⟨ds, h5, h6⟩ := ih e cs' _ he h4 fun k hk => hw k (by
              simp only [DataW.weights, hu, List.mem_cons, List.mem_append]
              exact .inr (.inl (weightsAll_mem (List.mem_map.2 ⟨_, List.getElem_mem h2, rfl⟩) k hk)))
            exact ⟨cs', ds, h3, h5, h6⟩
          have hcell : ∀ q, q < len * P.cellsOf e → ∃ u, W.cell? (a.add q) = some u := fun q hq => by
            have hp : 0 < P.cellsOf e := by
              rcases Nat.eq_zero_or_pos (P.cellsOf e) with h | h
              · rw [h] at hq; omega
              · exact h
            have hi : q / P.cellsOf e < len := Nat.div_lt_of_lt_mul (by rw [Nat.mul_comm]; exact hq)
            obtain ⟨cs', ds, h1, _, _⟩ := each _ hi
            obtain ⟨_, h2, h3⟩ := World.cells?_some h1
            have hr : q % P.cellsOf e < P.cellsOf e := Nat.mod_lt _ hp
            have h4 := h3 _ hr
            rw [show (a.add (q / P.cellsOf e * P.cellsOf e)).add (q % P.cellsOf e) = a.add q from by
              have e1 : q / P.cellsOf e * P.cellsOf e + q % P.cellsOf e = q := by rw [Nat.mul_comm]; exact Nat.div_add_mod q _
              have := adr_add (some a) (q / P.cellsOf e * P.cellsOf e) (q % P.cellsOf e)
              rw [e1] at this
              exact this, List.getElem?_eq_getElem (by omega)] at h4
            exact ⟨_, h4⟩
          -- the cells as one list
          obtain ⟨row, hrl, hrow⟩ : ∃ row : List Value, row.length = len * P.cellsOf e ∧ ∀ q, q < len * P.cellsOf e → W.cell? (a.add q) = row[q]? := by
            refine ⟨(List.range (len * P.cellsOf e)).map fun q => (W.cell? (a.add q)).getD default, by simp, fun q hq => ?_⟩
            obtain ⟨u, hu'⟩ := hcell q hq
            simp [hq, hu']
          obtain ⟨els, k1, k2, k3, k4⟩ := glue (M := memOf W) (P.cellsOf e) row (WT P n' e) len hrl fun i hi => by
            obtain ⟨cs', ds, h1, h2, h3⟩ := each i hi
            obtain ⟨_, h4, h5⟩ := World.cells?_some h1
            refine ⟨ds, ?_, h3⟩
            have : (row.drop (i * P.cellsOf e)).take (P.cellsOf e) = cs' := by
              apply List.ext_getElem?
              intro j
              by_cases hj : j < P.cellsOf e
              · rw [List.getElem?_take_of_lt hj, List.getElem?_drop, ← h5 j hj]
                have hlt : i * P.cellsOf e + j < len * P.cellsOf e := by
                  have : (i + 1) * P.cellsOf e ≤ len * P.cellsOf e := Nat.mul_le_mul_right _ hi
                  rw [Nat.succ_mul] at this; omega
                rw [← hrow _ hlt]
                have := adr_add (some a) (i * P.cellsOf e) j
                show W.cell? (adr (some a) _) = _
                rw [← this]; rfl
              · rw [List.getElem?_eq_none (by simp; omega), List.getElem?_eq_none (by omega)]
            rw [this]; exact h2
          refine ⟨[.sl els.length (P.cellsOf e) els.flatten], RdL.cons ?_ (RdL.nil _), ?_⟩
          · simp only [Rd]
            refine ⟨some a, cap, by rw [k1], by omega, hm, by omega, flatten_len k4, fun _ => rfl, RdC.mk _ 0 fun k d hk => ?_⟩
            have hlt : k < row.length := by
              rw [k2.1]
              rcases Nat.lt_or_ge k els.flatten.length with h | h
              · exact h
              · rw [List.getElem?_eq_none h] at hk; cases hk
            refine ⟨row[k], ?_, k2.2 k d _ hk (List.getElem?_eq_getElem hlt)⟩
            rw [cellM_memOf, Nat.zero_add]
            exact (hrow k (by omega)).trans (List.getElem?_eq_getElem hlt)
          · simp only [WT, hu]
            exact ⟨els, rfl, by omega, k3⟩
      | struct fs =>
        obtain ⟨xs, n', hn, rfl, hl, hxl, hf⟩ := DataW.trod_struct hu h
        obtain rfl : n' = n := by omega
        rw [Bool.and_eq_true] at hc
        have hca : ∀ f ∈ fs.toList, f.type ∈ ts := fun f hf => by
          have := List.all_eq_true.1 hc.2 f hf
          simpa using this
        have hwe : ∀ (l : List Field) (ys : List (DataW H)) (i : Nat) (f : Field) (d : DataW H), l[i]? = some f → ys[i]? = some d → ∀ k ∈ d.weights P f.type, k ∈ DataW.weightsEach P (l.map (·.type)) ys := by
          intro l
          induction l with
          | nil => intro ys i f d h1; simp at h1
          | cons g l ihl =>
            intro ys i f d h1 h2 k hk
            cases ys with
            | nil => simp at h2
            | cons y ys =>
              rw [List.map_cons, DataW.weightsEach, List.mem_append]
              cases i with
              | zero =>
                simp only [List.getElem?_cons_zero, Option.some.injEq] at h1 h2
                subst h1 h2; exact .inl hk
              | succ i => exact .inr (ihl ys i f d (by simpa using h1) (by simpa using h2) k hk)
        have each : ∀ f ∈ fs.toList, ∃ ds, RdL (memOf W) ds ((cs.drop f.offset).take (P.cellsOf f.type)) ∧ WT P n' f.type ds := fun f hfm => by
          obtain ⟨i, hi⟩ := List.getElem?_of_mem hfm
          have h1 := hf i f (by simpa using hi)
          have hix : i < xs.length := by
            have := (List.getElem?_eq_some_iff.1 hi).1
            simp at this; omega
          rw [List.getElem?_eq_getElem hix] at h1
          exact ih f.type _ _ (hca f hfm) h1 fun k hk => hw k (by
            simp only [DataW.weights, hu]
            exact hwe _ _ i f _ hi (by simp [hix]) k hk)
        obtain ⟨ds, k1, k2⟩ := glueF (M := memOf W) (P := P) (fun f ds => WT P n' f.type ds) fs.toList 0 cs (by rw [Nat.zero_add, hl]; exact hc.1) fun f hf => by simpa using each f hf
        refine ⟨ds, k1, ?_⟩
        simp only [WT, hu]
        exact ⟨by rw [← k1.1]; exact hl, fun f hf => by simpa using k2 f hf⟩
      | array m e =>
        simp only [Bool.and_eq_true, List.contains_iff_mem] at hc
        obtain ⟨hc0, hc⟩ := hc
        have hc0 := Nat.eq_of_beq_eq_true hc0
        obtain ⟨xs, n', hn, rfl, hl, hxl, hf⟩ := DataW.trod_array hu h
        obtain rfl : n' = n := by omega
        have each : ∀ i, i < m → ∃ ds, RdL (memOf W) ds ((cs.drop (i * P.cellsOf e)).take (P.cellsOf e)) ∧ WT P n' e ds := fun i hi => by
          have h1 := hf i hi
          have hix : i < xs.length := by omega
          rw [List.getElem?_eq_getElem hix] at h1
          exact ih e _ _ hc h1 fun k hk => hw k (by
            simp only [DataW.weights, hu]
            exact weightsAll_mem (List.mem_map.2 ⟨_, List.getElem_mem hix, rfl⟩) k hk)
        obtain ⟨els, k1, k2, k3, k4⟩ := glue (M := memOf W) (P.cellsOf e) cs (WT P n' e) m (by rw [hl, hc0]) each
        refine ⟨els.flatten, k2, ?_⟩
        simp only [WT, hu]
        refine ⟨by rw [← k2.1]; exact hl, fun i hi => ?_⟩
        have hi' : i < els.length := by omega
        have e2 : ∀ (l : List (List D)) (sz i : Nat) (hi : i < l.length), (∀ x ∈ l, x.length = sz) → ((l.flatten.drop (i * sz)).take sz) = l[i] := fun l sz i hi hall => by
          have := flat_takeF l sz i hi hall
          exact this
        rw [e2 els _ i hi' k4]
        exact k3 _ (List.getElem_mem hi')
      | _ => simp at hc
end

/-! ### Arguments of a law -/
/-- The cells of a value that is no array's, no struct's element: as it stands in a slot. -/
def SlotOf (P : Program) (t : TypeId) (us : List Value) (v : Value) : Prop := match P.underlying t with
  | some (.struct _) => v = .agg us.toArray
  | some (.array ..) => v = .agg us.toArray
  | _ => us = [v]

inductive ArgsW (P : Program) (M : Mem) : List TypeId → List Value → Prop
  | nil : ArgsW P M [] []
  | cons {t : TypeId} {ts : List TypeId} {v : Value} {vs : List Value} (n : Nat) (ds : List D) (us : List Value) : RdL M ds us → WT P n t ds → SlotOf P t us v → ArgsW P M ts vs → ArgsW P M (t :: ts) (v :: vs)

theorem ArgsW.inv {P : Program} {M : Mem} {t : TypeId} {ts : List TypeId} {vs : List Value} (h : ArgsW P M (t :: ts) vs) :
    ∃ n ds us v vs', vs = v :: vs' ∧ RdL M ds us ∧ WT P n t ds ∧ SlotOf P t us v ∧ ArgsW P M ts vs' := by
  cases h with
  | cons n ds us h1 h2 h3 h4 => exact ⟨n, ds, us, _, _, rfl, h1, h2, h3, h4⟩
theorem ArgsW.nil_inv {P : Program} {M : Mem} {vs : List Value} (h : ArgsW P M [] vs) : vs = [] := by cases h; rfl

section
variable {H : Type} {enc : TypeId × Value → H} {P : Program} {W : World}
theorem cells_one {v : Value} (h : v.oneCell' = true) : v.cells = #[v] := by cases v <;> first | rfl | simp [Value.oneCell'] at h
theorem argsW_of {ts0 : List TypeId} (hcl : closedB P ts0 = true) (hl : laidOutB P = true) :
    ∀ (ts : List TypeId) (vs : List Value) (ds : List (DataW H)) (p : List MemPlace), DataW.TrodAll enc P W 0 (fun _ => true) true ts vs ds p → (∀ t ∈ ts, t ∈ ts0 ∧ P.readableRec t = true ∧ t < P.types.size) →
    (∀ (j : Nat) t v, ts[j]? = some t → vs[j]? = some v → ∃ b, Value.okWide P W .any b t v) → (∀ k ∈ DataW.weightsEach P ts ds, k ≤ reachBytes) →
    ArgsW P (memOf W) ts vs ∧ ∀ (W' : World) (sp : Nat → Bool), Below W.heap.size W W' → (∀ q ∈ p, q.block < W.heap.size) → (∀ q ∈ p, sp q.block = true) → DataW.TrodAll enc P W' 0 sp true ts vs ds p
  | [], vs, ds, p, h, _, _, _ => by
    obtain ⟨rfl, rfl, rfl⟩ := trodAll_nil h
    exact ⟨.nil, fun _ _ _ _ _ => rfl⟩
  | t :: ts, vs, ds, p, h, hts, hval, hsz => by
    obtain ⟨v, vs1, d, ds1, pa, pb, rfl, rfl, rfl, h1, h2⟩ := trodAll_cons h
    rw [DataW.weightsEach] at hsz
    obtain ⟨h3, h4⟩ := argsW_of hcl hl ts vs1 ds1 pb h2 (fun x hx => hts x (List.mem_cons_of_mem _ hx)) (fun j x y hx hy => hval (j + 1) x y (by simpa using hx) (by simpa using hy)) (fun k hk => hsz k (List.mem_append_right _ hk))
    obtain ⟨b, hv⟩ := hval 0 t v rfl rfl
    obtain ⟨ht0, hr, hrow⟩ := hts t (List.mem_cons_self ..)
    obtain ⟨n, hn⟩ := h1
    obtain ⟨es, k1, k2⟩ := open_cells hcl n t _ _ ht0 hn fun k hk => hsz k (List.mem_append_left _ hk)
    refine ⟨.cons n es v.cells.toList k1 k2 ?_ h3, fun W' sp hB hlt hq => ⟨pa, pb, WideElems.Trod_stays hl hr hrow ⟨n, hn⟩ (fun x hx => hB.same (hlt x (List.mem_append_left _ hx))) (fun x hx => hq x (List.mem_append_left _ hx)),
      h4 W' sp hB (fun x hx => hlt x (List.mem_append_right _ hx)) (fun x hx => hq x (List.mem_append_right _ hx)), rfl⟩⟩
    have hc := List.all_eq_true.1 hcl t ht0
    unfold SlotOf
    cases hu : P.underlying t with
    | none => simp [hu] at hc
    | some u =>
      rw [hu] at hc
      cases u with
      | bool => obtain ⟨b, rfl⟩ := okWide_bool hu hv; rfl
      | int k => obtain ⟨z, rfl⟩ := okWide_int hu hv; rfl
      | string => obtain ⟨s, rfl⟩ := okWide_string hu hv; rfl
      | slice e => obtain ⟨a, n, c, rfl⟩ := okWide_slice hu hv; rfl
      | struct fs => obtain ⟨cs, rfl, _⟩ := okWide_struct hu hv; simp [Value.cells]
      | array m e =>
        simp only [Value.okWide, hu] at hv
        obtain ⟨cs, rfl, _⟩ := hv
        simp [Value.cells]
      | _ => simp at hc
end

/-- A law over any such arguments, out of its walk. -/
theorem law_liftedW {H : Type} {enc : TypeId × Value → H} {C : Checked} {os : Os} {f : FuncId} {fn : Func} {s : ChangeSpec} {tb : TypeId} {fresh handsOn again : Bool} (ts0 : List TypeId) (own : ownKnob C.prog.godebug = none) (started : os.Started) (noInit : C.prog.inits.idxOf? f = none) (hfn : C.prog.funcs[f]? = some fn)
    (hcl : closedB C.prog ts0 = true) (hl : laidOutB C.prog = true) (htb : C.prog.underlying tb = some .bool)
    (hts : (fn.params.toList.all fun t => ts0.contains t && C.prog.readableRec t && Nat.blt t C.prog.types.size) = true) (hres : fn.resultTypes = #[tb]) (hvars : s.vars = []) (hspec : ∀ ds : List (DataW H), ds.length = fn.params.toList.length → s.fn H ds = { results := [.lit (.bool true)], args := ds, vars := [] })
    (witness : ∃ (w : World) (tape : Tape) (i : Input), w.os = os ∧ (w.forCall tape i).Shaped C.prog ∧ i.vars = [] ∧ Input.okWide C.prog (w.forCall tape i) .any w.heap.size f i ∧
      s.pre6 enc C.prog fn [] false (w.forCall tape i).memory i.args ∧ Assume.holds {} C.prog (lone (Frame.enter C.prog f i.args .normal) [] (w.forCall tape i)))
    (contract : ∀ (W : World) (vs : List Value), ArgsW C.prog (memOf W) fn.params.toList vs → CallOk C.prog W (memOf W) [] f vs.toArray (Is (memOf W) [] (.bool true))) :
    ReturnsInHanded {} C os f .any (s.pre6 enc C.prog fn [] false) (s.post enc C.prog fn false fresh handsOn again) := by
  refine returnsInHanded_of_change_sized own started noInit hfn witness ?_
  intro W base args ds gs before hval hW _ hsz _
  have hW' := hW
  obtain ⟨p, q, hA, hV, hb, hfz, hnd⟩ := hW
  rw [hvars] at hV
  obtain ⟨rfl, rfl⟩ := trodVars_none hV
  have hvt : s.plain.varTypes C.prog = [] := by
    have : s.plain.vars = [] := hvars
    unfold DataSpec.varTypes
    rw [this]; rfl
  rw [hvt, List.append_nil, List.append_nil] at hsz
  have hts' : ∀ t ∈ fn.params.toList, t ∈ ts0 ∧ C.prog.readableRec t = true ∧ t < C.prog.types.size := fun t ht => by
    have := List.all_eq_true.1 hts t ht
    simp only [Bool.and_eq_true, List.contains_iff_mem] at this
    exact ⟨this.1.1, this.1.2, by simpa [Nat.blt_eq] using this.2⟩
  obtain ⟨h1, h2⟩ := argsW_of (enc := enc) hcl hl fn.params.toList args.toList ds p hA hts' (fun j t v ht hv => ⟨base, hval j t v (by simpa using ht) (by simpa using hv)⟩) (fun k hk => by
    have := List.all_eq_true.1 hsz k hk
    simpa using this)
  have hlen : ds.length = fn.params.toList.length := by
    have : ∀ (ts : List TypeId) (vs : List Value) (ds : List (DataW H)) (p : List MemPlace), DataW.TrodAll enc C.prog W 0 (fun _ => true) true ts vs ds p → ds.length = ts.length := by
      intro ts
      induction ts with
      | nil => intro vs ds p h; obtain ⟨_, rfl, _⟩ := trodAll_nil h; rfl
      | cons t ts ih =>
        intro vs ds p h
        obtain ⟨v, vs1, d, ds1, a, b, rfl, rfl, rfl, _, h2⟩ := trodAll_cons h
        simp [ih _ _ _ h2]
    exact this _ _ _ _ hA
  refine (contract W args.toList h1 W (st_start W)).mono ?_
  rintro e' W' ⟨v, M', Γ', rfl, ⟨rfl, rfl, rfl⟩, hw'⟩
  refine ⟨_, rfl, ?_⟩
  have hB := below_of hw'
  have hfn' := hspec ds hlen
  have hlt : ∀ x ∈ p, x.block < W.heap.size := fun x hx => hW'.lt x (by rw [hb]; exact List.mem_append_left _ hx)
  refine post_below (pa := p) (pv := []) hW' (fun b sp hd => ?_) (fun sp hsp => ?_) (fun sp _ => ?_) (by rw [hb]) hB (fun j t r hj hr => ?_)
  · rw [List.append_nil, hfn', hres]
    exact trodAll_mk1 (shut_bool htb true)
  · rw [List.append_nil, hfn']
    exact h2 W' sp hB hlt fun q hq => hsp q (by rw [hb, List.append_nil]; exact hq)
  · rw [List.append_nil, hfn', hvars]
    rfl
  · rw [hres] at hj hr
    have hj0 : j = 0 := by
      rcases Nat.eq_zero_or_pos j with h | h
      · exact h
      · rw [Array.getElem?_eq_none (by simp; omega)] at hj; cases hj
    subst hj0
    simp [Value.resultList] at hj hr
    subst hj hr
    exact okWide_bool_mk htb true
end Xe
