/- Xe4, PureA, Va, Vc, Vd, Ve, Vj, Vq, put together. -/
import Derived.Test.YtanbipbiblikbaaDoorPk1
import Derived.Carry
import Derived.OpenShut
import Derived.Deep.CondSized
import Derived.Scope
import Derived.Lib.AppendZeros
import Derived.Laws.Bits64b
import Derived.KernelRfl
/- XeQ XeR XeS XeT XeU XeV XeW XeX, put together. No program in sight. -/
/-
  THE ENGINE, PART Q: any argument made of integers, booleans, strings, structs and slices, and back. No program in sight.
-/
namespace Xe
open Go Go.ChangeShapes Go.WideShapes Go.RowKit

/-- What the cells of a value of a type read as, as far as its type goes. -/
def WT (P : Program) : Nat → TypeId → List D → Prop
  | 0, _, _ => False
  | n + 1, t, ds => match P.underlying t with
    | some .bool => ∃ b, ds = [.v (.bool b)]
    | some (.int k) => ∃ z, ds = [.v (.int k z)] ∧ (Lit.int k z).wf = true
    | some .string => ∃ s : ByteArray, ds = [.v (.string s)] ∧ s.size ≤ lim
    | some (.slice e) => ∃ els : List (List D), ds = [.sl els.length (P.cellsOf e) els.flatten] ∧ els.length ≤ lim ∧ ∀ x ∈ els, WT P n e x
    | some (.struct fs) => ds.length = P.cellsOf t ∧ ∀ f ∈ fs.toList, WT P n f.type ((ds.drop f.offset).take (P.cellsOf f.type))
    | some (.array m e) => ds.length = P.cellsOf t ∧ ∀ i, i < m → WT P n e ((ds.drop (i * P.cellsOf e)).take (P.cellsOf e))
    | _ => False

mutual
/-- How many cells are read, each time that they are reached. -/
def bulkD : D → Nat
  | .v _ => 1
  | .sl _ _ cs => 1 + bulkDs cs
def bulkDs : List D → Nat
  | [] => 0
  | d :: ds => bulkD d + bulkDs ds
end
theorem bulkDs_append : ∀ (a b : List D), bulkDs (a ++ b) = bulkDs a + bulkDs b
  | [], b => by simp [bulkDs]
  | x :: xs, b => by have := bulkDs_append xs b; simp only [List.cons_append, bulkDs]; omega
/-- A count of values that is no less than that of the cells. -/
structure BulkOk {H : Type} (bulk : DataW H → Nat) : Prop where
  lit : ∀ l, 1 ≤ bulk (.lit l)
  nil : 1 ≤ bulk .nil
  slice : ∀ els sp, (els.map bulk).sum + 1 ≤ bulk (.slice els sp)
  agg : ∀ ps, (ps.map bulk).sum ≤ bulk (.agg ps)
/-- Fields lie one behind the other. -/
def contigB (P : Program) : Nat → List Field → Nat → Bool
  | off, [], tot => Nat.beq off tot
  | off, f :: fs, tot => Nat.beq f.offset off && contigB P (off + P.cellsOf f.type) fs tot
theorem contig_le {P : Program} : ∀ {fs : List Field} {off tot : Nat}, contigB P off fs tot = true → off ≤ tot ∧ ∀ f ∈ fs, off ≤ f.offset
  | [], off, tot, h => ⟨Nat.le_of_eq (Nat.eq_of_beq_eq_true h), fun f hf => by simp at hf⟩
  | g :: fs, off, tot, h => by
    simp only [contigB, Bool.and_eq_true] at h
    obtain ⟨h1, h2⟩ := contig_le h.2
    have h0 := Nat.eq_of_beq_eq_true h.1
    refine ⟨by omega, fun f hf => ?_⟩
    rcases List.mem_cons.1 hf with rfl | hf
    · omega
    · have := h2 f hf; omega

/-- The types of a list refer to each other alone. -/
def closedB (P : Program) (ts : List TypeId) : Bool := ts.all fun t => match P.underlying t with
  | some .bool => true
  | some (.int _) => true
  | some .string => true
  | some (.slice e) => ts.contains e && Nat.blt 0 (P.bytesOf e)
  | some (.struct fs) => contigB P 0 fs.toList (P.cellsOf t) && fs.toList.all fun f => ts.contains f.type
  | some (.array m e) => Nat.beq (P.cellsOf t) (m * P.cellsOf e) && ts.contains e
  | _ => false

theorem RdL.cut {M : Mem} {ds : List D} {us : List Value} (h : RdL M ds us) (q n : Nat) : RdL M ((ds.drop q).take n) ((us.drop q).take n) := by
  refine ⟨by simp [h.1], fun k d u h1 h2 => ?_⟩
  have hk : k < n := by
    rcases Nat.lt_or_ge k n with h | h
    · exact h
    · rw [List.getElem?_eq_none (by simp; omega)] at h1; cases h1
  rw [List.getElem?_take_of_lt hk, List.getElem?_drop] at h1 h2
  exact h.2 _ _ _ h1 h2

theorem RdL.ex {M : Mem} : ∀ {us : List Value}, (∀ u ∈ us, ∃ d, Rd M d u) → ∃ ds, RdL M ds us
  | [], _ => ⟨[], RdL.nil M⟩
  | u :: us, h => by
    obtain ⟨d, hd⟩ := h u (List.mem_cons_self ..)
    obtain ⟨ds, hds⟩ := RdL.ex fun x hx => h x (List.mem_cons_of_mem _ hx)
    exact ⟨d :: ds, RdL.cons hd hds⟩

theorem weightsAll_mem {H : Type} {P : Program} {e : TypeId} {d : DataW H} : ∀ {l : List (DataW H)}, d ∈ l → ∀ n ∈ d.weights P e, n ∈ DataW.weightsAll P e l
  | x :: xs, hd, n, hn => by
    rw [DataW.weightsAll, List.mem_append]
    rcases List.mem_cons.1 hd with rfl | hd
    · exact .inl hn
    · exact .inr (weightsAll_mem hd n hn)

theorem glueF {M : Mem} {P : Program} (F : Field → List D → Prop) : ∀ (fs : List Field) (bs : List Nat) (off : Nat) (cs : List Value), contigB P off fs (off + cs.length) = true → bs.length = fs.length →
    (∀ (i : Nat) (f : Field) (b : Nat), fs[i]? = some f → bs[i]? = some b → ∃ ds, RdL M ds ((cs.drop (f.offset - off)).take (P.cellsOf f.type)) ∧ F f ds ∧ bulkDs ds ≤ b) → ∃ ds, RdL M ds cs ∧ (∀ f ∈ fs, F f ((ds.drop (f.offset - off)).take (P.cellsOf f.type))) ∧ bulkDs ds ≤ bs.sum := by
  intro fs
  induction fs with
  | nil =>
    intro bs off cs h _ _
    have := Nat.eq_of_beq_eq_true h
    have : cs = [] := List.eq_nil_of_length_eq_zero (by omega)
    subst this
    exact ⟨[], RdL.nil M, fun f hf => by simp at hf, by simp [bulkDs]⟩
  | cons g fs ih =>
    intro bs off cs h hbl hf
    simp only [contigB, Bool.and_eq_true] at h
    have h0 := Nat.eq_of_beq_eq_true h.1
    have h1 := contig_le h.2
    obtain ⟨b0, bs, rfl⟩ : ∃ b0 bs', bs = b0 :: bs' := by
      cases bs with
      | nil => simp at hbl
      | cons b0 bs' => exact ⟨b0, bs', rfl⟩
    obtain ⟨d0, r0, f0, q0⟩ := hf 0 g b0 rfl rfl
    rw [h0, Nat.sub_self, List.drop_zero] at r0
    have hd0 : d0.length = P.cellsOf g.type := by rw [← r0.1, List.length_take]; omega
    obtain ⟨ds, r1, f1, q1⟩ := ih bs (off + P.cellsOf g.type) (cs.drop (P.cellsOf g.type)) (by rw [List.length_drop, show off + P.cellsOf g.type + (cs.length - P.cellsOf g.type) = off + cs.length from by omega]; exact h.2) (by simpa using hbl) fun i f b hfi hbi => by
      obtain ⟨ds, r, ff, q⟩ := hf (i + 1) f b (by simpa using hfi) (by simpa using hbi)
      have := h1.2 f (List.mem_of_getElem? hfi)
      refine ⟨ds, ?_, ff, q⟩
      rw [List.drop_drop]
      rwa [show P.cellsOf g.type + (f.offset - (off + P.cellsOf g.type)) = f.offset - off from by omega]
    refine ⟨d0 ++ ds, ?_, fun f hfm => ?_, by rw [bulkDs_append, List.sum_cons]; omega⟩
    · have := r0.append r1
      rwa [List.take_append_drop] at this
    · rcases List.mem_cons.1 hfm with rfl | hfm
      · rw [h0, Nat.sub_self, List.drop_zero, ← hd0, List.take_left]
        exact f0
      · have := h1.2 f hfm
        have e := f1 f hfm
        rw [List.drop_append, List.drop_of_length_le (by omega), List.nil_append, hd0, show f.offset - off - P.cellsOf g.type = f.offset - (off + P.cellsOf g.type) from by omega]
        exact e

theorem flat_takeF : ∀ (l : List (List D)) (sz i : Nat) (hi : i < l.length), (∀ x ∈ l, x.length = sz) → ((l.flatten.drop (i * sz)).take sz) = l[i]
  | x :: xs, sz, 0, _, h => by
    have := h x (List.mem_cons_self ..)
    simp [← this]
  | x :: xs, sz, i + 1, hi, h => by
    have h0 := h x (List.mem_cons_self ..)
    have e : (x ++ xs.flatten).drop sz = xs.flatten := by rw [← h0]; exact List.drop_left
    rw [List.flatten_cons, Nat.succ_mul, Nat.add_comm, ← List.drop_drop, e, List.getElem_cons_succ]
    exact flat_takeF xs sz i (by simpa using hi) fun y hy => h y (List.mem_cons_of_mem _ hy)

section
variable {H : Type} {enc : TypeId × Value → H} {P : Program} {W : World}

/-- Readings of parts are put together. -/
theorem glue {M : Mem} (sz : Nat) (F : List D → Prop) : ∀ (bs : List Nat) (cs : List Value), cs.length = bs.length * sz → (∀ (i : Nat) (b : Nat), bs[i]? = some b → ∃ ds, RdL M ds ((cs.drop (i * sz)).take sz) ∧ F ds ∧ bulkDs ds ≤ b) →
    ∃ els : List (List D), els.length = bs.length ∧ RdL M els.flatten cs ∧ (∀ x ∈ els, F x) ∧ (∀ x ∈ els, x.length = sz) ∧ bulkDs els.flatten ≤ bs.sum := by
  intro bs
  induction bs with
  | nil =>
    intro cs hl _
    have : cs = [] := List.eq_nil_of_length_eq_zero (by simpa using hl)
    subst this
    exact ⟨[], rfl, RdL.nil M, fun x hx => by simp at hx, fun x hx => by simp at hx, by simp [bulkDs]⟩
  | cons b0 bs ih =>
    intro cs hl h
    have hls : sz ≤ cs.length := by rw [hl, List.length_cons, Nat.succ_mul]; omega
    obtain ⟨d0, r0, f0, q0⟩ := h 0 b0 rfl
    simp only [Nat.zero_mul, List.drop_zero] at r0
    obtain ⟨els, h1, h2, h3, h4, h5⟩ := ih (cs.drop sz) (by rw [List.length_drop, hl, List.length_cons, Nat.succ_mul]; omega) fun i b hi => by
      obtain ⟨ds, r, f, q⟩ := h (i + 1) b (by simpa using hi)
      refine ⟨ds, ?_, f, q⟩
      rw [List.drop_drop]
      rwa [show sz + i * sz = (i + 1) * sz from by rw [Nat.succ_mul]; omega]
    refine ⟨d0 :: els, by simp [h1], ?_, fun x hx => ?_, fun x hx => ?_, by rw [List.flatten_cons, bulkDs_append, List.sum_cons]; omega⟩
    · have := r0.append h2
      rwa [List.take_append_drop] at this
    · rcases List.mem_cons.1 hx with rfl | hx
      · exact f0
      · exact h3 x hx
    · rcases List.mem_cons.1 hx with rfl | hx
      · rw [← r0.1, List.length_take]; omega
      · exact h4 x hx

theorem flatten_len {sz : Nat} : ∀ {els : List (List D)}, (∀ x ∈ els, x.length = sz) → els.flatten.length = els.length * sz
  | [], _ => by simp
  | x :: xs, h => by
    rw [List.flatten_cons, List.length_append, h x (List.mem_cons_self ..), flatten_len fun y hy => h y (List.mem_cons_of_mem _ hy), List.length_cons, Nat.succ_mul, Nat.add_comm]

theorem open_cellsB {ts : List TypeId} {bulk : DataW H → Nat} (hbk : BulkOk bulk) (hcl : closedB P ts = true) : ∀ (n : Nat) (t : TypeId) (cs : List Value) (x : DataW H × List MemPlace), t ∈ ts →
    DataW.trod enc P W 0 (fun _ => true) true n t cs = some x → (∀ k ∈ x.1.weights P t, k ≤ reachBytes) → ∃ ds, RdL (memOf W) ds cs ∧ WT P n t ds ∧ bulkDs ds ≤ bulk x.1 := by
  intro n
  induction n with
  | zero => intro t cs x _ h; simp [DataW.trod] at h
  | succ n ih =>
    intro t cs x ht h hw
    have hc := List.all_eq_true.1 hcl t ht
    cases hu : P.underlying t with
    | none => simp [hu] at hc
    | some u =>
      rw [hu] at hc
      cases u with
      | bool =>
        obtain ⟨b, rfl, rfl⟩ := DataW.trod_bool hu h
        exact ⟨[.v (.bool b)], RdL.cons (by simp [Rd, Value.oneCell']) (RdL.nil _), by simp [WT, hu], hbk.lit _⟩
      | int k =>
        obtain ⟨z, rfl, rfl, hz⟩ := DataW.trod_int hu h
        exact ⟨[.v (.int k z)], RdL.cons (by simp [Rd, Value.oneCell']) (RdL.nil _), by simp [WT, hu, hz], hbk.lit _⟩
      | string =>
        obtain ⟨s, rfl, rfl, hs⟩ := DataW.trod_string hu h
        refine ⟨[.v (.string s)], RdL.cons (by simp [Rd, Value.oneCell']) (RdL.nil _), ?_, hbk.lit _⟩
        have := hw s.data.toList.length (by rw [DataW.weights]; exact List.mem_singleton.2 rfl)
        have h5 := reachBytes_lt
        have hsz : s.data.toList.length = s.size := by rw [Array.length_toList]; rfl
        simp only [WT, hu]
        exact ⟨s, rfl, by unfold lim; omega⟩
      | slice e =>
        simp only [Bool.and_eq_true, List.contains_iff_mem] at hc
        obtain ⟨he, hb⟩ := hc
        have hb : 0 < P.bytesOf e := by simpa [Nat.blt_eq] using hb
        rcases DataW.trod_slice hu h with ⟨rfl, rfl⟩ | ⟨a, len, cap, elems, rest, n', hn, rfl, rfl, _, hl, hm, hlen, hel, _, _⟩
        · refine ⟨[.sl 0 (P.cellsOf e) []], RdL.cons Rd.nilS (RdL.nil _), ?_, hbk.nil⟩
          simp only [WT, hu]
          exact ⟨[], rfl, Nat.zero_le _, fun x hx => by simp at hx⟩
        · obtain rfl : n' = n := by omega
          have hwl : len ≤ lim := by
            have := hw ((elems.map (·.1)).length + (rest.map (·.1)).length |> (· * P.bytesOf e)) (by simp [DataW.weights, hu])
            have h5 := reachBytes_lt
            have h6 : len ≤ ((elems.map (·.1)).length + (rest.map (·.1)).length) * P.bytesOf e := Nat.le_trans (by simp [hlen]) (Nat.le_mul_of_pos_right _ hb)
            simp only at this
            unfold lim; omega
          have each : ∀ i, (hi : i < len) → ∃ cs' ds, W.cells? 0 (a.add (i * P.cellsOf e)) (P.cellsOf e) = some cs' ∧ RdL (memOf W) ds cs' ∧ WT P n' e ds ∧ bulkDs ds ≤ bulk (elems[i]'(by omega)).1 := fun i hi => by
            have h1 := hel i hi
            have h2 : i < elems.length := by omega
            rw [List.getElem?_eq_getElem h2, Option.bind_eq_some_iff] at h1
            obtain ⟨cs', h3, h4⟩ := h1
            obtain ⟨ds, h5, h6, h7⟩ := ih e cs' _ he h4 fun k hk => hw k (by
              simp only [DataW.weights, hu, List.mem_cons, List.mem_append]
              exact .inr (.inl (weightsAll_mem (List.mem_map.2 ⟨_, List.getElem_mem h2, rfl⟩) k hk)))
            exact ⟨cs', ds, h3, h5, h6, h7⟩
          have hcell : ∀ q, q < len * P.cellsOf e → ∃ u, W.cell? (a.add q) = some u := fun q hq => by
            have hp : 0 < P.cellsOf e := by
              rcases Nat.eq_zero_or_pos (P.cellsOf e) with h | h
              · rw [h] at hq; omega
              · exact h
            have hi : q / P.cellsOf e < len := Nat.div_lt_of_lt_mul (by rw [Nat.mul_comm]; exact hq)
            obtain ⟨cs', ds, h1, _, _, _⟩ := each _ hi
            obtain ⟨_, h2, h3⟩ := World.cells?_some h1
            have hr : q % P.cellsOf e < P.cellsOf e := Nat.mod_lt _ hp
            have h4 := h3 _ hr
            rw [show (a.add (q / P.cellsOf e * P.cellsOf e)).add (q % P.cellsOf e) = a.add q from by
              have e1 : q / P.cellsOf e * P.cellsOf e + q % P.cellsOf e = q := by rw [Nat.mul_comm]; exact Nat.div_add_mod q _
              have := adr_add (some a) (q / P.cellsOf e * P.cellsOf e) (q % P.cellsOf e)
              rw [e1] at this
              exact this, List.getElem?_eq_getElem (by omega)] at h4
            exact ⟨_, h4⟩
          -- the cells as one list
          obtain ⟨row, hrl, hrow⟩ : ∃ row : List Value, row.length = len * P.cellsOf e ∧ ∀ q, q < len * P.cellsOf e → W.cell? (a.add q) = row[q]? := by
            refine ⟨(List.range (len * P.cellsOf e)).map fun q => (W.cell? (a.add q)).getD default, by simp, fun q hq => ?_⟩
            obtain ⟨u, hu'⟩ := hcell q hq
            simp [hq, hu']
          obtain ⟨els, k1, k2, k3, k4, k5⟩ := glue (M := memOf W) (P.cellsOf e) (WT P n' e) ((elems.map (·.1)).map bulk) row (by rw [hrl, List.length_map, List.length_map, hlen]) fun i b hbi => by
            obtain ⟨hi0, hb0⟩ := List.getElem?_eq_some_iff.1 hbi
            have hi : i < len := by simp at hi0; omega
            obtain ⟨cs', ds, h1, h2, h3, h7⟩ := each i hi
            have hb1 : bulk (elems[i]'(by omega)).1 = b := by rw [← hb0]; simp
            rw [hb1] at h7
            obtain ⟨_, h4, h5⟩ := World.cells?_some h1
            refine ⟨ds, ?_, h3, h7⟩
            have : (row.drop (i * P.cellsOf e)).take (P.cellsOf e) = cs' := by
              apply List.ext_getElem?
              intro j
              by_cases hj : j < P.cellsOf e
              · rw [List.getElem?_take_of_lt hj, List.getElem?_drop, ← h5 j hj]
                have hlt : i * P.cellsOf e + j < len * P.cellsOf e := by
                  have : (i + 1) * P.cellsOf e ≤ len * P.cellsOf e := Nat.mul_le_mul_right _ hi
                  rw [Nat.succ_mul] at this; omega
                rw [← hrow _ hlt]
                have := adr_add (some a) (i * P.cellsOf e) j
                show W.cell? (adr (some a) _) = _
                rw [← this]; rfl
              · rw [List.getElem?_eq_none (by simp; omega), List.getElem?_eq_none (by omega)]
            rw [this]; exact h2
          rw [List.length_map, List.length_map, hlen] at k1
          refine ⟨[.sl els.length (P.cellsOf e) els.flatten], RdL.cons ?_ (RdL.nil _), ?_, ?_⟩
          · simp only [Rd]
            refine ⟨some a, cap, by rw [k1], by omega, hm, by omega, flatten_len k4, fun _ => rfl, RdC.mk _ 0 fun k d hk => ?_⟩
            have hlt : k < row.length := by
              rw [k2.1]
              rcases Nat.lt_or_ge k els.flatten.length with h | h
              · exact h
              · rw [List.getElem?_eq_none h] at hk; cases hk
            refine ⟨row[k], ?_, k2.2 k d _ hk (List.getElem?_eq_getElem hlt)⟩
            rw [cellM_memOf, Nat.zero_add]
            exact (hrow k (by omega)).trans (List.getElem?_eq_getElem hlt)
          · simp only [WT, hu]
            exact ⟨els, rfl, by omega, k3⟩
          · have := hbk.slice (elems.map (·.1)) (rest.map (·.1))
            simp only [bulkDs, bulkD] at k5 ⊢
            omega
      | struct fs =>
        obtain ⟨xs, n', hn, rfl, hl, hxl, hf⟩ := DataW.trod_struct hu h
        obtain rfl : n' = n := by omega
        rw [Bool.and_eq_true] at hc
        have hca : ∀ f ∈ fs.toList, f.type ∈ ts := fun f hf => by
          have := List.all_eq_true.1 hc.2 f hf
          simpa using this
        have hwe : ∀ (l : List Field) (ys : List (DataW H)) (i : Nat) (f : Field) (d : DataW H), l[i]? = some f → ys[i]? = some d → ∀ k ∈ d.weights P f.type, k ∈ DataW.weightsEach P (l.map (·.type)) ys := by
          intro l
          induction l with
          | nil => intro ys i f d h1; simp at h1
          | cons g l ihl =>
            intro ys i f d h1 h2 k hk
            cases ys with
            | nil => simp at h2
            | cons y ys =>
              rw [List.map_cons, DataW.weightsEach, List.mem_append]
              cases i with
              | zero =>
                simp only [List.getElem?_cons_zero, Option.some.injEq] at h1 h2
                subst h1 h2; exact .inl hk
              | succ i => exact .inr (ihl ys i f d (by simpa using h1) (by simpa using h2) k hk)
        have each : ∀ (i : Nat) (f : Field) (b : Nat), fs.toList[i]? = some f → ((xs.map (·.1)).map bulk)[i]? = some b → ∃ ds, RdL (memOf W) ds ((cs.drop f.offset).take (P.cellsOf f.type)) ∧ WT P n' f.type ds ∧ bulkDs ds ≤ b := fun i f b hi hbi => by
          have hfm := List.mem_of_getElem? hi
          have h1 := hf i f (by simpa using hi)
          have hix : i < xs.length := by
            have := (List.getElem?_eq_some_iff.1 hi).1
            simp at this; omega
          rw [List.getElem?_eq_getElem hix] at h1
          have hb1 : bulk (xs[i]).1 = b := by
            have : ((xs.map (·.1)).map bulk)[i]? = some (bulk (xs[i]).1) := by simp [hix]
            rw [this] at hbi
            exact Option.some.inj hbi
          rw [← hb1]
          exact ih f.type _ _ (hca f hfm) h1 fun k hk => hw k (by
            simp only [DataW.weights, hu]
            exact hwe _ _ i f _ hi (by simp [hix]) k hk)
        obtain ⟨ds, k1, k2, k3⟩ := glueF (M := memOf W) (P := P) (fun f ds => WT P n' f.type ds) fs.toList ((xs.map (·.1)).map bulk) 0 cs (by rw [Nat.zero_add, hl]; exact hc.1) (by simp [hxl]) fun i f b hi hbi => by simpa using each i f b hi hbi
        refine ⟨ds, k1, ?_, Nat.le_trans k3 (hbk.agg _)⟩
        simp only [WT, hu]
        exact ⟨by rw [← k1.1]; exact hl, fun f hf => by simpa using k2 f hf⟩
      | array m e =>
        simp only [Bool.and_eq_true, List.contains_iff_mem] at hc
        obtain ⟨hc0, hc⟩ := hc
        have hc0 := Nat.eq_of_beq_eq_true hc0
        obtain ⟨xs, n', hn, rfl, hl, hxl, hf⟩ := DataW.trod_array hu h
        obtain rfl : n' = n := by omega
        have each : ∀ (i b : Nat), ((xs.map (·.1)).map bulk)[i]? = some b → ∃ ds, RdL (memOf W) ds ((cs.drop (i * P.cellsOf e)).take (P.cellsOf e)) ∧ WT P n' e ds ∧ bulkDs ds ≤ b := fun i b hbi => by
          obtain ⟨hi0, hb0⟩ := List.getElem?_eq_some_iff.1 hbi
          have hix : i < xs.length := by simpa using hi0
          have h1 := hf i (by omega)
          have hb1 : bulk (xs[i]).1 = b := by rw [← hb0]; simp
          rw [← hb1]
          rw [List.getElem?_eq_getElem hix] at h1
          exact ih e _ _ hc h1 fun k hk => hw k (by
            simp only [DataW.weights, hu]
            exact weightsAll_mem (List.mem_map.2 ⟨_, List.getElem_mem hix, rfl⟩) k hk)
        obtain ⟨els, k1, k2, k3, k4, k5⟩ := glue (M := memOf W) (P.cellsOf e) (WT P n' e) ((xs.map (·.1)).map bulk) cs (by rw [hl, hc0, List.length_map, List.length_map, hxl]) each
        rw [List.length_map, List.length_map, hxl] at k1
        refine ⟨els.flatten, k2, ?_, Nat.le_trans k5 (hbk.agg _)⟩
        simp only [WT, hu]
        refine ⟨by rw [← k2.1]; exact hl, fun i hi => ?_⟩
        have hi' : i < els.length := by omega
        have e2 : ∀ (l : List (List D)) (sz i : Nat) (hi : i < l.length), (∀ x ∈ l, x.length = sz) → ((l.flatten.drop (i * sz)).take sz) = l[i] := fun l sz i hi hall => by
          have := flat_takeF l sz i hi hall
          exact this
        rw [e2 els _ i hi' k4]
        exact k3 _ (List.getElem_mem hi')
      | _ => simp at hc
end

/-! ### Arguments of a law -/
/-- The cells of a value that is no array's, no struct's element: as it stands in a slot. -/
def SlotOf (P : Program) (t : TypeId) (us : List Value) (v : Value) : Prop := match P.underlying t with
  | some (.struct _) => v = .agg us.toArray
  | some (.array ..) => v = .agg us.toArray
  | _ => us = [v]

/-- .. each of so many cells at the most. -/
inductive ArgsB (P : Program) (M : Mem) (b : Nat) : List TypeId → List Value → Prop
  | nil : ArgsB P M b [] []
  | cons {t : TypeId} {ts : List TypeId} {v : Value} {vs : List Value} (n : Nat) (ds : List D) (us : List Value) : RdL M ds us → WT P n t ds → SlotOf P t us v → bulkDs ds ≤ b → ArgsB P M b ts vs → ArgsB P M b (t :: ts) (v :: vs)
theorem ArgsB.inv {P : Program} {M : Mem} {b : Nat} {t : TypeId} {ts : List TypeId} {vs : List Value} (h : ArgsB P M b (t :: ts) vs) :
    ∃ n ds us v vs', vs = v :: vs' ∧ RdL M ds us ∧ WT P n t ds ∧ SlotOf P t us v ∧ bulkDs ds ≤ b ∧ ArgsB P M b ts vs' := by
  cases h with
  | cons n ds us h1 h2 h3 h4 h5 => exact ⟨n, ds, us, _, _, rfl, h1, h2, h3, h4, h5⟩
theorem ArgsB.nil_inv {P : Program} {M : Mem} {b : Nat} {vs : List Value} (h : ArgsB P M b [] vs) : vs = [] := by cases h; rfl
inductive ArgsW (P : Program) (M : Mem) : List TypeId → List Value → Prop
  | nil : ArgsW P M [] []
  | cons {t : TypeId} {ts : List TypeId} {v : Value} {vs : List Value} (n : Nat) (ds : List D) (us : List Value) : RdL M ds us → WT P n t ds → SlotOf P t us v → ArgsW P M ts vs → ArgsW P M (t :: ts) (v :: vs)

theorem ArgsW.inv {P : Program} {M : Mem} {t : TypeId} {ts : List TypeId} {vs : List Value} (h : ArgsW P M (t :: ts) vs) :
    ∃ n ds us v vs', vs = v :: vs' ∧ RdL M ds us ∧ WT P n t ds ∧ SlotOf P t us v ∧ ArgsW P M ts vs' := by
  cases h with
  | cons n ds us h1 h2 h3 h4 => exact ⟨n, ds, us, _, _, rfl, h1, h2, h3, h4⟩
theorem ArgsB.toW {P : Program} {M : Mem} {b : Nat} {ts : List TypeId} {vs : List Value} (h : ArgsB P M b ts vs) : ArgsW P M ts vs := by
  induction h with
  | nil => exact .nil
  | cons n ds us h1 h2 h3 _ _ ih => exact .cons n ds us h1 h2 h3 ih
theorem ArgsW.nil_inv {P : Program} {M : Mem} {vs : List Value} (h : ArgsW P M [] vs) : vs = [] := by cases h; rfl

section
variable {H : Type} {enc : TypeId × Value → H} {P : Program} {W : World}
theorem argsB_of {ts0 : List TypeId} {bulk : DataW H → Nat} (hbk : BulkOk bulk) (bd : Nat) (hcl : closedB P ts0 = true) (hl : laidOutB P = true) :
    ∀ (ts : List TypeId) (vs : List Value) (ds : List (DataW H)) (p : List MemPlace), DataW.TrodAll enc P W 0 (fun _ => true) true ts vs ds p → (∀ t ∈ ts, t ∈ ts0 ∧ P.readableRec t = true ∧ t < P.types.size) →
    (∀ (j : Nat) t v, ts[j]? = some t → vs[j]? = some v → ∃ b, Value.okWide P W .any b t v) → (∀ k ∈ DataW.weightsEach P ts ds, k ≤ reachBytes) → (∀ d ∈ ds, bulk d ≤ bd) →
    ArgsB P (memOf W) bd ts vs ∧ ∀ (W' : World) (sp : Nat → Bool), Below W.heap.size W W' → (∀ q ∈ p, q.block < W.heap.size) → (∀ q ∈ p, sp q.block = true) → DataW.TrodAll enc P W' 0 sp true ts vs ds p
  | [], vs, ds, p, h, _, _, _, _ => by
    obtain ⟨rfl, rfl, rfl⟩ := trodAll_nil h
    exact ⟨.nil, fun _ _ _ _ _ => rfl⟩
  | t :: ts, vs, ds, p, h, hts, hval, hsz, hbd => by
    obtain ⟨v, vs1, d, ds1, pa, pb, rfl, rfl, rfl, h1, h2⟩ := trodAll_cons h
    rw [DataW.weightsEach] at hsz
    obtain ⟨h3, h4⟩ := argsB_of hbk bd hcl hl ts vs1 ds1 pb h2 (fun x hx => hts x (List.mem_cons_of_mem _ hx)) (fun j x y hx hy => hval (j + 1) x y (by simpa using hx) (by simpa using hy)) (fun k hk => hsz k (List.mem_append_right _ hk)) (fun x hx => hbd x (List.mem_cons_of_mem _ hx))
    obtain ⟨b, hv⟩ := hval 0 t v rfl rfl
    obtain ⟨ht0, hr, hrow⟩ := hts t (List.mem_cons_self ..)
    obtain ⟨n, hn⟩ := h1
    obtain ⟨es, k1, k2, k3⟩ := open_cellsB hbk hcl n t _ _ ht0 hn fun k hk => hsz k (List.mem_append_left _ hk)
    refine ⟨.cons n es v.cells.toList k1 k2 ?_ (Nat.le_trans k3 (hbd _ (List.mem_cons_self ..))) h3, fun W' sp hB hlt hq => ⟨pa, pb, WideElems.Trod_stays hl hr hrow ⟨n, hn⟩ (fun x hx => hB.same (hlt x (List.mem_append_left _ hx))) (fun x hx => hq x (List.mem_append_left _ hx)),
      h4 W' sp hB (fun x hx => hlt x (List.mem_append_right _ hx)) (fun x hx => hq x (List.mem_append_right _ hx)), rfl⟩⟩
    have hc := List.all_eq_true.1 hcl t ht0
    unfold SlotOf
    cases hu : P.underlying t with
    | none => simp [hu] at hc
    | some u =>
      rw [hu] at hc
      cases u with
      | bool => obtain ⟨b, rfl⟩ := okWide_bool hu hv; rfl
      | int k => obtain ⟨z, rfl⟩ := okWide_int hu hv; rfl
      | string => obtain ⟨s, rfl⟩ := okWide_string hu hv; rfl
      | slice e => obtain ⟨a, n, c, rfl⟩ := okWide_slice hu hv; rfl
      | struct fs => obtain ⟨cs, rfl, _⟩ := okWide_struct hu hv; simp [Value.cells]
      | array m e =>
        simp only [Value.okWide, hu] at hv
        obtain ⟨cs, rfl, _⟩ := hv
        simp [Value.cells]
      | _ => simp at hc
end

/-- A law's call, its arguments of so many cells at the most. -/
theorem law_core {H : Type} {enc : TypeId × Value → H} {C : Checked} {f : FuncId} {fn : Func} {s : ChangeSpec} {tb : TypeId} {fresh handsOn again : Bool} {bulk : DataW H → Nat} (hbk : BulkOk bulk) (bd : Nat) (ts0 : List TypeId)
    (hcl : closedB C.prog ts0 = true) (hl : laidOutB C.prog = true) (htb : C.prog.underlying tb = some .bool)
    (hts : (fn.params.toList.all fun t => ts0.contains t && C.prog.readableRec t && Nat.blt t C.prog.types.size) = true) (hres : fn.resultTypes = #[tb]) (hvars : s.vars = []) (hspec : ∀ ds : List (DataW H), ds.length = fn.params.toList.length → s.fn H ds = { results := [.lit (.bool true)], args := ds, vars := [] })
    {W : World} {base : Nat} {args : Array Value} {ds gs : List (DataW H)} {before : List MemPlace} (hval : ∀ (j : Nat) t v, fn.params[j]? = some t → args[j]? = some v → Value.okWide C.prog W .any base t v)
    (hW : DataW.Whole enc C.prog fn.params.toList s.vars false W args.toList ds gs before) (hsz : (DataW.weightsEach C.prog (fn.params.toList ++ s.plain.varTypes C.prog) (ds ++ gs)).all (· ≤ reachBytes) = true) (hbd : ∀ d ∈ ds, bulk d ≤ bd)
    (contract : ∀ vs : List Value, ArgsB C.prog (memOf W) bd fn.params.toList vs → CallOk C.prog W (memOf W) [] f vs.toArray (Is (memOf W) [] (.bool true))) :
    Calls C.prog f args W fun e W' => ∃ v, e = .returned v ∧ s.post enc C.prog fn false fresh handsOn again W args v W' := by
  have hW' := hW
  obtain ⟨p, q, hA, hV, hb, hfz, hnd⟩ := hW
  rw [hvars] at hV
  obtain ⟨rfl, rfl⟩ := trodVars_none hV
  have hvt : s.plain.varTypes C.prog = [] := by
    have : s.plain.vars = [] := hvars
    unfold DataSpec.varTypes
    rw [this]; rfl
  rw [hvt, List.append_nil, List.append_nil] at hsz
  have hts' : ∀ t ∈ fn.params.toList, t ∈ ts0 ∧ C.prog.readableRec t = true ∧ t < C.prog.types.size := fun t ht => by
    have := List.all_eq_true.1 hts t ht
    simp only [Bool.and_eq_true, List.contains_iff_mem] at this
    exact ⟨this.1.1, this.1.2, by simpa [Nat.blt_eq] using this.2⟩
  obtain ⟨h1, h2⟩ := argsB_of (enc := enc) hbk bd hcl hl fn.params.toList args.toList ds p hA hts' (fun j t v ht hv => ⟨base, hval j t v (by simpa using ht) (by simpa using hv)⟩) (fun k hk => by
    have := List.all_eq_true.1 hsz k hk
    simpa using this) hbd
  have hlen : ds.length = fn.params.toList.length := by
    have : ∀ (ts : List TypeId) (vs : List Value) (ds : List (DataW H)) (p : List MemPlace), DataW.TrodAll enc C.prog W 0 (fun _ => true) true ts vs ds p → ds.length = ts.length := by
      intro ts
      induction ts with
      | nil => intro vs ds p h; obtain ⟨_, rfl, _⟩ := trodAll_nil h; rfl
      | cons t ts ih =>
        intro vs ds p h
        obtain ⟨v, vs1, d, ds1, a, b, rfl, rfl, rfl, _, h2⟩ := trodAll_cons h
        simp [ih _ _ _ h2]
    exact this _ _ _ _ hA
  refine (contract args.toList h1 W (st_start W)).mono ?_
  rintro e' W' ⟨v, M', Γ', rfl, ⟨rfl, rfl, rfl⟩, hw'⟩
  refine ⟨_, rfl, ?_⟩
  have hB := below_of hw'
  have hfn' := hspec ds hlen
  have hlt : ∀ x ∈ p, x.block < W.heap.size := fun x hx => hW'.lt x (by rw [hb]; exact List.mem_append_left _ hx)
  refine post_below (pa := p) (pv := []) hW' (fun b sp hd => ?_) (fun sp hsp => ?_) (fun sp _ => ?_) (by rw [hb]) hB (fun j t r hj hr => ?_)
  · rw [List.append_nil, hfn', hres]
    exact trodAll_mk1 (shut_bool htb true)
  · rw [List.append_nil, hfn']
    exact h2 W' sp hB hlt fun q hq => hsp q (by rw [hb, List.append_nil]; exact hq)
  · rw [List.append_nil, hfn', hvars]
    rfl
  · rw [hres] at hj hr
    have hj0 : j = 0 := by
      rcases Nat.eq_zero_or_pos j with h | h
      · exact h
      · rw [Array.getElem?_eq_none (by simp; omega)] at hj; cases hj
    subst hj0
    simp [Value.resultList] at hj hr
    subst hj hr
    exact okWide_bool_mk htb true
theorem sizeOf_sum {H : Type} : ∀ l : List (DataW H), (l.map SizeOf.sizeOf).sum + 1 ≤ SizeOf.sizeOf l
  | [] => by simp
  | x :: xs => by have := sizeOf_sum xs; simp only [List.map_cons, List.sum_cons, List.cons.sizeOf_spec]; omega
theorem bulk_sizeOf {H : Type} : BulkOk (H := H) SizeOf.sizeOf := ⟨fun l => by simp, by simp, fun els sp => by have := sizeOf_sum els; simp only [DataW.slice.sizeOf_spec]; omega, fun ps => by have := sizeOf_sum ps; simp only [DataW.agg.sizeOf_spec]; omega⟩
theorem le_sum {α : Type} (g : α → Nat) : ∀ {l : List α} {x : α}, x ∈ l → g x ≤ (l.map g).sum
  | y :: ys, x, h => by
    rw [List.map_cons, List.sum_cons]
    rcases List.mem_cons.1 h with rfl | h
    · omega
    · have := le_sum g h; omega
end Xe

/-
  THE ENGINE, PART R: facts found in what is known of the state; sums that may run over. No program in sight.
-/
namespace Xe
open Go

/-- What holds in whatever such state. -/
def Kn (w0 : World) (M : Mem) (Γ : List As) (F : Prop) : Prop := ∀ w, St w0 M Γ w → F
section
variable {P : Program} {w0 : World} {M : Mem} {Γ : List As} {F : Prop}
theorem Kn.rds {ds : List D} {us : List Value} (h : As.rds ds us ∈ Γ) : Kn w0 M Γ (RdL M ds us) := fun _ hw => hw.all _ h
theorem Kn.rd {d : D} {u : Value} (h : As.rd d u ∈ Γ) : Kn w0 M Γ (Rd M d u) := fun _ hw => hw.all _ h
theorem Kn.via {Γ' : List As} (hC : ∀ w, St w0 M Γ' w → St w0 M Γ w) (h : Kn w0 M Γ F) : Kn w0 M Γ' F := fun w hw => h w (hC w hw)
theorem Kn.of (h : F) : Kn w0 M Γ F := fun _ _ => h
theorem CallOk.kn {f : FuncId} {args : Array Value} {R : Post} (h : Kn w0 M Γ F) (k : F → CallOk P w0 M Γ f args R) : CallOk P w0 M Γ f args R := fun w hw => k (h w hw) w hw
theorem CallOk.perm {Γ' : List As} {f : FuncId} {args : Array Value} {R : Post} (hp : List.Perm Γ Γ') (h : CallOk P w0 M Γ' f args R) : CallOk P w0 M Γ f args R := fun w hw => h w (hw.perm hp)
theorem CW.kn {n : Nat} {c : Code} {X : Pst} {L : Lm} (h : Kn w0 M Γ F) (k : F → CW P n w0 c X L M Γ) : CW P n w0 c X L M Γ := CW.know h k
theorem RL.kn {n : Nat} {ops : Array Oper} {rest : List Oper} {L : Lm} {K : Lm → Mem → List As → Prop} (h : Kn w0 M Γ F) (k : F → RL P n w0 ops rest L M Γ K) : RL P n w0 ops rest L M Γ K := RL.know h k
theorem QL.kn {n : Nat} {ops : Array Oper} {C0 : List As} {rest : List Oper} {L : Lm} {K : Lm → List As → Prop} (h : Kn w0 M Γ F) (k : F → QL P n w0 ops C0 M rest L Γ K) : QL P n w0 ops C0 M rest L Γ K := QL.know h k
theorem RL.addRds {n : Nat} {ops : Array Oper} {rest : List Oper} {L : Lm} {K : Lm → Mem → List As → Prop} {es : List D} {us : List Value} (hr : RdL M es us) (h : RL P n w0 ops rest L M (.rds es us :: Γ) K) : RL P n w0 ops rest L M Γ K :=
  h.pre (fun _ _ h => h) fun _ hw => hw.add (x := .rds es us) hr rfl
theorem Turn.addRds {G : Mem → List As → Prop} {es : List D} {us : List Value} (hr : RdL M es us) (h : Turn w0 M (.rds es us :: Γ) G) : Turn w0 M Γ G := fun w hw => h w (hw.add (x := .rds es us) hr rfl)
theorem Turn.kn {G : Mem → List As → Prop} (h : Kn w0 M Γ F) (k : F → Turn w0 M Γ G) : Turn w0 M Γ G := fun w hw => k (h w hw) w hw
/-- A struct that is known by what it reads as, into a block of its own. -/
theorem RL.storeRds {n : Nat} {ops : Array Oper} {rest : List Oper} {L : Lm} {K : Lm → Mem → List As → Prop} {ty : TypeId} {pos : String} {af : Array Edge} {t : TypeId} {x y : Operand} {b e : Nat} {cs vs : List Value} {ds : List D} {Γ' : List As} (sz : Nat) (hx : evL L x = some (.pointer (some (adr (some ⟨b, 0, none⟩) 0)))) (hy : evL L y = some (.agg vs.toArray))
    (hr : Repl (.own b e cs) (.own b e vs) Γ Γ') (hm : As.rds ds vs ∈ Γ) (hd : ds.length = sz) (hc : Kn w0 M Γ (cs.length = sz)) (ht : sizeB P t sz = true)
    (h : RL P n w0 ops rest L M Γ' K) : RL P n w0 ops (⟨none, .store t x y, ty, pos, af, none⟩ :: rest) L M Γ K := by
  refine RL.kn (Kn.rds hm) fun hv => RL.kn hc fun hcs => ?_
  have hl : vs.length = sz := by rw [hv.1, hd]
  exact RL.storeAgg vs hx hy hr (by simp [hl, hcs]) (by omega) (fun _ _ => hv.one) (by rw [hl]; exact ht) h
theorem Kn.lenRds {ds : List D} {us : List Value} {sz : Nat} (h : As.rds ds us ∈ Γ) (hd : ds.length = sz) : Kn w0 M Γ (us.length = sz) := fun _ hw => by
  have := (hw.all _ h : RdL M ds us).1
  rw [this, hd]
theorem Kn.lenLit {us : List Value} {sz : Nat} (h : us.length = sz) : Kn w0 M Γ (us.length = sz) := fun _ _ => h
end

theorem wanted_undef {n : Nat} {L : Lm} {a : Act} {ops : Array Oper} {op : Op} {ty : TypeId} {pos : String} {after : Array Edge} {j : Nat} {want : Bool} {d : Option Nat} {t : Nat} (ha : Sat n L a) (ht : (ops[j]?).bind (·.dst) = some t) (hu : getL L t = some undef) : Region.wanted (⟨d, op, ty, pos, after, some (j, want)⟩ : Oper) (yielded ops a.tmps) = false := by
  have := ha.get t _ hu
  simp only [Region.wanted, yielded, ht, Option.bind_some, this]
  rfl
theorem RL_noU {P : Program} {n : Nat} {w0 : World} {ops : Array Oper} {rest : List Oper} {L : Lm} {M : Mem} {Γ : List As} {K : Lm → Mem → List As → Prop} {op : Op} {ty : TypeId} {pos : String} {after : Array Edge} {j : Nat} {want : Bool} {d t : Nat} (ht : (ops[j]?).bind (·.dst) = some t) (hu : getL L t = some undef) (hd : Nat.blt d n = true)
    (h : RL P n w0 ops rest ((d, undef) :: L) M Γ K) : RL P n w0 ops (⟨some d, op, ty, pos, after, some (j, want)⟩ :: rest) L M Γ K := by
  intro R hR a w ha hw
  have hn := wanted_undef (op := op) (ty := ty) (pos := pos) (after := after) (want := want) (d := some d) ha ht hu
  unfold wpList
  rw [if_neg (by rw [hn]; simp)]
  exact h R hR _ _ (ha.put hd) hw
/-- Cells that are known in whatever such state. -/
def CellsK (w0 : World) (M : Mem) (Γ : List As) (p : Addr) (vs : List Value) : Prop := ∀ w, St w0 M Γ w → ∀ j v, vs[j]? = some v → w.cell? (p.add j) = some v
theorem CellsK.own {w0 : World} {M : Mem} {Γ : List As} {b e : Nat} {vs : List Value} (h : As.own b e vs ∈ Γ) : CellsK w0 M Γ (adr (some ⟨b, 0, none⟩) 0) vs := fun w hw j v hj => by
  rw [adr_add]
  have := hw.own_cell h hj
  simpa using this
theorem CellsK.mono {w0 : World} {M : Mem} {Γ Γ' : List As} {p : Addr} {vs : List Value} (h : CellsK w0 M Γ p vs) (hs : ∀ w, St w0 M Γ' w → St w0 M Γ w) : CellsK w0 M Γ' p vs := fun w hw => h w (hs w hw)
theorem Y.loadK {P : Program} {w0 : World} {L : Lm} {M : Mem} {Γ : List As} {d : Option Nat} {ty : TypeId} {pos : String} {af : Array Edge} {g : Option (Nat × Bool)} {x : Operand} {t : TypeId} {p : Addr} {vs : List Value} (hx : evL L x = some (.pointer (some p))) (hc : CellsK w0 M Γ p vs) (hf : aggB P t vs.length = true) :
    Yq P w0 L M Γ ⟨d, .load t x, ty, pos, af, g⟩ (.agg vs.toArray) := Y.loadAgg hx hf hc

/-- A beginning of a slice that is only read. -/
theorem Rd.takeN {M : Mem} {α : Type} {enc : α → List D} {sz : Nat} (he : ∀ x, (enc x).length = sz) {l : List α} {a : Option Addr} {c : Nat} (hr : Rd M (.sl l.length sz (l.flatMap enc)) (.slice a l.length c)) (k : Nat) (hk : k ≤ l.length) :
    Rd M (.sl (l.take k).length sz ((l.take k).flatMap enc)) (.slice a (l.take k).length c) := by
  have hc : l.length ≤ c := by obtain ⟨a', c', h1, h2, _⟩ := hr.slice; simp only [Value.slice.injEq] at h1; omega
  have h := Rd.cut hr 0 k c (Nat.zero_le _) (by omega) (Nat.le_refl _) hk
  rw [cut0, Nat.zero_mul, List.drop_zero, Nat.sub_zero] at h
  have hl : (l.take k).length = k := by rw [List.length_take]; omega
  rw [flat_takeN he] at h
  rw [hl]
  exact h

theorem enterCell3 {P : Program} {f : FuncId} {fn : Func} {c : Code} {args : List Value} {w0 : World} {M : Mem} {Γ : List As} {R : Post} {r s1 s2 n : Nat} {t : TypeId}
    (hf : P.funcs[f]? = some fn) (hb : fn.body = some c) (hn : fn.ntmps = n) (hr : fn.results = #[.cell r t, .tmp s1, .tmp s2]) (ha : Nat.ble args.length n = true)
    (h : ∀ w1, St w0 M Γ w1 → CW P n w0 c (fun e L M Γ => match e with
      | .ret | .normal => ∃ v1 v2, getL L s1 = some v1 ∧ getL L s2 = some v2 ∧ CellAt P w0 r t L M Γ (fun u => R (.tuple #[u, v1, v2]))
      | _ => False) (slotsOf 0 args) M Γ) : CallOk P w0 M Γ f args.toArray R := by
  intro w hw
  refine calls_of_wp hf hb ?_
  rw [hn]
  refine wp_mono (h w hw _ w (sat_start n args ha) hw) ?_
  rintro e a w' ⟨L, M1, Γ1, hX, h1, h2⟩
  cases e with
  | normal | ret =>
    obtain ⟨v1, v2, hs1, hs2, b, e, cs, hv, hm, hag, hi⟩ := hX
    obtain ⟨M', Γ', hR, hw'⟩ := hi w' h2
    refine ⟨h1.defers, .tuple #[.agg cs.toArray, v1, v2], ?_, _, M', Γ', rfl, hR, hw'⟩
    have e1 := h1.get r _ hv
    have f1 := h1.get s1 _ hs1
    have f2 := h1.get s2 _ hs2
    simp [results, hr, e1, f1, f2, asAddr, run_loadOwn h2 hm hag]
  | _ => exact hX.elim
def w64 (z : Int) : Int := IntKind.i64.wrap z
theorem w64_eq (z : Int) : w64 z = (z + 9223372036854775808) % 18446744073709551616 - 9223372036854775808 := by
  unfold w64 IntKind.wrap
  simp only [IntKind.signed, IntKind.bits]
  simp
  split <;> omega
theorem w64_add (a b : Int) : w64 (w64 a + b) = w64 (a + b) := by simp only [w64_eq]; omega
theorem w64_add2 (a b : Int) : w64 (a + w64 b) = w64 (a + b) := by simp only [w64_eq]; omega
theorem w64_in {z : Int} (h : -9223372036854775808 ≤ z ∧ z ≤ 9223372036854775807) : w64 z = z := by rw [w64_eq]; omega
section
variable {P : Program} {w0 : World} {L : Lm} {M : Mem} {Γ : List As} {d : Option Nat} {ty : TypeId} {pos : String} {af : Array Edge} {g : Option (Nat × Bool)}
namespace Y
/-- The whole of a block of the call's own, known by what it reads as. -/
theorem loadAllR {x : Operand} {t : TypeId} {b e : Nat} {us : List Value} {ds : List D} {sz : Nat} (hx : evL L x = some (.pointer (some (adr (some ⟨b, 0, none⟩) 0)))) (hm : As.own b e us ∈ Γ) (hr : As.rds ds us ∈ Γ) (hl : ds.length = sz) (hf : aggB P t sz = true) :
    Yq P w0 L M Γ ⟨d, .load t x, ty, pos, af, g⟩ (.agg us.toArray) := fun n a w ha hw => by
  have h1 : RdL M ds us := hw.all _ hr
  exact Y.loadAll (sz := sz) hx hm (by rw [h1.1, hl]) hf n a w ha hw
theorem addW {x y : Operand} {m k : Int} {t : TypeId} (hx : evL L x = some (.int .i64 m)) (hy : evL L y = some (.int .i64 k)) :
    Yq P w0 L M Γ ⟨d, .binOp .add t x y t, ty, pos, af, g⟩ (.int .i64 (w64 (m + k))) := fun n a w ha _ => by
  simp [execOp, ha.ev hx, ha.ev hy, eqGuard, Go.binOp, Op.intArith, w64]
end Y
end
/-! ### Short names of searches -/
theorem MM {α : Type} {x : α} {l : List α} (h : x ∈ l := by first | ((repeat (first | exact List.Mem.head _ | apply List.Mem.tail | apply List.mem_append_right)); done) | fail) : x ∈ l := h
theorem RP {x x' : As} {l l' : List As} (h : Repl x x' l l' := by first | ((repeat (first | exact Repl.here _ | apply Repl.there)); done) | fail) : Repl x x' l l' := h
theorem PK {x : As} {l l' : List As} (h : Pick x l l' := by first | ((repeat (first | exact Pick.here _ | apply Pick.there)); done) | fail) : Pick x l l' := h
theorem SB {l l' : List As} (h : List.Sublist l l' := by first | ((repeat (first | exact List.Sublist.refl _ | apply List.Sublist.cons_cons | apply List.Sublist.cons)); done) | fail) : List.Sublist l l' := h
theorem KR {p : Prop} (h : p := by kernel_rfl) : p := h
theorem WG {ops : Array Oper} {L : Lm} {o : Oper} {b : Bool} (h : Want ops L o b := by exact ⟨_, _, rfl, rfl, rfl⟩) : Want ops L o b := h
theorem AO {p : Prop} (h : p := by first | assumption | omega) : p := h
theorem OM {p : Prop} (h : p := by omega) : p := h
theorem SM {w0 : World} {M : Mem} {Γ : List As} {a : Option Addr} (h : ∀ w, St w0 M Γ w → a.isSome = true := by first | exact fun _ hw => hw.rd_some MM (by omega) | exact fun _ hw => (hw.acc_cell MM (by assumption)).1 | exact fun _ _ => rfl) : ∀ w, St w0 M Γ w → a.isSome = true := h
/-- Such slots, by their numbers. -/
def selL (L : Lm) : List Nat → Option Lm
  | [] => some []
  | k :: ks => match getL L k with
    | some v => match selL L ks with
      | some r => some ((k, v) :: r)
      | none => none
    | none => none
theorem Keep.sel {L : Lm} : ∀ {ks : List Nat} {L' : Lm}, selL L ks = some L' → Keep L L'
  | [], L', h => by simp only [selL, Option.some.injEq] at h; subst h; exact Keep.nil L
  | k :: ks, L', h => by
    simp only [selL] at h
    cases hv : getL L k with
    | none => rw [hv] at h; cases h
    | some v =>
      rw [hv] at h
      cases hr : selL L ks with
      | none => rw [hr] at h; cases h
      | some r =>
        rw [hr] at h
        obtain rfl := Option.some.inj h
        exact Keep.cons k hv (Keep.sel hr)
theorem CW.kp {P : Program} {n : Nat} {w0 : World} {c : Code} {X : Pst} {L L' : Lm} {M : Mem} {Γ : List As} (ks : List Nat) (hs : selL L ks = some L') (h : CW P n w0 c X L' M Γ) : CW P n w0 c X L M Γ := CW.keep (Keep.sel hs) h
theorem KP {L L' : Lm} (ks : List Nat) (hs : selL L ks = some L' := by rfl) : Keep L L' := Keep.sel hs
end Xe

/-
  THE ENGINE, PART S: bytes and words, labels without a jump, room that is asked for. No program in sight.
-/
namespace Xe
open Go

/-! ### Labels -/
def noGotoX (X : Pst) : Pst
  | .goto _, _, _, _ => False
  | e, L, M, Γ => X e L M Γ
theorem CW.scope {P : Program} {n : Nat} {w0 : World} {X : Pst} {L : Lm} {M : Mem} {Γ : List As} {c : Code} (h : CW P n w0 c (noGotoX X) L M Γ) : CW P n w0 (.scope c) X L M Γ := by
  intro a w ha hw
  refine wp_scope_straight (wp_mono (h a w ha hw) ?_)
  rintro e a w ⟨L, M, Γ, hX, h1, h2⟩
  cases e <;> first | exact hX.elim | exact ⟨L, M, Γ, hX, h1, h2⟩

section
variable {P : Program} {w0 : World} {L : Lm} {M : Mem} {Γ : List As} {d : Option Nat} {ty : TypeId} {pos : String} {af : Array Edge} {g : Option (Nat × Bool)}
namespace Y
def intB (P : Program) (t : TypeId) (k : IntKind) : Bool := match P.underlying t with
  | some (.int k') => decide (k' = k)
  | _ => false
theorem intB_spec {t : TypeId} {k : IntKind} (h : intB P t k = true) : P.underlying t = some (.int k) := by
  unfold intB at h
  cases hu : P.underlying t with
  | none => simp [hu] at h
  | some dd =>
    rw [hu] at h
    cases dd <;> simp at h
    rw [h]
end Y
end
abbrev vbyte (n : Nat) : Value := .int .u8 (n : Int)
abbrev dbyte (n : Nat) : D := .v (.int .u8 (n : Int))
abbrev vword (n : Nat) : Value := .int .u64 (n : Int)
abbrev byteV (l : List Nat) : List Value := l.map vbyte
def dbytes (l : List Nat) : D := .sl l.length 1 (l.map dbyte)
/-- A byte, or what is left to 255. -/
def flip8 (f a : Nat) : Nat := if f = 0 then a else 255 - a
section
variable {P : Program} {w0 : World} {L : Lm} {M : Mem} {Γ : List As} {d : Option Nat} {ty : TypeId} {pos : String} {af : Array Edge} {g : Option (Nat × Bool)}
namespace Y
end Y
end

/-! ### Room -/
theorem append_zeros {P : Program} {w0 w : World} {M : Mem} {Γ : List As} {t tn ty e sz bytes n : Nat} {kn : IntKind} (hE : ElemOk P t e sz bytes) (htn : P.underlying tn = some (.int kn)) (hw : St w0 M Γ w) (h0 : 0 < n) (hb : n * bytes ≤ 140737488355328) (hm : n ≤ lim) :
    ∃ b c us w', (Builtin.append_ #[t, tn] ty #[.slice none 0 0, .int .i64 n]).run P w = .ok (.slice (some ⟨b, 0, none⟩) n c) w' ∧ us.length = n * sz ∧ n ≤ c ∧ St w0 M (.acc (.slice (some ⟨b, 0, none⟩) n c) e sz n us :: Γ) w' := by
  obtain ⟨ht, ⟨i, z, hi, hz, hsize, hby, hzs⟩, hpos⟩ := hE
  subst hsize hby
  have hlm : lim = 140737488355328 := rfl
  have hr := Lib.run_append_nil_zeros (P := P) w t tn ty e i z .i64 kn ht htn hi hz n h0 hpos (by omega) (by omega)
  have hc1 := grownCap_ge w n 0 e
  have hc2 := grownCap_le_maxLen w n 0 e (by unfold maxLen; omega)
  refine ⟨w.heap.size, grownCap w n 0 e, (Builtin.zeroCells z.cells n).toList, _, hr, by rw [Array.length_toList, size_zeroCells, hzs], hc1, ?_⟩
  have h5 := (hw.draw (w.drawn + 1)).alloc e (Builtin.zeroCells z.cells n ++ Builtin.zeroCells z.cells (grownCap w n 0 e - n)).toList
  have h6 : St w0 M (.own w.heap.size e (Builtin.zeroCells z.cells n ++ Builtin.zeroCells z.cells (grownCap w n 0 e - n)).toList :: Γ) (w.drew.alloc (.cells (Builtin.zeroCells z.cells n ++ Builtin.zeroCells z.cells (grownCap w n 0 e - n)) e (0, 0))) := by
    have : (Builtin.zeroCells z.cells n ++ Builtin.zeroCells z.cells (grownCap w n 0 e - n)).toList.toArray = (Builtin.zeroCells z.cells n ++ Builtin.zeroCells z.cells (grownCap w n 0 e - n)) := by simp
    rw [this] at h5
    exact h5
  refine St.own_acc2 h6 (by rw [Array.length_toList, size_zeroCells, hzs]) ?_ ?_ hc1 hc2
  · rw [Array.toList_append, List.length_append, Array.length_toList, Array.length_toList, size_zeroCells, size_zeroCells, hzs, ← Nat.add_mul]
    congr 1
    omega
  · rw [Array.toList_append, List.take_append_of_le_length (by rw [Array.length_toList, size_zeroCells, hzs]; exact Nat.le_refl _), List.take_of_length_le (by rw [Array.length_toList, size_zeroCells, hzs]; exact Nat.le_refl _)]
theorem RL.appendZeros {P : Program} {n : Nat} {w0 : World} {ops : Array Oper} {rest : List Oper} {L : Lm} {M : Mem} {Γ : List As} {K : Lm → Mem → List As → Prop} {ty : TypeId} {pos : String} {af : Array Edge} {d : Nat} {t tn e sz bytes : Nat} {kn : IntKind} {x y : Operand} {z : Int} (k : Nat)
    (hE : ElemOk P t e sz bytes) (htn : P.underlying tn = some (.int kn)) (hx : evL L x = some (.slice none 0 0)) (hy : evL L y = some (.int .i64 z)) (hz : z = (k : Int)) (h0 : 0 < k) (hb : k * bytes ≤ 140737488355328) (hm : k ≤ lim) (hd : Nat.blt d n = true)
    (h : ∀ b c us, us.length = k * sz → k ≤ c → RL P n w0 ops rest ((d, .slice (some ⟨b, 0, none⟩) k c) :: L) M (.acc (.slice (some ⟨b, 0, none⟩) k c) e sz k us :: Γ) K) : RL P n w0 ops (⟨some d, .call ⟨.builtin .append, #[x, y], #[t, tn]⟩, ty, pos, af, none⟩ :: rest) L M Γ K := by
  subst hz
  refine RL.e (fun v M' Γ' => ∃ b c us, v = .slice (some ⟨b, 0, none⟩) k c ∧ us.length = k * sz ∧ k ≤ c ∧ M' = M ∧ Γ' = .acc v e sz k us :: Γ) (fun n a w ha hw => ?_) hd ?_
  · obtain ⟨b, c, us, w', h1, h2, h3, h4⟩ := append_zeros (P := P) (ty := ty) hE htn hw h0 hb hm
    refine ⟨_, w', M, _, ?_, ⟨b, c, us, rfl, h2, h3, rfl, rfl⟩, h4⟩
    simp [execOp, resolve, invoke, Go.builtin, ha.ev hx, ha.ev hy, h1]
  · rintro v M' Γ' ⟨b, c, us, rfl, h2, h3, rfl, rfl⟩
    exact h b c us h2 h3
section
variable {P : Program} {w0 : World} {L : Lm} {M : Mem} {Γ : List As} {d : Option Nat} {ty : TypeId} {pos : String} {af : Array Edge} {g : Option (Nat × Bool)}
theorem Y.cap {x : Operand} {t : TypeId} {a : Option Addr} {k c : Nat} {e : Nat} (hx : evL L x = some (.slice a k c)) (ht : P.underlying t = some (.slice e)) :
    Yq P w0 L M Γ ⟨d, .call ⟨.builtin .cap, #[x], #[t]⟩, ty, pos, af, g⟩ (.int .i64 (c : Int)) := fun n a w ha _ => by
  simp [execOp, resolve, invoke, Go.builtin, Builtin.cap_, ha.ev hx, run_underlying ht, goInt]
end
end Xe

/-
  THE ENGINE, PART T: tests whose outcome is known; bytes as text; text compared. No program in sight.
-/
namespace Xe
open Go

section
variable {P : Program} {n : Nat} {w0 : World} {ops : Array Oper} {rest : List Oper} {L : Lm} {M : Mem} {Γ : List As}
theorem Y.litB (b : Bool) {o : Oper} {v : Value} (h : Yq P w0 L M Γ o v) (e : v = .bool b) : Yq P w0 L M Γ o (.bool b) := e ▸ h
theorem CallOk.val {f : FuncId} {args : Array Value} {v v' : Value} (h : CallOk P w0 M Γ f args (Is M Γ v)) (e : v = v') : CallOk P w0 M Γ f args (Is M Γ v') := e ▸ h
end
def strOf (ns : List Nat) : ByteArray := (ns.map fun k : Nat => (k : Int)).foldl (fun r z => r.push (UInt8.ofNat z.toNat)) ByteArray.empty
def byteB (P : Program) (src dst : TypeId) : Bool := match P.underlying src, P.underlying dst with
  | some (.slice e), some .string => match P.underlying e with
    | some (.int .u8) => true
    | _ => false
  | _, _ => false
section
variable {P : Program} {w0 : World} {L : Lm} {M : Mem} {Γ : List As} {d : Option Nat} {ty : TypeId} {pos : String} {af : Array Edge} {g : Option (Nat × Bool)}
namespace Y
end Y
end
end Xe

/-
  THE ENGINE, PART U: regions that draw their order, whose last operation waits for all the others and may turn what the others read. No program in sight.
-/
namespace Xe
open Go

/-- Operation fin waits for operation i. -/
def waitB (md : Region.Mode) (ops : Array Oper) (fin i : Nat) : Bool := i != fin && match ops[fin]? with
  | some o => o.after.any fun e => Region.binds md e && e.on == i
  | none => false
theorem waitB_spec {md : Region.Mode} {ops : Array Oper} {fin i : Nat} (h : waitB md ops fin i = true) : i ≠ fin ∧ ∃ o, ops[fin]? = some o ∧ ∃ e ∈ o.after, Region.binds md e = true ∧ e.on = i := by
  unfold waitB at h
  rw [Bool.and_eq_true] at h
  obtain ⟨h1, h2⟩ := h
  refine ⟨by simpa using h1, ?_⟩
  split at h2
  · rename_i o ho
    rw [Array.any_eq_true'] at h2
    obtain ⟨e, he, h3⟩ := h2
    rw [Bool.and_eq_true] at h3
    exact ⟨o, ho, e, he, h3.1, by simpa using h3.2⟩
  · cases h2

/-- Whatever order is drawn: S holds behind each operation but the last. -/
def wpAnyG (P : Program) (md : Region.Mode) (ops : Array Oper) (fin : Nat) (Q : Exit → Act → World → Prop) (S : World → Prop) : Nat → Array Bool → Act → World → Prop
  | 0, listed, a, w => Region.ready md ops listed = [] ∧ Q .normal a w
  | fuel + 1, listed, a, w => (Region.ready md ops listed = [] → Q .normal a w) ∧
    ∀ i ∈ Region.ready md ops listed, wpOp P ops Q i (fun a' w' => (i = fin ∨ S w') ∧ wpAnyG P md ops fin Q S fuel (listed.setIfInBounds i true) a' w') a w
section
variable {P : Program} {ops : Array Oper} {Q : Exit → Act → World → Prop} {md : Region.Mode} {S : World → Prop} {fin : Nat}
theorem wpAny_of_G : ∀ (fuel : Nat) (listed : Array Bool) (a : Act) (w : World), wpAnyG P md ops fin Q S fuel listed a w → wpAny P md ops Q fuel listed a w
  | 0, _, _, _, h => h
  | fuel + 1, _, _, _, h => ⟨h.1, fun i hi => wpOp_mono (fun a' w' h' => wpAny_of_G fuel _ a' w' h'.2) (h.2 i hi)⟩
theorem wpAnyG_all {rs : List Nat} {fuel : Nat} {listed : Array Bool} {a : Act} {w : World} (hr : Region.ready md ops listed = rs) (hne : rs ≠ [])
    (h : ∀ i ∈ rs, wpOp P ops Q i (fun a' w' => (i = fin ∨ S w') ∧ wpAnyG P md ops fin Q S fuel (listed.setIfInBounds i true) a' w') a w) : wpAnyG P md ops fin Q S (fuel + 1) listed a w :=
  ⟨fun h0 => absurd (hr ▸ h0) hne, hr ▸ h⟩
/-- Who may come up while i has not does not wait for i. -/
theorem not_waits {i j : Nat} {oj : Oper} {listed : Array Bool} (hoj : ops[j]? = some oj) (hi : i ∈ Region.ready md ops listed) (hj : j ∈ Region.ready md ops listed) : ∀ e ∈ oj.after, Region.binds md e = true → e.on ≠ i := by
  rintro e he hb rfl
  obtain ⟨_, o, ho, hall⟩ := mem_ready.1 hj
  obtain rfl : o = oj := by rw [hoj] at ho; exact (Option.some.inj ho).symm
  have h0 := (mem_ready.1 hi).1
  have h1 := hall e he hb
  cases hx : listed[e.on]? with
  | none => simp [hx] at h1
  | some b => cases b <;> simp_all
/-- What is quiet may be taken first: the last operation never comes before it. -/
theorem wpAnyG_first {i : Nat} {oi : Oper} {v : Value} (hi : ops[i]? = some oi) (hs : Region.noSelect ops = true) (hQ : ∀ c a w, Q (.panic c) (a.put oi.dst v) w → Q (.panic c) a w) (hwt : waitB md ops fin i = true)
    (fuel : Nat) (listed : Array Bool) (a : Act) (w : World)
    (hap : ∀ j oj, ops[j]? = some oj → j ≠ i → listed.getD j true = false → (∀ e ∈ oj.after, Region.binds md e = true → e.on ≠ i) → oi.apart ops oj = true)
    (hr : i ∈ Region.ready md ops listed) (hy : YieldsIf P ops S oi v a) (hS : S w)
    (H : wpAnyG P md ops fin Q S fuel (listed.setIfInBounds i true) (a.put oi.dst v) w) : wpAnyG P md ops fin Q S (fuel + 1) listed a w := by
  have hsel := Region.noSelect_spec hs
  obtain ⟨_, ofin, hofin, efin, hein, hebin, heon⟩ := waitB_spec hwt
  induction fuel generalizing listed a w with
  | zero =>
    refine wpAnyG_all rfl (List.ne_nil_of_mem hr) fun j hj => ?_
    rcases Decidable.em (j = i) with rfl | hji
    · exact hy.wpOp hi hS ⟨.inr hS, H⟩
    · exact absurd (H.1 ▸ ready_mono hj hji) List.not_mem_nil
  | succ fuel ih =>
    refine wpAnyG_all rfl (List.ne_nil_of_mem hr) fun j hj => ?_
    rcases Decidable.em (j = i) with rfl | hji
    · exact hy.wpOp hi hS ⟨.inr hS, H⟩
    obtain ⟨hun, oj, hoj, _⟩ := mem_ready.1 hj
    have hnw := not_waits hoj hr hj
    have hjf : j ≠ fin := by
      rintro rfl
      rw [hofin] at hoj
      cases hoj
      exact hnw efin hein hebin heon
    have hone := wpOp_putIf hoj (hap j oj hoj hji hun hnw) (hsel i oi · · hi) (hsel j oj · · hoj) hQ hy (H.2 j (ready_mono hj hji))
    refine wpOp_mono (fun a' w' ⟨k1, k2, k3⟩ => ?_) hone
    have hS' := k2.resolve_left hjf
    refine ⟨.inr hS', ih _ a' w' (fun k ok hk hki hl hno => hap k ok hk hki ?_ hno) (ready_mono hr (Ne.symm hji)) k1 hS' ?_⟩
    · rcases Decidable.em (j = k) with rfl | hjk
      · exact hun
      · rwa [getD_set_ne true hjk] at hl
    · rwa [Array.setIfInBounds_comm _ _ hji]
theorem wpAnyG_take {i : Nat} {oi : Oper} {v : Value} {fuel : Nat} {listed : Array Bool} {a : Act} {w : World} (hi : ops[i]? = some oi)
    (hs : Region.noSelect ops = true) (hf : (Region.free md ops listed i && waitB md ops fin i) = true) (hr : (Region.ready md ops listed).contains i = true)
    (hQ : ∀ c a w, Q (.panic c) (a.put oi.dst v) w → Q (.panic c) a w) (hy : YieldsIf P ops S oi v a) (hS : S w)
    (h : wpAnyG P md ops fin Q S fuel (listed.setIfInBounds i true) (a.put oi.dst v) w) : wpAnyG P md ops fin Q S (fuel + 1) listed a w := by
  rw [Bool.and_eq_true] at hf
  exact wpAnyG_first hi hs hQ hf.2 fuel listed a w (Region.free_spec hi hf.1) (by simpa using hr) hy hS h
theorem wpAnyG_done {listed : Array Bool} {a : Act} {w : World} (hr : Region.ready md ops listed = []) (h : Q .normal a w) : ∀ fuel, wpAnyG P md ops fin Q S fuel listed a w
  | 0 => ⟨hr, h⟩
  | _ + 1 => ⟨fun _ => h, by rw [hr]; simp⟩
end
def HG (fin : Nat) (P : Program) (n : Nat) (w0 : World) (ops : Array Oper) (Mc : Mem) (Γc : List As) (fuel : Nat) (listed : Array Bool) (L : Lm) (M : Mem) (Γ : List As) (K : Lm → Mem → List As → Prop) : Prop :=
  (∃ w, St w0 Mc Γc w) → ∀ R : Act → World → Prop, (∀ L M Γ, K L M Γ → ∀ a w, Sat n L a → St w0 M Γ w → R a w) →
  ∀ a w, Sat n L a → St w0 M Γ w → St w0 Mc Γc w → wpAnyG P .any ops fin (Norm R) (St w0 Mc Γc) fuel listed a w

section
variable {fin : Nat} {P : Program} {n : Nat} {w0 : World} {ops : Array Oper} {Mc : Mem} {Γc : List As} {fuel : Nat} {listed : Array Bool} {L : Lm} {M : Mem} {Γ : List As} {K : Lm → Mem → List As → Prop}
theorem HG.done (hr : Region.ready .any ops listed = []) (h : K L M Γ) : HG fin P n w0 ops Mc Γc fuel listed L M Γ K :=
  fun _ _ hR a w ha hw _ => wpAnyG_done hr (hR L M Γ h a w ha hw) fuel

/-- A quiet operation is taken first. -/
theorem HG.take (i : Nat) {op : Op} {ty : TypeId} {pos : String} {after : Array Edge} {g : Option (Nat × Bool)} {d : Nat} {v : Value} (hi : ops[i]? = some ⟨some d, op, ty, pos, after, g⟩) (hs : Region.noSelect ops = true) (hf : (Region.free .any ops listed i && waitB .any ops fin i) = true)
    (hr : (Region.ready .any ops listed).contains i = true) (hg : Want ops L ⟨some d, op, ty, pos, after, g⟩ true) (hy : Yq P w0 L Mc Γc ⟨some d, op, ty, pos, after, g⟩ v) (hd : Nat.blt d n = true)
    (h : HG fin P n w0 ops Mc Γc fuel (listed.setIfInBounds i true) ((d, v) :: L) M Γ K) : HG fin P n w0 ops Mc Γc (fuel + 1) listed L M Γ K :=
  fun hex R hR a w ha hw hc => wpAnyG_take hi hs hf hr (fun _ _ _ h => h) (.inl ⟨hg.spec ha, fun w hw => hy n a w ha hw⟩) hc (h hex R hR _ w (ha.put hd) hw hc)

theorem HG.takeNo (i : Nat) {op : Op} {ty : TypeId} {pos : String} {after : Array Edge} {g : Option (Nat × Bool)} {d : Nat} (hi : ops[i]? = some ⟨some d, op, ty, pos, after, g⟩) (hs : Region.noSelect ops = true) (hf : (Region.free .any ops listed i && waitB .any ops fin i) = true)
    (hr : (Region.ready .any ops listed).contains i = true) (hg : Want ops L ⟨some d, op, ty, pos, after, g⟩ false) (hd : Nat.blt d n = true)
    (h : HG fin P n w0 ops Mc Γc fuel (listed.setIfInBounds i true) ((d, undef) :: L) M Γ K) : HG fin P n w0 ops Mc Γc (fuel + 1) listed L M Γ K :=
  fun hex R hR _ w ha hw hc => wpAnyG_take hi hs hf hr (fun _ _ _ h => h) (.inr ⟨hg.spec ha, rfl⟩) hc (h hex R hR _ w (ha.put hd) hw hc)

/-- What is known of the class may be used. -/
theorem HG.know {F : Prop} (hF : ∀ w, St w0 Mc Γc w → F) (h : F → HG fin P n w0 ops Mc Γc fuel listed L M Γ K) : HG fin P n w0 ops Mc Γc fuel listed L M Γ K :=
  fun hex => h (let ⟨w, hw⟩ := hex; hF w hw) hex

/-- The class with a fact more on what is sealed. -/
theorem HG.more {Γc' : List As} (h1 : ∀ w, St w0 Mc Γc w ↔ St w0 Mc Γc' w) (h : HG fin P n w0 ops Mc Γc' fuel listed L M Γ K) : HG fin P n w0 ops Mc Γc fuel listed L M Γ K := by
  have e : St w0 Mc Γc = St w0 Mc Γc' := funext fun w => propext (h1 w)
  unfold HG at h ⊢
  rw [e]
  exact h

/-- The one operation that may come up. -/
theorem HG.step (i : Nat) {o : Oper} (hi : ops[i]? = some o) (hr : Region.ready .any ops listed = [i])
    (h : RL P n w0 ops [o] L M Γ (fun L' M' Γ' => ((∃ w, St w0 Mc Γc w) → ∀ w, St w0 M' Γ' w → St w0 Mc Γc w) ∧ HG fin P n w0 ops Mc Γc fuel (listed.setIfInBounds i true) L' M' Γ' K)) : HG fin P n w0 ops Mc Γc (fuel + 1) listed L M Γ K := by
  intro hex R hR a w ha hw hc
  refine wpAnyG_all hr (by simp) fun j hj => ?_
  simp only [List.mem_singleton] at hj
  subst hj
  exact wpOp_of_RL hi h (fun L' M' Γ' hK a' w' ha' hw' => ⟨.inr (hK.1 hex w' hw'), hK.2 hex R hR a' w' ha' hw' (hK.1 hex w' hw')⟩) ha hw

/-- One of two. -/
theorem HG.step2 (i j : Nat) {o o' : Oper} (hi : ops[i]? = some o) (hj : ops[j]? = some o') (hr : Region.ready .any ops listed = [i, j])
    (h : RL P n w0 ops [o] L M Γ (fun L' M' Γ' => ((∃ w, St w0 Mc Γc w) → ∀ w, St w0 M' Γ' w → St w0 Mc Γc w) ∧ HG fin P n w0 ops Mc Γc fuel (listed.setIfInBounds i true) L' M' Γ' K))
    (h' : RL P n w0 ops [o'] L M Γ (fun L' M' Γ' => ((∃ w, St w0 Mc Γc w) → ∀ w, St w0 M' Γ' w → St w0 Mc Γc w) ∧ HG fin P n w0 ops Mc Γc fuel (listed.setIfInBounds j true) L' M' Γ' K)) : HG fin P n w0 ops Mc Γc (fuel + 1) listed L M Γ K := by
  intro hex R hR a w ha hw hc
  refine wpAnyG_all hr (by simp) fun k hk => ?_
  simp only [List.mem_cons, List.not_mem_nil, or_false] at hk
  rcases hk with rfl | rfl
  · exact wpOp_of_RL hi h (fun L' M' Γ' hK a' w' ha' hw' => ⟨.inr (hK.1 hex w' hw'), hK.2 hex R hR a' w' ha' hw' (hK.1 hex w' hw')⟩) ha hw
  · exact wpOp_of_RL hj h' (fun L' M' Γ' hK a' w' ha' hw' => ⟨.inr (hK.1 hex w' hw'), hK.2 hex R hR a' w' ha' hw' (hK.1 hex w' hw')⟩) ha hw

/-- A quiet operation whose value is known by what it reads as. -/
theorem HG.takeX (i : Nat) {op : Op} {ty : TypeId} {pos : String} {after : Array Edge} {g : Option (Nat × Bool)} {d : Nat} (hi : ops[i]? = some ⟨some d, op, ty, pos, after, g⟩) (hs : Region.noSelect ops = true) (hf : (Region.free .any ops listed i && waitB .any ops fin i) = true)
    (hr : (Region.ready .any ops listed).contains i = true) (hg : Want ops L ⟨some d, op, ty, pos, after, g⟩ true) (F : Value → As → Prop) (hex : ∀ w, St w0 M Γc w → ∃ v x, F v x)
    (hF : ∀ v x, F v x → Yq P w0 L M Γc ⟨some d, op, ty, pos, after, g⟩ v ∧ x.blk = none ∧ ∀ w, x.ok M w) (hd : Nat.blt d n = true)
    (h : ∀ v x, F v x → HG fin P n w0 ops M (x :: Γc) fuel (listed.setIfInBounds i true) ((d, v) :: L) M (x :: Γ) K) : HG fin P n w0 ops M Γc (fuel + 1) listed L M Γ K := by
  refine HG.know hex ?_
  rintro ⟨v, x, hv⟩
  obtain ⟨h1, h2, h3⟩ := hF v x hv
  refine HG.take i hi hs hf hr hg h1 hd ?_
  have h4 := h v x hv
  refine HG.more (pure_iff h2 h3) ?_
  exact fun hex R hR a w ha hw hc => h4 hex R hR a w ha (hw.add (h3 w) h2) hc

theorem HG.loadSl (i : Nat) {x : Operand} {t : TypeId} {ty : TypeId} {pos : String} {af : Array Edge} {g : Option (Nat × Bool)} {d : Nat} {a : Option Addr} {q n0 sz0 l c n1 sz1 : Nat} {cs cs1 : List D} (hi : ops[i]? = some ⟨some d, .load t x, ty, pos, af, g⟩) (hs : Region.noSelect ops = true) (hf : (Region.free .any ops listed i && waitB .any ops fin i) = true)
    (hr : (Region.ready .any ops listed).contains i = true) (hg : Want ops L ⟨some d, .load t x, ty, pos, af, g⟩ true)
    (hx : evL L x = some (.pointer (some (adr a q)))) (hm : As.rd (.sl n0 sz0 cs) (.slice a l c) ∈ Γc) (hq : cs[q]? = some (.sl n1 sz1 cs1)) (hfl : flatB P t = true) (hd : Nat.blt d n = true)
    (h : ∀ a1 c1, n1 ≤ c1 → n1 ≤ 140737488355328 → HG fin P n w0 ops M (.rd (.sl n1 sz1 cs1) (.slice a1 n1 c1) :: Γc) fuel (listed.setIfInBounds i true) ((d, .slice a1 n1 c1) :: L) M (.rd (.sl n1 sz1 cs1) (.slice a1 n1 c1) :: Γ) K) :
    HG fin P n w0 ops M Γc (fuel + 1) listed L M Γ K := by
  refine HG.takeX i hi hs hf hr hg (fun v x => cellM M (adr a q) = some v ∧ Rd M (.sl n1 sz1 cs1) v ∧ x = .rd (.sl n1 sz1 cs1) v) (fun w hw => ?_) ?_ hd ?_
  · obtain ⟨u, h1, h2⟩ := hw.rd_cell hm hq
    exact ⟨u, _, h1, h2, rfl⟩
  · rintro v _ ⟨h1, h2, rfl⟩
    exact ⟨Y.load hx hfl fun w hw => hw.cell h1, rfl, fun _ => h2⟩
  · rintro v _ ⟨h1, h2, rfl⟩
    have hr' := h2
    simp only [Rd] at hr'
    obtain ⟨a1, c1, rfl, h3, _, h4, _⟩ := hr'
    exact h a1 c1 h3 h4

theorem HG.loadOwnSl (i : Nat) {x : Operand} {t : TypeId} {ty : TypeId} {pos : String} {af : Array Edge} {g : Option (Nat × Bool)} {d b e : Nat} {q n1 sz1 : Nat} {us : List Value} {ds cs1 : List D} (hi : ops[i]? = some ⟨some d, .load t x, ty, pos, af, g⟩) (hs : Region.noSelect ops = true) (hf : (Region.free .any ops listed i && waitB .any ops fin i) = true)
    (hr : (Region.ready .any ops listed).contains i = true) (hg : Want ops L ⟨some d, .load t x, ty, pos, af, g⟩ true)
    (hx : evL L x = some (.pointer (some (adr (some ⟨b, 0, none⟩) q)))) (hm : As.own b e us ∈ Γc) (hrd : As.rds ds us ∈ Γc) (hq : ds[q]? = some (.sl n1 sz1 cs1)) (hfl : flatB P t = true) (hd : Nat.blt d n = true)
    (h : ∀ a1 c1, us[q]? = some (.slice a1 n1 c1) → n1 ≤ c1 → n1 ≤ 140737488355328 → HG fin P n w0 ops M (.rd (.sl n1 sz1 cs1) (.slice a1 n1 c1) :: Γc) fuel (listed.setIfInBounds i true) ((d, .slice a1 n1 c1) :: L) M (.rd (.sl n1 sz1 cs1) (.slice a1 n1 c1) :: Γ) K) :
    HG fin P n w0 ops M Γc (fuel + 1) listed L M Γ K := by
  refine HG.takeX i hi hs hf hr hg (fun v x => us[q]? = some v ∧ Rd M (.sl n1 sz1 cs1) v ∧ x = .rd (.sl n1 sz1 cs1) v) (fun w hw => ?_) ?_ hd ?_
  · obtain ⟨u, h1, h2⟩ := RdL.get (hw.all _ hrd) hq
    exact ⟨u, _, h1, h2, rfl⟩
  · rintro v _ ⟨h1, h2, rfl⟩
    exact ⟨Y.load hx hfl fun w hw => hw.own_cell hm h1, rfl, fun _ => h2⟩
  · rintro v _ ⟨h1, h2, rfl⟩
    have hr' := h2
    simp only [Rd] at hr'
    obtain ⟨a1, c1, rfl, h3, _, h4, _⟩ := hr'
    exact h a1 c1 h1 h3 h4

theorem HG.loadAgg (i : Nat) {x : Operand} {t : TypeId} {ty : TypeId} {pos : String} {af : Array Edge} {g : Option (Nat × Bool)} {d : Nat} {a : Option Addr} {q sz n0 sz0 l c : Nat} {cs ds : List D} (hi : ops[i]? = some ⟨some d, .load t x, ty, pos, af, g⟩) (hs : Region.noSelect ops = true) (hf : (Region.free .any ops listed i && waitB .any ops fin i) = true)
    (hr : (Region.ready .any ops listed).contains i = true) (hg : Want ops L ⟨some d, .load t x, ty, pos, af, g⟩ true)
    (hx : evL L x = some (.pointer (some (adr a q)))) (hm : As.rd (.sl n0 sz0 cs) (.slice a l c) ∈ Γc) (hq : (cs.drop q).take sz = ds) (hl : ds.length = sz) (hag : aggB P t sz = true) (hd : Nat.blt d n = true)
    (h : ∀ us, us.length = sz → RdL M ds us → HG fin P n w0 ops M (.rds ds us :: Γc) fuel (listed.setIfInBounds i true) ((d, .agg us.toArray) :: L) M (.rds ds us :: Γ) K) :
    HG fin P n w0 ops M Γc (fuel + 1) listed L M Γ K := by
  refine HG.takeX i hi hs hf hr hg (fun v x => ∃ us, v = .agg us.toArray ∧ x = .rds ds us ∧ RdL M ds us ∧ ∀ j v, us[j]? = some v → cellM M (adr a (q + j)) = some v) (fun w hw => ?_) ?_ hd ?_
  · obtain ⟨us, h1, h2⟩ := cells_of (M := M) (a := a) (q := q) (ds := ds) (fun j e hj => hw.rd_cell hm (sub_get hq hj))
    exact ⟨_, _, us, rfl, rfl, h1, h2⟩
  · rintro _ _ ⟨us, rfl, rfl, h1, h2⟩
    refine ⟨Y.loadAgg hx (by rw [h1.1, hl]; exact hag) fun w hw j v hj => ?_, rfl, fun _ => h1⟩
    rw [adr_add]
    exact hw.cell (h2 j v hj)
  · rintro _ _ ⟨us, rfl, rfl, h1, h2⟩
    exact h us (by rw [h1.1, hl]) h1

theorem HG.step3 (i j k : Nat) {oi oj ok : Oper} (hi : ops[i]? = some oi) (hj : ops[j]? = some oj) (hk : ops[k]? = some ok) (hr : Region.ready .any ops listed = [i, j, k])
    (gi : RL P n w0 ops [oi] L M Γ (fun L' M' Γ' => ((∃ w, St w0 Mc Γc w) → ∀ w, St w0 M' Γ' w → St w0 Mc Γc w) ∧ HG fin P n w0 ops Mc Γc fuel (listed.setIfInBounds i true) L' M' Γ' K))
    (gj : RL P n w0 ops [oj] L M Γ (fun L' M' Γ' => ((∃ w, St w0 Mc Γc w) → ∀ w, St w0 M' Γ' w → St w0 Mc Γc w) ∧ HG fin P n w0 ops Mc Γc fuel (listed.setIfInBounds j true) L' M' Γ' K))
    (gk : RL P n w0 ops [ok] L M Γ (fun L' M' Γ' => ((∃ w, St w0 Mc Γc w) → ∀ w, St w0 M' Γ' w → St w0 Mc Γc w) ∧ HG fin P n w0 ops Mc Γc fuel (listed.setIfInBounds k true) L' M' Γ' K)) : HG fin P n w0 ops Mc Γc (fuel + 1) listed L M Γ K := by
  intro hex R hR a w ha hw hc
  refine wpAnyG_all hr (by simp) fun x hx => ?_
  simp only [List.mem_cons, List.not_mem_nil, or_false] at hx
  rcases hx with rfl | rfl | rfl
  · exact wpOp_of_RL hi gi (fun L' M' Γ' hK a' w' ha' hw' => ⟨.inr (hK.1 hex w' hw'), hK.2 hex R hR a' w' ha' hw' (hK.1 hex w' hw')⟩) ha hw
  · exact wpOp_of_RL hj gj (fun L' M' Γ' hK a' w' ha' hw' => ⟨.inr (hK.1 hex w' hw'), hK.2 hex R hR a' w' ha' hw' (hK.1 hex w' hw')⟩) ha hw
  · exact wpOp_of_RL hk gk (fun L' M' Γ' hK a' w' ha' hw' => ⟨.inr (hK.1 hex w' hw'), hK.2 hex R hR a' w' ha' hw' (hK.1 hex w' hw')⟩) ha hw
/-- The last operation. -/
theorem HG.last (i : Nat) {o : Oper} (hi : ops[i]? = some o) (hf : Region.ready .any ops listed = [i] ∧ i = fin) (hd : Region.ready .any ops (listed.setIfInBounds i true) = [])
    (h : RL P n w0 ops [o] L M Γ K) : HG fin P n w0 ops Mc Γc (fuel + 1) listed L M Γ K := by
  intro hex R hR a w ha hw hc
  refine wpAnyG_all hf.1 (by simp) fun j hj => ?_
  simp only [List.mem_singleton] at hj
  subst hj
  exact wpOp_of_RL hi h (fun L' M' Γ' hK a' w' ha' hw' => ⟨.inl hf.2, wpAnyG_done hd (hR L' M' Γ' hK a' w' ha' hw') fuel⟩) ha hw
theorem CW.regionG (fin : Nat) {id : Nat} {X : Pst} {l : List Oper} (hm : P.follows .mixedOrders = true) (Mc : Mem) (Γc : List As) (hc : ∀ w, St w0 M Γ w → St w0 Mc Γc w)
    (h : HG fin P n w0 l.toArray Mc Γc l.length (Array.replicate l.length false) L M Γ (X .normal)) : CW P n w0 (.region id l.toArray true) X L M Γ := by
  intro a w ha hw
  have hw' := hw.draw (w.drawn + 1)
  have h1 := h ⟨_, hc _ hw'⟩ (fun a w => Real n w0 X .normal a w) (fun L M Γ hX a w ha hw => ⟨L, M, Γ, hX, ha, hw⟩) a _ ha hw' (hc _ hw')
  have h2 : (Code.region id l.toArray true).wp P (Norm (fun a w => Real n w0 X .normal a w)) a w := wp_region_any hm (wpAny_of_G _ _ _ _ (by simpa using h1))
  refine wp_mono h2 fun e a w he => ?_
  cases e <;> first | exact he | exact he.elim
theorem CW.regionGP (fin : Nat) {id : Nat} {X : Pst} {l : List Oper} {x : As} {R : List As} (hm : P.follows .mixedOrders = true) (hp : Pick x Γ R)
    (h : HG fin P n w0 l.toArray M R l.length (Array.replicate l.length false) L M Γ (X .normal)) : CW P n w0 (.region id l.toArray true) X L M Γ :=
  CW.regionG fin hm M R (fun _ hw => (hw.perm hp.perm).sub (List.sublist_cons_self _ _)) h
end
end Xe

/-
  THE ENGINE, PART V: what values of a type read as, struct by struct. No program in sight.
-/
namespace Xe
open Go

/-- Readings of such types, one behind the other. -/
def WTs (P : Program) (n : Nat) : List TypeId → List D → Prop
  | [], ds => ds = []
  | t :: ts, ds => ∃ a b, ds = a ++ b ∧ WT P n t a ∧ WTs P n ts b
def strB (P : Program) (t : TypeId) (tys : List TypeId) : Bool := match P.underlying t with
  | some (.struct fs) => contigB P 0 fs.toList (P.cellsOf t) && decide (fs.toList.map (·.type) = tys)
  | _ => false
def slcB (P : Program) (t e sz : Nat) : Bool := match P.underlying t with
  | some (.slice e') => Nat.beq e' e && Nat.beq (P.cellsOf e) sz
  | _ => false
def txtB (P : Program) (t : TypeId) : Bool := match P.underlying t with
  | some .string => true
  | _ => false
theorem WTs.of_fields {P : Program} {n : Nat} : ∀ (fs : List Field) (off tot : Nat) (ds : List D), contigB P off fs tot = true → ds.length + off = tot →
    (∀ f ∈ fs, WT P n f.type ((ds.drop (f.offset - off)).take (P.cellsOf f.type))) → WTs P n (fs.map (·.type)) ds
  | [], off, tot, ds, h, hl, _ => by
    have := Nat.eq_of_beq_eq_true h
    exact List.eq_nil_of_length_eq_zero (by omega)
  | f :: fs, off, tot, ds, h, hl, hf => by
    simp only [contigB, Bool.and_eq_true] at h
    have h0 := Nat.eq_of_beq_eq_true h.1
    have hle := contig_le h.2
    have hs : P.cellsOf f.type ≤ ds.length := by omega
    refine ⟨ds.take (P.cellsOf f.type), ds.drop (P.cellsOf f.type), (List.take_append_drop _ _).symm, ?_, WTs.of_fields fs (off + P.cellsOf f.type) tot _ h.2 (by rw [List.length_drop]; omega) fun g hg => ?_⟩
    · have := hf f (List.mem_cons_self ..)
      rwa [h0, Nat.sub_self, List.drop_zero] at this
    · have h1 := hf g (List.mem_cons_of_mem _ hg)
      have h2 := hle.2 g hg
      rw [List.drop_drop, show P.cellsOf f.type + (g.offset - (off + P.cellsOf f.type)) = g.offset - off from by omega]
      exact h1
section
variable {P : Program} {n : Nat} {t : TypeId} {ds : List D}
theorem WT.fields {tys : List TypeId} (h : WT P n t ds) (hs : strB P t tys = true) : ∃ m, n = m + 1 ∧ WTs P m tys ds := by
  cases n with
  | zero => exact h.elim
  | succ m =>
    unfold strB at hs
    split at hs
    · rename_i fs hu
      rw [Bool.and_eq_true, decide_eq_true_eq] at hs
      simp only [WT, hu] at h
      obtain ⟨hc, rfl⟩ := hs
      exact ⟨m, rfl, WTs.of_fields fs.toList 0 _ ds hc (by rw [h.1]; rfl) fun f hf => by simpa using h.2 f hf⟩
    · cases hs
theorem WT.elems {e sz : Nat} (h : WT P n t ds) (hs : slcB P t e sz = true) : ∃ m, n = m + 1 ∧ ∃ els : List (List D), ds = [.sl els.length sz els.flatten] ∧ els.length ≤ lim ∧ ∀ x ∈ els, WT P m e x := by
  cases n with
  | zero => exact h.elim
  | succ m =>
    unfold slcB at hs
    split at hs
    · rename_i e' hu
      rw [Bool.and_eq_true] at hs
      obtain rfl := Nat.eq_of_beq_eq_true hs.1
      obtain rfl := Nat.eq_of_beq_eq_true hs.2
      simp only [WT, hu] at h
      exact ⟨m, rfl, h⟩
    · cases hs
theorem WT.int (h : WT P n t ds) (hs : Y.intB P t .i64 = true) : ∃ z, ds = [dint z] ∧ InI z := by
  have hu := Y.intB_spec hs
  cases n with
  | zero => exact h.elim
  | succ m =>
    simp only [WT, hu] at h
    obtain ⟨z, rfl, hz⟩ := h
    exact ⟨z, rfl, inI_of hz⟩
theorem WT.text (h : WT P n t ds) (hs : txtB P t = true) : ∃ s, ds = [dstr s] := by
  cases n with
  | zero => exact h.elim
  | succ m =>
    unfold txtB at hs
    split at hs
    · rename_i hu
      simp only [WT, hu] at h
      obtain ⟨s, rfl, _⟩ := h
      exact ⟨s, rfl⟩
    · cases hs
end
theorem elems_of {α : Type} {enc : α → List D} {Q : α → Prop} : ∀ {els : List (List D)}, (∀ x ∈ els, ∃ a, x = enc a ∧ Q a) → ∃ l : List α, els.length = l.length ∧ els.flatten = l.flatMap enc ∧ ∀ a ∈ l, Q a
  | [], _ => ⟨[], rfl, rfl, fun a h => by cases h⟩
  | x :: xs, h => by
    obtain ⟨a, rfl, hq⟩ := h x (List.mem_cons_self ..)
    obtain ⟨l, h1, h2, h3⟩ := elems_of fun y hy => h y (List.mem_cons_of_mem _ hy)
    refine ⟨a :: l, by simp [h1], by simp [h2], fun b hb => ?_⟩
    rcases List.mem_cons.1 hb with rfl | hb
    · exact hq
    · exact h3 b hb
end Xe

/-
  THE ENGINE, PART W: a struct stored into an element of a slice that is being grown; readings split. No program in sight.
-/
namespace Xe
open Go
theorem RL.front {P : Program} {n : Nat} {w0 : World} {ops : Array Oper} {rest : List Oper} {L : Lm} {M : Mem} {Γ R : List As} {K : Lm → Mem → List As → Prop} {x : As} (hp : Pick x Γ R) (h : RL P n w0 ops rest L M (x :: R) K) : RL P n w0 ops rest L M Γ K := RL.perm hp.perm h
theorem RdL.split {M : Mem} {ds es : List D} {us : List Value} (h : RdL M (ds ++ es) us) : RdL M ds (us.take ds.length) ∧ RdL M es (us.drop ds.length) := by
  have hl := h.1
  rw [List.length_append] at hl
  have h1 := h.cut 0 ds.length
  have h2 := h.cut ds.length es.length
  rw [List.drop_zero, List.drop_zero, List.take_left] at h1
  rw [List.drop_left, List.take_length, List.take_of_length_le (by rw [List.length_drop]; omega)] at h2
  exact ⟨h1, h2⟩
end Xe

/-
  THE ENGINE, PART X: a slice that is being grown lent out as what is only read, and taken back. No program in sight.
-/
namespace Xe
open Go
theorem CallOk.turn {P : Program} {w0 : World} {M : Mem} {Γ : List As} {f : FuncId} {args : Array Value} {F R : Post} (h : CallOk P w0 M Γ f args F) (k : ∀ v M' Γ', F v M' Γ' → Turn w0 M' Γ' (R v)) : CallOk P w0 M Γ f args R := fun w hw => by
  refine (h w hw).mono ?_
  rintro e w' ⟨v, M', Γ', rfl, hF, hw'⟩
  obtain ⟨M2, Γ2, hR, hw2⟩ := k v M' Γ' hF w' hw'
  exact ⟨v, M2, Γ2, rfl, hR, hw2⟩
/-- M' is M with the block of this slice. -/
def LentA (M M' : Mem) (u : Value) (e : TypeId) (sz n : Nat) (us : List Value) : Prop :=
  ∃ b cap cur, u = .slice (some ⟨b, 0, none⟩) n cap ∧ M b = none ∧ M' b = some (.cells cur e (0, 0)) ∧ ∀ w : World, w.heap[b]? = some (.cells cur e (0, 0)) → w.ownsRow 0 e sz u n us
def Mem.rem (M : Mem) (b : Nat) : Mem := fun k => if k = b then none else M k
section
variable {P : Program} {n : Nat} {w0 : World} {c : Code} {X : Pst} {L : Lm} {M : Mem} {Γ : List As}
end
end Xe

/- Dat Pure4 Pure5 Pure6 Pure7 Pure8 Pure9 Pure10 Pure11, put together. No program in sight. -/
/- THE DATA of programs and values as plain Lean, and how memory reads as them. No program in sight. -/
namespace Xe
open Go

/-! ### Values -/
inductive Val where
  | mk (kind n : Int) (kids : List Val)
  deriving Inhabited
def Val.kind : Val → Int | .mk k _ _ => k
def Val.n : Val → Int | .mk _ n _ => n
def Val.kids : Val → List Val | .mk _ _ l => l
mutual
def Val.enc : Val → List D
  | .mk k n l => [dint k, dint n, .sl l.length 3 (Val.encs l)]
def Val.encs : List Val → List D
  | [] => []
  | t :: ts => t.enc ++ Val.encs ts
end
theorem Val.encs_eq : ∀ l : List Val, Val.encs l = l.flatMap Val.enc
  | [] => by simp [Val.encs]
  | t :: ts => by rw [Val.encs, Val.encs_eq ts, List.flatMap_cons]
theorem Val.enc_eq (t : Val) : t.enc = [dint t.kind, dint t.n, .sl t.kids.length 3 (t.kids.flatMap Val.enc)] := by
  cases t; rw [Val.enc, Val.encs_eq]; rfl
theorem Val.enc_len (t : Val) : t.enc.length = 3 := by rw [Val.enc_eq]; rfl
mutual
def Val.size : Val → Nat
  | .mk _ _ l => 1 + Val.sizes l
def Val.sizes : List Val → Nat
  | [] => 0
  | t :: ts => t.size + Val.sizes ts
end
theorem Val.size_eq (e : Val) : e.size = 1 + Val.sizes e.kids := by cases e; rw [Val.size]; rfl
theorem Val.size_pos (e : Val) : 0 < e.size := by rw [Val.size_eq]; omega
theorem Val.size_mem : ∀ {l : List Val} {t : Val}, t ∈ l → t.size ≤ Val.sizes l
  | x :: xs, t, h => by
    rw [Val.sizes]
    rcases List.mem_cons.1 h with rfl | h
    · omega
    · have := Val.size_mem h; omega
theorem Val.size_kid {t k : Val} (h : k ∈ t.kids) : k.size < t.size := by
  have := Val.size_mem h; rw [Val.size_eq t]; omega
theorem Val.sizes_append : ∀ (l m : List Val), Val.sizes (l ++ m) = Val.sizes l + Val.sizes m
  | [], m => by simp [Val.sizes]
  | x :: xs, m => by have := Val.sizes_append xs m; simp only [List.cons_append, Val.sizes]; omega
theorem Val.sizes_succ (l : List Val) (k : Nat) (h : k < l.length) : Val.sizes (l.take (k + 1)) = Val.sizes (l.take k) + l[k].size := by
  rw [List.take_succ_eq_append_getElem h, Val.sizes_append]; simp [Val.sizes]
theorem Val.ext {a b : Val} (h1 : a.kind = b.kind) (h2 : a.n = b.n) (h3 : a.kids = b.kids) : a = b := by
  cases a; cases b; simp only [Val.kind, Val.n, Val.kids] at h1 h2 h3; rw [h1, h2, h3]
theorem Val.rec' {p : Val → Prop} (h : ∀ v, (∀ k ∈ v.kids, p k) → p v) (v : Val) : p v := by
  have : ∀ (n : Nat) (v : Val), v.size = n → p v := by
    intro n
    induction n using Nat.strongRecOn with
    | _ n ih => exact fun v hv => h v fun k hk => ih k.size (by rw [← hv]; exact Val.size_kid hk) k rfl
  exact this _ v rfl
/-- All numbers are words. -/
inductive Val.Ok : Val → Prop
  | mk {v : Val} : InI v.kind → InI v.n → (∀ k ∈ v.kids, Val.Ok k) → Val.Ok v
theorem Val.Ok.kind {v : Val} (h : v.Ok) : InI v.kind := by cases h with | mk a b c => exact a
theorem Val.Ok.n {v : Val} (h : v.Ok) : InI v.n := by cases h with | mk a b c => exact b
theorem Val.Ok.kid {v k : Val} (h : v.Ok) (hk : k ∈ v.kids) : k.Ok := by cases h with | mk a b c => exact c k hk

/-! ### Slots, definitions, modules, programs -/
structure SlotT where
  id : IdT
  name : ByteArray
  ty : Ty
  most : Int
  place : Int
  deriving Inhabited
def SlotT.enc (s : SlotT) : List D := [dint s.id.shop, dint s.id.seq, dint s.id.index, dstr s.name, dint s.ty.kind, dint s.ty.df.shop, dint s.ty.df.seq, dint s.ty.df.index, .sl s.ty.kids.length 5 (s.ty.kids.flatMap Ty.enc), dint s.most, dint s.place]
theorem SlotT.enc_eq (s : SlotT) : s.enc = [dint s.id.shop, dint s.id.seq, dint s.id.index, dstr s.name, dint s.ty.kind, dint s.ty.df.shop, dint s.ty.df.seq, dint s.ty.df.index, .sl s.ty.kids.length 5 (s.ty.kids.flatMap Ty.enc), dint s.most, dint s.place] := rfl
theorem SlotT.enc_len (s : SlotT) : s.enc.length = 11 := rfl
structure DefT where
  id : IdT
  kind : Int
  mod : IdT
  name : ByteArray
  slots : List SlotT
  result : Ty
  body : Ex
  place : Int
  layout : List ByteArray
  deriving Inhabited
def DefT.enc (s : DefT) : List D := [dint s.id.shop, dint s.id.seq, dint s.id.index, dint s.kind, dint s.mod.shop, dint s.mod.seq, dint s.mod.index, dstr s.name, .sl s.slots.length 11 (s.slots.flatMap SlotT.enc),
  dint s.result.kind, dint s.result.df.shop, dint s.result.df.seq, dint s.result.df.index, .sl s.result.kids.length 5 (s.result.kids.flatMap Ty.enc),
  dint s.body.id.shop, dint s.body.id.seq, dint s.body.id.index, dint s.body.kind, dint s.body.n, dint s.body.ref.shop, dint s.body.ref.seq, dint s.body.ref.index, dint s.body.ty.kind, dint s.body.ty.df.shop, dint s.body.ty.df.seq, dint s.body.ty.df.index,
    .sl s.body.ty.kids.length 5 (s.body.ty.kids.flatMap Ty.enc), .sl s.body.kids.length 15 (s.body.kids.flatMap Ex.enc), .sl s.body.names.length 1 (s.body.names.map dstr),
  dint s.place, .sl s.layout.length 1 (s.layout.map dstr)]
theorem DefT.enc_eq (s : DefT) : s.enc = [dint s.id.shop, dint s.id.seq, dint s.id.index, dint s.kind, dint s.mod.shop, dint s.mod.seq, dint s.mod.index, dstr s.name, .sl s.slots.length 11 (s.slots.flatMap SlotT.enc),
  dint s.result.kind, dint s.result.df.shop, dint s.result.df.seq, dint s.result.df.index, .sl s.result.kids.length 5 (s.result.kids.flatMap Ty.enc),
  dint s.body.id.shop, dint s.body.id.seq, dint s.body.id.index, dint s.body.kind, dint s.body.n, dint s.body.ref.shop, dint s.body.ref.seq, dint s.body.ref.index, dint s.body.ty.kind, dint s.body.ty.df.shop, dint s.body.ty.df.seq, dint s.body.ty.df.index,
    .sl s.body.ty.kids.length 5 (s.body.ty.kids.flatMap Ty.enc), .sl s.body.kids.length 15 (s.body.kids.flatMap Ex.enc), .sl s.body.names.length 1 (s.body.names.map dstr),
  dint s.place, .sl s.layout.length 1 (s.layout.map dstr)] := rfl
theorem DefT.enc_len (s : DefT) : s.enc.length = 31 := rfl
structure ModT where
  id : IdT
  name : ByteArray
  uses : List IdT
  defs : List IdT
  deriving Inhabited
def ModT.enc (m : ModT) : List D := [dint m.id.shop, dint m.id.seq, dint m.id.index, dstr m.name, .sl m.uses.length 3 (m.uses.flatMap IdT.enc), .sl m.defs.length 3 (m.defs.flatMap IdT.enc)]
theorem ModT.enc_eq (m : ModT) : m.enc = [dint m.id.shop, dint m.id.seq, dint m.id.index, dstr m.name, .sl m.uses.length 3 (m.uses.flatMap IdT.enc), .sl m.defs.length 3 (m.defs.flatMap IdT.enc)] := rfl
theorem ModT.enc_len (m : ModT) : m.enc.length = 6 := rfl
structure ProgT where
  mods : List ModT
  defs : List DefT
  deriving Inhabited
def ProgT.enc (p : ProgT) : List D := [.sl p.mods.length 6 (p.mods.flatMap ModT.enc), .sl p.defs.length 31 (p.defs.flatMap DefT.enc)]
theorem ProgT.enc_eq (p : ProgT) : p.enc = [.sl p.mods.length 6 (p.mods.flatMap ModT.enc), .sl p.defs.length 31 (p.defs.flatMap DefT.enc)] := rfl
theorem ProgT.enc_len (p : ProgT) : p.enc.length = 2 := rfl
/-- What was there as it was; the value as said. -/
abbrev Has (M : Mem) (Γ : List As) (R : Value → Prop) : Post := fun u M' Γ' => M' = M ∧ Γ' = Γ ∧ R u
section
variable {w0 : World} {M : Mem} {Γ : List As}
theorem Kn.ty {t : Ty} {us : List Value} (h : As.rds [dint t.kind, dint t.df.shop, dint t.df.seq, dint t.df.index, .sl t.kids.length 5 (t.kids.flatMap Ty.enc)] us ∈ Γ) : Kn w0 M Γ (RdL M t.enc us) := by rw [Ty.enc_eq]; exact Kn.rds h
theorem Kn.val {t : Val} {us : List Value} (h : As.rds [dint t.kind, dint t.n, .sl t.kids.length 3 (t.kids.flatMap Val.enc)] us ∈ Γ) : Kn w0 M Γ (RdL M t.enc us) := by rw [Val.enc_eq]; exact Kn.rds h
theorem Kn.ex {e : Ex} {us : List Value} (h : As.rds [dint e.id.shop, dint e.id.seq, dint e.id.index, dint e.kind, dint e.n, dint e.ref.shop, dint e.ref.seq, dint e.ref.index, dint e.ty.kind, dint e.ty.df.shop, dint e.ty.df.seq, dint e.ty.df.index,
    .sl e.ty.kids.length 5 (e.ty.kids.flatMap Ty.enc), .sl e.kids.length 15 (e.kids.flatMap Ex.enc), .sl e.names.length 1 (e.names.map dstr)] us ∈ Γ) : Kn w0 M Γ (RdL M e.enc us) := by rw [Ex.enc_eq]; exact Kn.rds h
end
theorem EL {ds : List D} {n : Nat} (h : ds.length = n := by first | rfl | exact Ty.enc_len _ | exact Val.enc_len _ | exact SlotT.enc_len _ | exact DefT.enc_len _ | exact ModT.enc_len _ | exact ProgT.enc_len _ | exact IdT.enc_len _ | exact Ex.enc_len _) : ds.length = n := h
theorem KK {w0 : World} {M : Mem} {Γ : List As} {F : Prop} (h : Kn w0 M Γ F := by first | exact Kn.rds MM | exact Kn.ty MM | exact Kn.val MM | exact Kn.ex MM | exact Kn.rd MM) : Kn w0 M Γ F := h
end Xe

/- THE PLAIN FUNCTIONS of types and values. No program in sight. -/
namespace Xe
open Go

def ex0 : Ex := .mk id0 0 0 id0 ty0 [] []
def def0 : DefT := ⟨id0, 0, id0, ByteArray.empty, [], ty0, ex0, 0, []⟩
def hasDef (p : ProgT) (id : IdT) : Prop := ∃ d ∈ p.defs, d.id = id
instance (p : ProgT) (id : IdT) : Decidable (hasDef p id) := by unfold hasDef; exact inferInstance
def theDef (p : ProgT) (id : IdT) : DefT := (p.defs.find? fun d => decide (d.id = id)).getD def0
theorem theDef_hit {p : ProgT} {id : IdT} {k : Nat} (h : k < p.defs.length) (h1 : ∀ j (hj : j < p.defs.length), j < k → p.defs[j].id ≠ id) (h2 : p.defs[k].id = id) : hasDef p id ∧ theDef p id = p.defs[k] := by
  refine ⟨⟨_, List.getElem_mem h, h2⟩, ?_⟩
  have : p.defs.find? (fun d => decide (d.id = id)) = some p.defs[k] := by
    rw [List.find?_eq_some_iff_getElem]
    exact ⟨by simpa using h2, k, h, rfl, fun j hj => by simpa using h1 j (by omega) hj⟩
  rw [theDef, this]; rfl
theorem theDef_miss {p : ProgT} {id : IdT} (h1 : ∀ j (hj : j < p.defs.length), p.defs[j].id ≠ id) : ¬ hasDef p id ∧ theDef p id = def0 := by
  have hn : ¬ hasDef p id := by
    rintro ⟨d, hd, he⟩
    obtain ⟨j, hj, rfl⟩ := List.mem_iff_getElem.1 hd
    exact h1 j hj he
  refine ⟨hn, ?_⟩
  have : p.defs.find? (fun d => decide (d.id = id)) = none := by
    rw [List.find?_eq_none]
    intro d hd
    simpa using fun e => hn ⟨d, hd, e⟩
  rw [theDef, this]; rfl
/-- The place of the first one that is so, or -1. -/
def idxL {α : Type} (q : α → Bool) (l : List α) : Int := match l.findIdx? q with
  | some i => (i : Int)
  | none => -1
theorem idxL_hit {α : Type} {q : α → Bool} {l : List α} {k : Nat} (h : k < l.length) (h1 : ∀ j (hj : j < l.length), j < k → q l[j] ≠ true) (h2 : q l[k] = true) : idxL q l = k := by
  have : l.findIdx? q = some k := by
    rw [List.findIdx?_eq_some_iff_getElem]
    exact ⟨h, h2, fun j hj => by have := h1 j (by omega) hj; simpa using this⟩
  rw [idxL, this]
theorem idxL_miss {α : Type} {q : α → Bool} {l : List α} (h1 : ∀ j (hj : j < l.length), q l[j] ≠ true) : idxL q l = -1 := by
  have : l.findIdx? q = none := by
    rw [List.findIdx?_eq_none_iff]
    intro y hy
    obtain ⟨j, hj, rfl⟩ := List.mem_iff_getElem.1 hy
    simpa using h1 j hj
  rw [idxL, this]
theorem idxL_cases {α : Type} (q : α → Bool) (l : List α) : (idxL q l = -1 ∧ ∀ j (hj : j < l.length), q l[j] ≠ true) ∨ ∃ k, ∃ h : k < l.length, idxL q l = k ∧ q l[k] = true ∧ ∀ j (hj : j < l.length), j < k → q l[j] ≠ true := by
  unfold idxL
  cases hf : l.findIdx? q with
  | none =>
    refine .inl ⟨rfl, fun j hj => ?_⟩
    have := List.findIdx?_eq_none_iff.1 hf l[j] (List.getElem_mem hj)
    simpa using this
  | some k =>
    obtain ⟨h, h1, h2⟩ := List.findIdx?_eq_some_iff_getElem.1 hf
    exact .inr ⟨k, h, rfl, h1, fun j hj hlt => by simpa using h2 j hlt⟩

theorem idxL_nn {α : Type} {q : α → Bool} {l : List α} (h : ¬ idxL q l < 0) : ∃ k, ∃ h : k < l.length, idxL q l = k ∧ q l[k] = true ∧ ∀ j (hj : j < l.length), j < k → q l[j] ≠ true := by
  rcases idxL_cases q l with ⟨h1, _⟩ | h1
  · omega
  · exact h1
theorem idxL_neg {α : Type} {q : α → Bool} {l : List α} (h : idxL q l < 0) : ∀ j (hj : j < l.length), q l[j] ≠ true := by
  rcases idxL_cases q l with ⟨_, h1⟩ | ⟨k, _, h1, _⟩
  · exact h1
  · omega

/-! ### Types -/
def isTyDef (p : ProgT) (id : IdT) : Prop := hasDef p id ∧ ((theDef p id).kind = 0 ∨ (theDef p id).kind = 1)
instance (p : ProgT) (id : IdT) : Decidable (isTyDef p id) := by unfold isTyDef; exact inferInstance
def validTF (p : ProgT) : Nat → Ty → Bool
  | 0, _ => false
  | n + 1, t => if t.kind = 2 then decide (t.df = id0) && (match t.kids with | [x] => validTF p n x | _ => false)
    else t.kids.isEmpty && (if t.kind = 3 then decide (isTyDef p t.df) else decide (t.df = id0) && decide (t.kind = 0 ∨ t.kind = 1))
def validT (p : ProgT) (t : Ty) : Prop := validTF p 24 t = true
instance (p : ProgT) (t : Ty) : Decidable (validT p t) := by unfold validT; exact inferInstance
theorem validTF_list {p : ProgT} {n : Nat} {t : Ty} (hk : t.kind = 2) : validTF p (n + 1) t = true ↔ t.df = id0 ∧ ∃ y, t.kids = [y] ∧ validTF p n y = true := by
  rw [validTF, if_pos hk, Bool.and_eq_true, decide_eq_true_eq]
  refine and_congr_right fun _ => ?_
  split
  · rename_i x hx; rw [hx]; simp
  · rename_i x hx; simp; exact fun y e => absurd e (hx y)
theorem validTF_kid {p : ProgT} {n : Nat} {t : Ty} (hk : t.kind = 2) (h1 : t.df = id0) (h2 : t.kids.length = 1) : validTF p (n + 1) t = true ↔ validTF p n (t.kids[0]'(by omega)) = true := by
  rw [validTF_list hk]
  have e : t.kids = [t.kids[0]'(by omega)] := by
    apply List.ext_getElem
    · simp [h2]
    · intro i h3 h4; have : i = 0 := by simp at h4; omega
      subst this; rfl
  constructor
  · rintro ⟨_, y, h, hv⟩; simp only [h]; exact hv
  · exact fun hv => ⟨h1, _, e, hv⟩
theorem validTF_kids {p : ProgT} {n : Nat} {t : Ty} (hk : t.kind = 2) (h : validTF p (n + 1) t = true) : t.df = id0 ∧ t.kids.length = 1 := by
  obtain ⟨h1, y, h2, _⟩ := (validTF_list hk).1 h
  exact ⟨h1, by simp [h2]⟩
theorem validTF_def {p : ProgT} {n : Nat} {t : Ty} (hk : t.kind = 3) : validTF p (n + 1) t = true ↔ isTyDef p t.df ∧ t.kids.length = 0 := by
  rw [validTF, if_neg (by omega), if_pos hk, Bool.and_eq_true, decide_eq_true_eq, List.isEmpty_iff, and_comm, List.length_eq_zero_iff]
theorem validTF_one {p : ProgT} {n : Nat} {t : Ty} (hk : t.kind ≠ 2) (hk3 : t.kind ≠ 3) : validTF p (n + 1) t = true ↔ t.kids.length = 0 ∧ t.df = id0 ∧ (t.kind = 0 ∨ t.kind = 1) := by
  rw [validTF, if_neg hk, if_neg hk3, Bool.and_eq_true, Bool.and_eq_true, decide_eq_true_eq, decide_eq_true_eq, List.isEmpty_iff, List.length_eq_zero_iff]

/-! ### Weights, depths, order -/
mutual
def Val.wt : Val → Int
  | .mk k n l => if k = 0 then (if n < 0 then -n else n) else if k = 1 then n else if k = 2 then Val.wts l else if k = 3 then n + Val.wts l else if k = 4 then l.length + Val.wts l else 0
def Val.wts : List Val → Int
  | [] => 0
  | v :: vs => v.wt + Val.wts vs
end
/-- What a node itself adds. -/
def Val.own (v : Val) : Int := if v.kind = 0 then (if v.n < 0 then -v.n else v.n) else if v.kind = 1 then v.n else if v.kind = 2 then 0 else if v.kind = 3 then v.n else v.kids.length
mutual
def Val.depth : Val → Nat
  | .mk _ _ l => Val.depths l + 1
def Val.depths : List Val → Nat
  | [] => 0
  | v :: vs => max v.depth (Val.depths vs)
end
theorem Val.depth_eq (v : Val) : v.depth = Val.depths v.kids + 1 := by cases v; rw [Val.depth]; rfl
theorem Val.depths_append : ∀ (l m : List Val), Val.depths (l ++ m) = max (Val.depths l) (Val.depths m)
  | [], m => by simp [Val.depths]
  | x :: xs, m => by have := Val.depths_append xs m; simp only [List.cons_append, Val.depths]; omega
theorem Val.depths_succ (l : List Val) (k : Nat) (h : k < l.length) : Val.depths (l.take (k + 1)) = max (Val.depths (l.take k)) l[k].depth := by
  rw [List.take_succ_eq_append_getElem h, Val.depths_append]; simp [Val.depths]
theorem Val.depth_mem : ∀ {l : List Val} {t : Val}, t ∈ l → t.depth ≤ Val.depths l
  | x :: xs, t, h => by
    rw [Val.depths]
    rcases List.mem_cons.1 h with rfl | h
    · omega
    · have := Val.depth_mem h; omega
theorem Val.depth_kid {t k : Val} (h : k ∈ t.kids) : k.depth < t.depth := by
  have := Val.depth_mem h; rw [Val.depth_eq t]; omega
def cmpI (a b : Int) : Int := if a < b then -1 else if b < a then 1 else 0
mutual
def cmpV : Val → Val → Int
  | .mk k n l, .mk k' n' l' => if cmpI k k' ≠ 0 then cmpI k k' else if cmpI n n' ≠ 0 then cmpI n n' else if cmpI l.length l'.length ≠ 0 then cmpI l.length l'.length else cmpVs l l'
def cmpVs : List Val → List Val → Int
  | [], [] => 0
  | [], _ :: _ => -1
  | _ :: _, [] => 1
  | x :: xs, y :: ys => if cmpV x y ≠ 0 then cmpV x y else cmpVs xs ys
end
theorem cmpV_eq (a b : Val) : cmpV a b = if cmpI a.kind b.kind ≠ 0 then cmpI a.kind b.kind else if cmpI a.n b.n ≠ 0 then cmpI a.n b.n else if cmpI a.kids.length b.kids.length ≠ 0 then cmpI a.kids.length b.kids.length else cmpVs a.kids b.kids := by
  cases a; cases b; rw [cmpV]; rfl
theorem cmpVs_hit : ∀ {l m : List Val} {k : Nat} (h : k < l.length) (h' : k < m.length), (∀ j (hj : j < l.length) (hj' : j < m.length), j < k → cmpV l[j] m[j] = 0) → cmpV l[k] m[k] ≠ 0 → cmpVs l m = cmpV l[k] m[k]
  | x :: xs, y :: ys, 0, _, _, _, hn => by rw [cmpVs]; simp only [List.getElem_cons_zero] at hn ⊢; rw [if_pos hn]
  | x :: xs, y :: ys, k + 1, h, h', hz, hn => by
    have h0 := hz 0 (by simp) (by simp) (by omega)
    simp only [List.getElem_cons_zero] at h0
    rw [cmpVs, if_neg (by simp [h0])]
    exact cmpVs_hit (by simpa using h) (by simpa using h') (fun j hj hj' hlt => hz (j + 1) (Nat.succ_lt_succ hj) (Nat.succ_lt_succ hj') (by omega)) hn
theorem cmpVs_zero : ∀ {l m : List Val}, l.length = m.length → (∀ j (hj : j < l.length) (hj' : j < m.length), cmpV l[j] m[j] = 0) → cmpVs l m = 0
  | [], [], _, _ => by rw [cmpVs]
  | x :: xs, y :: ys, hl, hz => by
    have h0 := hz 0 (by simp) (by simp)
    simp only [List.getElem_cons_zero] at h0
    rw [cmpVs, if_neg (by simp [h0])]
    exact cmpVs_zero (by simpa using hl) (fun j hj hj' => hz (j + 1) (Nat.succ_lt_succ hj) (Nat.succ_lt_succ hj'))
theorem cmpVs_short : ∀ {l m : List Val}, l.length < m.length → (∀ j (hj : j < l.length) (hj' : j < m.length), cmpV l[j] m[j] = 0) → cmpVs l m = -1
  | [], y :: ys, _, _ => by rw [cmpVs]
  | x :: xs, y :: ys, hl, hz => by
    have h0 := hz 0 (by simp) (by simp)
    simp only [List.getElem_cons_zero] at h0
    rw [cmpVs, if_neg (by simp [h0])]
    exact cmpVs_short (by simpa using hl) (fun j hj hj' => hz (j + 1) (Nat.succ_lt_succ hj) (Nat.succ_lt_succ hj'))
theorem cmpVs_long : ∀ {l m : List Val} (hl : m.length < l.length), (∀ j (hj : j < l.length) (hj' : j < m.length), cmpV l[j] m[j] = 0) → cmpVs l m = 1
  | x :: xs, [], _, _ => by rw [cmpVs]
  | x :: xs, y :: ys, hl, hz => by
    have h0 := hz 0 (by simp) (by simp)
    simp only [List.getElem_cons_zero] at h0
    rw [cmpVs, if_neg (by simp [h0])]
    exact cmpVs_long (by simpa using hl) (fun j hj hj' => hz (j + 1) (Nat.succ_lt_succ hj) (Nat.succ_lt_succ hj'))
def orI : List Int → Int
  | [] => 0
  | x :: xs => if x ≠ 0 then x else orI xs
theorem orI_hit : ∀ {l : List Int} {k : Nat} (h : k < l.length), (∀ j (hj : j < l.length), j < k → ¬ l[j] ≠ 0) → l[k] ≠ 0 → orI l = l[k]
  | x :: xs, 0, _, _, hn => by rw [orI]; simp only [List.getElem_cons_zero] at hn ⊢; rw [if_pos hn]
  | x :: xs, k + 1, h, hz, hn => by
    have h0 := hz 0 (by simp) (by omega)
    simp only [List.getElem_cons_zero] at h0
    rw [orI, if_neg h0]
    exact orI_hit (by simpa using h) (fun j hj hlt => hz (j + 1) (Nat.succ_lt_succ hj) (by omega)) hn
theorem orI_miss : ∀ {l : List Int}, (∀ j (hj : j < l.length), ¬ l[j] ≠ 0) → orI l = 0
  | [], _ => rfl
  | x :: xs, hz => by
    have h0 := hz 0 (by simp)
    simp only [List.getElem_cons_zero] at h0
    rw [orI, if_neg h0]
    exact orI_miss (fun j hj => hz (j + 1) (Nat.succ_lt_succ hj))
def head3 (v : Val) : List Int := [v.kind, v.n, v.kids.length]
theorem head3_eq {a b : Val} (h : ∀ j (hj : j < (head3 a).length), j < 3 → (head3 a)[j] = (head3 b)[j]) : a.kind = b.kind ∧ a.n = b.n ∧ a.kids.length = b.kids.length := by
  have h0 := h 0 (by simp [head3]) (by omega)
  have h1 := h 1 (by simp [head3]) (by omega)
  have h2 := h 2 (by simp [head3]) (by omega)
  simp only [head3, List.getElem_cons_zero, List.getElem_cons_succ] at h0 h1 h2
  exact ⟨h0, h1, by omega⟩
theorem cmpI_self (a : Int) : cmpI a a = 0 := by unfold cmpI; rw [if_neg (by omega), if_neg (by omega)]
theorem cmpI_lt {a b : Int} (h : a < b) : cmpI a b = -1 := by unfold cmpI; rw [if_pos h]
theorem cmpI_gt {a b : Int} (h : b < a) : cmpI a b = 1 := by unfold cmpI; rw [if_neg (by omega), if_pos h]
theorem cmpV_head {a b : Val} {k : Nat} (hk : k < 3) (h : ∀ j (hj : j < (head3 a).length), j < k → (head3 a)[j] = (head3 b)[j]) (c : Int) (hc : c ≠ 0) (hd : cmpI ((head3 a)[k]'(by simpa [head3] using hk)) ((head3 b)[k]'(by simpa [head3] using hk)) = c) : cmpV a b = c := by
  rw [cmpV_eq]
  match k, hk with
  | 0, _ =>
    simp only [head3, List.getElem_cons_zero] at hd
    rw [hd, if_pos hc]
  | 1, _ =>
    have h0 := h 0 (by simp [head3]) (by omega)
    simp only [head3, List.getElem_cons_zero, List.getElem_cons_succ] at h0 hd
    rw [h0, cmpI_self, if_neg (by simp), hd, if_pos hc]
  | 2, _ =>
    have h0 := h 0 (by simp [head3]) (by omega)
    have h1 := h 1 (by simp [head3]) (by omega)
    simp only [head3, List.getElem_cons_zero, List.getElem_cons_succ] at h0 h1 hd
    rw [h0, h1, cmpI_self, cmpI_self, if_neg (by simp), if_neg (by simp), hd, if_pos hc]
theorem cmpV_kids {a b : Val} (h : a.kind = b.kind ∧ a.n = b.n ∧ a.kids.length = b.kids.length) : cmpV a b = cmpVs a.kids b.kids := by
  obtain ⟨h0, h1, h2⟩ := h
  rw [cmpV_eq, h0, h1, h2, cmpI_self, cmpI_self, cmpI_self, if_neg (by simp), if_neg (by simp), if_neg (by simp)]
theorem w64_nat (a b : Nat) : w64 (w64 (a : Int) + w64 (b : Int)) = w64 ((a + b : Nat) : Int) := by rw [w64_add, w64_add2, Int.natCast_add]
theorem cast_max (a b : Nat) : ((max a b : Nat) : Int) = max (a : Int) b := by omega
theorem cmpV_or (a b : Val) : cmpV a b = if orI [cmpI a.kind b.kind, cmpI a.n b.n, cmpI a.kids.length b.kids.length] ≠ 0 then orI [cmpI a.kind b.kind, cmpI a.n b.n, cmpI a.kids.length b.kids.length] else cmpVs a.kids b.kids := by
  rw [cmpV_eq]
  generalize cmpI a.kind b.kind = x
  generalize cmpI a.n b.n = y
  generalize cmpI a.kids.length b.kids.length = z
  simp only [orI]
  by_cases h1 : x = 0 <;> by_cases h2 : y = 0 <;> by_cases h3 : z = 0 <;> simp [h1, h2, h3]

/-! ### Searches that turn a state; small values -/
def contS {α σ : Type} (q : α → σ → Bool × σ) : List α → σ → Bool × σ
  | [], s => (false, s)
  | x :: xs, s => if (q x s).1 then (true, (q x s).2) else contS q xs (q x s).2
/-- The state ahead of the k-th. -/
def stS {α σ : Type} (q : α → σ → Bool × σ) : List α → σ → Nat → σ
  | _, s, 0 => s
  | [], s, _ + 1 => s
  | x :: xs, s, k + 1 => stS q xs (q x s).2 k
mutual
def visitV : Val → Int → Int → Bool × Int
  | .mk _ _ l, d, s => if 0 ≤ s - 1 ∧ d ≤ 24 then visitVs l (d + 1) (s - 1) else (false, s - 1)
def visitVs : List Val → Int → Int → Bool × Int
  | [], _, s => (true, s)
  | v :: vs, d, s => if (visitV v d s).1 then visitVs vs d (visitV v d s).2 else (false, (visitV v d s).2)
end
def notQ (d : Int) (v : Val) (s : Int) : Bool × Int := (!(visitV v d s).1, (visitV v d s).2)
def smallV (v : Val) : Prop := (visitV v 1 256).1 = true
instance (v : Val) : Decidable (smallV v) := by unfold smallV; exact inferInstance

/-! ### Values of a type -/
mutual
def fitsB (p : ProgT) : Val → Ty → Bool
  | .mk k n l, t => decide (validT p t) && (if t.kind = 0 then decide (k = 0) && l.isEmpty && decide (-1099511627776 ≤ n ∧ n ≤ 1099511627776)
    else if t.kind = 1 then decide (k = 1) && l.isEmpty && decide (n = 0 ∨ n = 1)
    else if t.kind = 2 then decide (k = 4) && decide (n = 0) && fitsL p l (t.kids.headD ty0)
    else if (theDef p t.df).kind = 1 then decide (k = 3) && decide (0 ≤ n ∧ n < (theDef p t.df).slots.length) && decide (l.length = 1) && fitsL p l (((theDef p t.df).slots.map SlotT.ty).getD n.toNat ty0)
    else decide (k = 2) && decide (n = 0) && decide (l.length = (theDef p t.df).slots.length) && fitsZ p l ((theDef p t.df).slots.map SlotT.ty))
def fitsL (p : ProgT) : List Val → Ty → Bool
  | [], _ => true
  | v :: vs, t => fitsB p v t && fitsL p vs t
def fitsZ (p : ProgT) : List Val → List Ty → Bool
  | [], _ => true
  | _ :: _, [] => false
  | v :: vs, t :: ts => fitsB p v t && fitsZ p vs ts
end
theorem headD_0 {l : List Ty} (h : 0 < l.length) : l.headD ty0 = l[0] := by cases l with
  | nil => simp at h
  | cons x xs => rfl
def validV (p : ProgT) (t : Ty) (v : Val) : Prop := smallV v ∧ fitsB p v t = true
instance (p : ProgT) (t : Ty) (v : Val) : Decidable (validV p t v) := by unfold validV; exact inferInstance

/-! ### Zero values -/
def v0 : Val := .mk 0 0 []
abbrev ZR := Val × Int × Int
def zeroL (g : Ty → Int → ZR) : List Ty → Int → List Val × Int × Int
  | [], l => ([], 0, l)
  | t :: ts, l => if (g t l).2.1 ≠ 0 then ([], (g t l).2.1, (g t l).2.2)
    else if (zeroL g ts (g t l).2.2).2.1 ≠ 0 then ([], (zeroL g ts (g t l).2.2).2.1, (zeroL g ts (g t l).2.2).2.2)
    else ((g t l).1 :: (zeroL g ts (g t l).2.2).1, 0, (zeroL g ts (g t l).2.2).2.2)
def zNode (k : Int) (r : List Val × Int × Int) : ZR := if r.2.1 ≠ 0 then (v0, r.2.1, r.2.2) else (.mk k 0 r.1, 0, r.2.2)
def zeroF (p : ProgT) : Nat → Ty → Int → ZR
  | 0, t, l => if ¬ validT p t then (v0, 1, l) else (v0, 4, l - 1)
  | n + 1, t, l => if ¬ validT p t then (v0, 1, l) else if l - 1 < 0 then (v0, 4, l - 1)
    else if t.kind = 0 then (.mk 0 0 [], 0, l - 1) else if t.kind = 1 then (.mk 1 0 [], 0, l - 1) else if t.kind = 2 then (.mk 4 0 [], 0, l - 1)
    else if (theDef p t.df).kind = 1 then (if (theDef p t.df).slots.length = 0 then (v0, 1, l - 1) else zNode 3 (zeroL (zeroF p n) (((theDef p t.df).slots.take 1).map SlotT.ty) (l - 1)))
    else zNode 2 (zeroL (zeroF p n) ((theDef p t.df).slots.map SlotT.ty) (l - 1))
def zJoin (dn : List Val) (r : List Val × Int × Int) : List Val × Int × Int := if r.2.1 ≠ 0 then ([], r.2.1, r.2.2) else (dn ++ r.1, 0, r.2.2)
theorem zeroL_err (g : Ty → Int → ZR) : ∀ (ts : List Ty) (l : Int), (zeroL g ts l).2.1 ≠ 0 → (zeroL g ts l).1 = []
  | [], l, h => by simp [zeroL] at h
  | t :: ts, l, h => by
    rw [zeroL] at h ⊢
    split at h
    · rename_i h1; rw [if_pos h1]
    · rename_i h1
      rw [if_neg h1]
      split at h
      · rename_i h2; rw [if_pos h2]
      · simp at h
theorem zJoin_nil (g : Ty → Int → ZR) (ts : List Ty) (l : Int) : zeroL g ts l = zJoin [] (zeroL g ts l) := by
  unfold zJoin
  split
  · rename_i h
    rw [← zeroL_err g ts l h]
  · rename_i h
    have : (zeroL g ts l).2.1 = 0 := Decidable.not_not.1 h
    rw [← this]; simp
theorem zJoin_err {g : Ty → Int → ZR} {ts : List Ty} {l : Int} {k : Nat} {dn : List Val} {lk : Int} (hk : k < ts.length) (h : zeroL g ts l = zJoin dn (zeroL g (ts.drop k) lk)) (he : (g ts[k] lk).2.1 ≠ 0) : zeroL g ts l = ([], (g ts[k] lk).2.1, (g ts[k] lk).2.2) := by
  rw [h, List.drop_eq_getElem_cons hk, zeroL, if_pos he, zJoin, if_pos he]
theorem zJoin_step {g : Ty → Int → ZR} {ts : List Ty} {l : Int} {k : Nat} {dn : List Val} {lk : Int} (hk : k < ts.length) (h : zeroL g ts l = zJoin dn (zeroL g (ts.drop k) lk)) (he : ¬ (g ts[k] lk).2.1 ≠ 0) : zeroL g ts l = zJoin (dn ++ [(g ts[k] lk).1]) (zeroL g (ts.drop (k + 1)) (g ts[k] lk).2.2) := by
  rw [h, List.drop_eq_getElem_cons hk, zeroL, if_neg he]
  generalize zeroL g (List.drop (k + 1) ts) (g ts[k] lk).2.2 = r
  unfold zJoin
  by_cases h3 : r.2.1 = 0 <;> simp [h3]
theorem zJoin_end {g : Ty → Int → ZR} {ts : List Ty} {l : Int} {k : Nat} {dn : List Val} {lk : Int} (hk : ts.length ≤ k) (h : zeroL g ts l = zJoin dn (zeroL g (ts.drop k) lk)) : zeroL g ts l = (dn, 0, lk) := by
  rw [h, List.drop_of_length_le hk, zeroL, zJoin]; simp
theorem zeroF_arg {p : ProgT} {n : Nat} {t : Ty} {l : Int} (h : ¬ validT p t) : zeroF p n t l = (v0, 1, l) := by
  cases n with
  | zero => rw [zeroF, if_pos h]
  | succ n => rw [zeroF, if_pos h]
theorem zeroF_lim {p : ProgT} {n : Nat} {t : Ty} {l : Int} (h : validT p t) (hl : l - 1 < 0 ∨ n = 0) : zeroF p n t l = (v0, 4, l - 1) := by
  cases n with
  | zero => rw [zeroF, if_neg (by simp [h])]
  | succ n => rw [zeroF, if_neg (by simp [h]), if_pos (by omega)]
theorem zeroF_left (p : ProgT) : ∀ (n : Nat) (t : Ty) (l : Int), (zeroF p n t l).2.1 = 0 → 0 ≤ (zeroF p n t l).2.2 ∧ (zeroF p n t l).2.2 ≤ l - 1
  | 0, t, l, h => by
    rw [zeroF] at h
    split at h <;> simp at h
  | n + 1, t, l, h => by
    have key : ∀ (ts : List Ty) (l0 : Int), 0 ≤ l0 → (zeroL (zeroF p n) ts l0).2.1 = 0 → 0 ≤ (zeroL (zeroF p n) ts l0).2.2 ∧ (zeroL (zeroF p n) ts l0).2.2 ≤ l0 := by
      intro ts
      induction ts with
      | nil => intro l0 h0 _; simp [zeroL]; exact h0
      | cons t ts ih =>
        intro l0 h0 he
        rw [zeroL] at he ⊢
        split at he
        · rename_i h1; exact absurd he h1
        · rename_i h1
          rw [if_neg h1]
          have h2 := zeroF_left p n t l0 (Decidable.not_not.1 h1)
          split at he
          · rename_i h3; exact absurd he h3
          · rename_i h3
            rw [if_neg h3]
            have := ih _ h2.1 (Decidable.not_not.1 h3)
            exact ⟨this.1, by have := this.2; simp only; omega⟩
    have hz : ∀ (k : Int) (ts : List Ty), 0 ≤ l - 1 → (zNode k (zeroL (zeroF p n) ts (l - 1))).2.1 = 0 → 0 ≤ (zNode k (zeroL (zeroF p n) ts (l - 1))).2.2 ∧ (zNode k (zeroL (zeroF p n) ts (l - 1))).2.2 ≤ l - 1 := by
      intro k ts h0 he
      unfold zNode at he ⊢
      split at he
      · rename_i h1; exact absurd he h1
      · rename_i h1
        rw [if_neg h1]
        exact key ts (l - 1) h0 (Decidable.not_not.1 h1)
    rw [zeroF] at h ⊢
    split at h
    · simp at h
    · rename_i h1
      rw [if_neg h1]
      split at h
      · simp at h
      · rename_i h2
        rw [if_neg h2]
        split at h
        · rename_i h3; rw [if_pos h3]; simp; omega
        · rename_i h3
          rw [if_neg h3]
          split at h
          · rename_i h4; rw [if_pos h4]; simp; omega
          · rename_i h4
            rw [if_neg h4]
            split at h
            · rename_i h5; rw [if_pos h5]; simp; omega
            · rename_i h5
              rw [if_neg h5]
              split at h
              · rename_i h6
                rw [if_pos h6]
                split at h
                · simp at h
                · rename_i h7; rw [if_neg h7]; exact hz _ _ (by omega) h
              · rename_i h6; rw [if_neg h6]; exact hz _ _ (by omega) h
def onesN : Nat := 1
/-- The zero value of a type, or what is wrong. -/
def zeroV (p : ProgT) (t : Ty) : ZR := zeroF p 24 t 256
theorem snoc_flat (l : List Val) (v : Val) : (l ++ [v]).flatMap Val.enc = l.flatMap Val.enc ++ v.enc := by simp
end Xe

/- THE PLAIN FUNCTIONS of encodings. No program in sight. -/
namespace Xe
open Go

/-- How many bytes a number takes. -/
def nd (m : Nat) : Nat := if m = 0 then 0 else nd (m / 256) + 1
termination_by m
decreasing_by exact Nat.div_lt_self (by omega) (by omega)
def mag (n : Int) : Nat := (if n < 0 then -1 - n else n).toNat
def sgn (n : Int) : Nat := if n < 0 then 255 else 0
def digitJ (n : Int) (j r : Nat) : Nat := flip8 (sgn n) (mag n / 2 ^ (8 * (j - 1 - r)) % 256)
def encP (n : Int) (j r : Nat) : List Nat := flip8 (sgn n) (128 + j) :: (List.range r).map (digitJ n j)
/-- The encoding of a number. -/
def encI (n : Int) : List Nat := encP n (nd (mag n)) (nd (mag n))
mutual
def encV : Val → List Nat
  | .mk k n l => encI k ++ encI n ++ encI l.length ++ encVs l
def encVs : List Val → List Nat
  | [] => []
  | v :: vs => encV v ++ encVs vs
end
theorem kids_le_size (v : Val) : v.kids.length < v.size := by
  have : ∀ l : List Val, l.length ≤ Val.sizes l := by
    intro l
    induction l with
    | nil => simp
    | cons x xs ih => have := Val.size_pos x; rw [Val.sizes, List.length_cons]; omega
  have := this v.kids
  rw [Val.size_eq]; omega
def headB (v : Val) : List Nat := encI v.kind ++ encI v.n ++ encI v.kids.length
def flipOf (h : Nat) : Nat := if h < 128 then 255 else 0
/-- How many bytes stand behind the first one. -/
def kOf (h : Nat) : Nat := flip8 (flipOf h) h - 128
def wordOf (f : Nat) (l : List Nat) : Nat := l.foldl (fun m c => m * 256 + flip8 f c) 0
def getI (b : List Nat) : Int × Int × Int := match b with
  | [] => (0, 0, 3)
  | h :: t => if 8 < kOf h then (0, 0, 2) else if t.length < kOf h then (0, 0, 3)
    else if 0 < kOf h ∧ flip8 (flipOf h) (t.headD 0) = 0 then (0, 0, 2)
    else if 9223372036854775808 ≤ wordOf (flipOf h) (t.take (kOf h)) then (0, 0, 2)
    else (if h < 128 then -1 - (wordOf (flipOf h) (t.take (kOf h)) : Int) else (wordOf (flipOf h) (t.take (kOf h)) : Int), (kOf h : Int) + 1, 0)

/-! ### Reading a value -/
/-- j numbers from a place on: those read, what was wrong, the place behind. -/
def nums (b : List Nat) : Nat → Nat → List Int → List Int × Int × Nat
  | 0, at_, acc => (acc, 0, at_)
  | j + 1, at_, acc => if (getI (b.drop at_)).2.2 ≠ 0 then (acc, (getI (b.drop at_)).2.2, at_) else nums b j (at_ + (getI (b.drop at_)).2.1.toNat) (acc ++ [(getI (b.drop at_)).1])
abbrev DR := Val × Int × Int × Nat
def decL (g : Int → Nat → DR) : Nat → Int → Nat → List Val × Int × Int × Nat
  | 0, l, a => ([], 0, l, a)
  | m + 1, l, a => if (g l a).2.1 ≠ 0 then ([], (g l a).2)
    else if (decL g m (g l a).2.2.1 (g l a).2.2.2).2.1 ≠ 0 then ([], (decL g m (g l a).2.2.1 (g l a).2.2.2).2)
    else ((g l a).1 :: (decL g m (g l a).2.2.1 (g l a).2.2.2).1, (decL g m (g l a).2.2.1 (g l a).2.2.2).2)
def dNode (k n : Int) (q : List Val × Int × Int × Nat) : DR := if q.2.1 ≠ 0 then (v0, q.2) else (.mk k n q.1, q.2)
def decN (g : Int → Nat → DR) (l : Int) (r : List Int × Int × Nat) : DR :=
  if r.2.1 ≠ 0 then (v0, r.2.1, l, r.2.2) else if r.1.getD 2 0 < 0 then (v0, 2, l, r.2.2) else dNode (r.1.getD 0 0) (r.1.getD 1 0) (decL g (r.1.getD 2 0).toNat l r.2.2)
def decF (b : List Nat) : Nat → Int → Nat → DR
  | 0, l, a => (v0, 4, l - 1, a)
  | n + 1, l, a => if l - 1 < 0 then (v0, 4, l - 1, a) else decN (decF b n) (l - 1) (nums b 3 a [])
def dJoin (dn : List Val) (q : List Val × Int × Int × Nat) : List Val × Int × Int × Nat := if q.2.1 ≠ 0 then ([], q.2) else (dn ++ q.1, q.2)
def decV (b : List Nat) : Val × Int × Int := if (decF b 24 256 0).2.1 ≠ 0 then (v0, 0, (decF b 24 256 0).2.1) else ((decF b 24 256 0).1, ((decF b 24 256 0).2.2.2 : Int), 0)
def pad3 (acc : List Int) : List Int := acc ++ List.replicate (3 - acc.length) 0
end Xe

/- THE PLAIN FUNCTIONS of the generator of programs and values. No program in sight. -/
namespace Xe
open Go
def vnum (n : Int) : Val := .mk 0 n []
def idK (n : Int) : IdT := ⟨0, 1 + n.tdiv 32, n.tmod 32⟩
def ofT (i : IdT) : Ty := .mk 3 i []
def listT (t : Ty) : Ty := .mk 2 id0 [t]
/-- A type made of a number. -/
def pickTy (n : Int) (defs : Int) : Ty :=
  if around n (4 + 2 * defs) = 1 then .mk 1 id0 []
  else if around n (4 + 2 * defs) = 2 then listT ty0
  else if 4 ≤ around n (4 + 2 * defs) then
    (if around (n.tdiv 64) 5 = 1 then listT (ofT (idK (1 + (around n (4 + 2 * defs) - 4).tdiv 2))) else ofT (idK (1 + (around n (4 + 2 * defs) - 4).tdiv 2)))
  else ty0
theorem tdiv_InI {z : Int} (h : InI z) (m : Int) (hm : 1 ≤ m) : InI (z.tdiv m) := by
  unfold InI at h ⊢
  by_cases h0 : 0 ≤ z
  · rw [Int.tdiv_eq_ediv_of_nonneg h0]
    have h1 := Int.ediv_nonneg h0 (show 0 ≤ m by omega)
    have h2 := Int.ediv_le_self m h0
    omega
  · have e : z.tdiv m = -((-z) / m) := by
      rw [← Int.tdiv_eq_ediv_of_nonneg (by omega), Int.neg_tdiv]; omega
    have h1 := Int.ediv_nonneg (show 0 ≤ -z by omega) (show 0 ≤ m by omega)
    have h2 := Int.ediv_le_self m (show 0 ≤ -z by omega)
    rw [e]; omega
end Xe

/- THE SMALL EXAMPLE: a program of two types. No program in sight. -/
namespace Xe
open Go
abbrev sX : ByteArray := ⟨#[120]⟩
abbrev sY : ByteArray := ⟨#[121]⟩
abbrev sZ : ByteArray := ⟨#[122]⟩
abbrev sDot : ByteArray := ⟨#[68, 111, 116]⟩
abbrev sBox : ByteArray := ⟨#[66, 111, 120]⟩
abbrev sPoint : ByteArray := ⟨#[80, 111, 105, 110, 116]⟩
abbrev sShape : ByteArray := ⟨#[83, 104, 97, 112, 101]⟩
abbrev sState : ByteArray := ⟨#[83, 116, 97, 116, 101]⟩
abbrev sEvent : ByteArray := ⟨#[69, 118, 101, 110, 116]⟩
def slX : SlotT := ⟨⟨0, 1, 3⟩, sX, ty0, 0, 0⟩
def slY : SlotT := ⟨⟨0, 1, 4⟩, sY, ty0, 0, 0⟩
def slDot : SlotT := ⟨⟨0, 1, 5⟩, sDot, ty0, 0, 0⟩
def slBox : SlotT := ⟨⟨0, 1, 6⟩, sBox, .mk 3 ⟨0, 1, 1⟩ [], 0, 0⟩
def dPoint : DefT := ⟨⟨0, 1, 1⟩, 0, id0, sPoint, [slX, slY], ty0, ex0, 0, []⟩
def dShape : DefT := ⟨⟨0, 1, 2⟩, 1, id0, sShape, [slDot, slBox], ty0, ex0, 0, []⟩
def exP : ProgT := ⟨[], [dPoint, dShape]⟩
/-- The cells of a slot whose type has no kids; of a definition with neither body nor result. -/
def SlotT.vs (s : SlotT) : List Value := [vint s.id.shop, vint s.id.seq, vint s.id.index, .string s.name, vint s.ty.kind, vint s.ty.df.shop, vint s.ty.df.seq, vint s.ty.df.index, .slice none 0 0, vint s.most, vint s.place]
def dvs (id : IdT) (kind : Int) (mod : IdT) (name : ByteArray) (u : Value) : List Value := [vint id.shop, vint id.seq, vint id.index, vint kind, vint mod.shop, vint mod.seq, vint mod.index, .string name, u,
  vint 0, vint 0, vint 0, vint 0, .slice none 0 0,
  vint 0, vint 0, vint 0, vint 0, vint 0, vint 0, vint 0, vint 0, vint 0, vint 0, vint 0, vint 0, .slice none 0 0, .slice none 0 0, .slice none 0 0, vint 0, .slice none 0 0]
theorem dvs_rd {M : Mem} (id : IdT) (kind : Int) (mod : IdT) (name : ByteArray) (sl : List SlotT) (u : Value) (h : Rd M (.sl sl.length 11 (sl.flatMap SlotT.enc)) u) : RdL M (DefT.enc ⟨id, kind, mod, name, sl, ty0, ex0, 0, []⟩) (dvs id kind mod name u) := by
  rw [DefT.enc]
  exact (by repeat (first | exact RdL.nil _ | refine RdL.cons (by first | exact Rd.i _ | exact Rd.nilS | exact Rd.str _ | exact h) ?_))
end Xe

/- DEFINITIONS OPENED; the small program of a program. No program in sight. -/
namespace Xe
open Go
theorem RdL.uncons {M : Mem} {e : D} {ds : List D} {us : List Value} (h : RdL M (e :: ds) us) : ∃ u us', us = u :: us' ∧ Rd M e u ∧ RdL M ds us' := by
  match us, h with
  | [], h => exact absurd h.1 (by simp)
  | u :: us', h => exact ⟨u, us', rfl, h.2 0 e u rfl rfl, by have := h.1; simpa using this, fun k d v h1 h2 => h.2 (k + 1) d v (by simpa using h1) (by simpa using h2)⟩
theorem RdL.unnil {M : Mem} {us : List Value} (h : RdL M [] us) : us = [] := List.eq_nil_of_length_eq_zero (by simpa using h.1)
theorem Rd.int_eq {M : Mem} {n : Int} {u : Value} (h : Rd M (dint n) u) : u = vint n := by simp only [Rd] at h; exact h.1
theorem Rd.str_eq {M : Mem} {s : ByteArray} {u : Value} (h : Rd M (dstr s) u) : u = .string s := by simp only [dstr, Rd] at h; exact h.1
def DefT.vs (d : DefT) (u8 u13 u26 u27 u28 u30 : Value) : List Value := [vint d.id.shop, vint d.id.seq, vint d.id.index, vint d.kind, vint d.mod.shop, vint d.mod.seq, vint d.mod.index, .string d.name, u8, vint d.result.kind, vint d.result.df.shop, vint d.result.df.seq, vint d.result.df.index, u13, vint d.body.id.shop, vint d.body.id.seq, vint d.body.id.index, vint d.body.kind, vint d.body.n, vint d.body.ref.shop, vint d.body.ref.seq, vint d.body.ref.index, vint d.body.ty.kind, vint d.body.ty.df.shop, vint d.body.ty.df.seq, vint d.body.ty.df.index, u26, u27, u28, vint d.place, u30]
theorem DefT.open {M : Mem} {d : DefT} {us : List Value} (h : RdL M d.enc us) : ∃ u8 u13 u26 u27 u28 u30, us = d.vs u8 u13 u26 u27 u28 u30 ∧ Rd M (.sl d.slots.length 11 (d.slots.flatMap SlotT.enc)) u8 ∧ Rd M (.sl d.result.kids.length 5 (d.result.kids.flatMap Ty.enc)) u13 ∧ Rd M (.sl d.body.ty.kids.length 5 (d.body.ty.kids.flatMap Ty.enc)) u26 ∧ Rd M (.sl d.body.kids.length 15 (d.body.kids.flatMap Ex.enc)) u27 ∧ Rd M (.sl d.body.names.length 1 (d.body.names.map dstr)) u28 ∧ Rd M (.sl d.layout.length 1 (d.layout.map dstr)) u30 := by
  rw [DefT.enc] at h
  obtain ⟨v0, t0, rfl, r0, h⟩ := h.uncons
  obtain ⟨v1, t1, rfl, r1, h⟩ := h.uncons
  obtain ⟨v2, t2, rfl, r2, h⟩ := h.uncons
  obtain ⟨v3, t3, rfl, r3, h⟩ := h.uncons
  obtain ⟨v4, t4, rfl, r4, h⟩ := h.uncons
  obtain ⟨v5, t5, rfl, r5, h⟩ := h.uncons
  obtain ⟨v6, t6, rfl, r6, h⟩ := h.uncons
  obtain ⟨v7, t7, rfl, r7, h⟩ := h.uncons
  obtain ⟨v8, t8, rfl, r8, h⟩ := h.uncons
  obtain ⟨v9, t9, rfl, r9, h⟩ := h.uncons
  obtain ⟨v10, t10, rfl, r10, h⟩ := h.uncons
  obtain ⟨v11, t11, rfl, r11, h⟩ := h.uncons
  obtain ⟨v12, t12, rfl, r12, h⟩ := h.uncons
  obtain ⟨v13, t13, rfl, r13, h⟩ := h.uncons
  obtain ⟨v14, t14, rfl, r14, h⟩ := h.uncons
  obtain ⟨v15, t15, rfl, r15, h⟩ := h.uncons
  obtain ⟨v16, t16, rfl, r16, h⟩ := h.uncons
  obtain ⟨v17, t17, rfl, r17, h⟩ := h.uncons
  obtain ⟨v18, t18, rfl, r18, h⟩ := h.uncons
  obtain ⟨v19, t19, rfl, r19, h⟩ := h.uncons
  obtain ⟨v20, t20, rfl, r20, h⟩ := h.uncons
  obtain ⟨v21, t21, rfl, r21, h⟩ := h.uncons
  obtain ⟨v22, t22, rfl, r22, h⟩ := h.uncons
  obtain ⟨v23, t23, rfl, r23, h⟩ := h.uncons
  obtain ⟨v24, t24, rfl, r24, h⟩ := h.uncons
  obtain ⟨v25, t25, rfl, r25, h⟩ := h.uncons
  obtain ⟨v26, t26, rfl, r26, h⟩ := h.uncons
  obtain ⟨v27, t27, rfl, r27, h⟩ := h.uncons
  obtain ⟨v28, t28, rfl, r28, h⟩ := h.uncons
  obtain ⟨v29, t29, rfl, r29, h⟩ := h.uncons
  obtain ⟨v30, t30, rfl, r30, h⟩ := h.uncons
  obtain rfl := h.unnil
  obtain rfl := r0.int_eq
  obtain rfl := r1.int_eq
  obtain rfl := r2.int_eq
  obtain rfl := r3.int_eq
  obtain rfl := r4.int_eq
  obtain rfl := r5.int_eq
  obtain rfl := r6.int_eq
  obtain rfl := r7.str_eq
  obtain rfl := r9.int_eq
  obtain rfl := r10.int_eq
  obtain rfl := r11.int_eq
  obtain rfl := r12.int_eq
  obtain rfl := r14.int_eq
  obtain rfl := r15.int_eq
  obtain rfl := r16.int_eq
  obtain rfl := r17.int_eq
  obtain rfl := r18.int_eq
  obtain rfl := r19.int_eq
  obtain rfl := r20.int_eq
  obtain rfl := r21.int_eq
  obtain rfl := r22.int_eq
  obtain rfl := r23.int_eq
  obtain rfl := r24.int_eq
  obtain rfl := r25.int_eq
  obtain rfl := r29.int_eq
  exact ⟨v8, v13, v26, v27, v28, v30, rfl, r8, r13, r26, r27, r28, r30⟩
theorem DefT.close {M : Mem} (d : DefT) {u8 u13 u26 u27 u28 u30 : Value} (h8 : Rd M (.sl d.slots.length 11 (d.slots.flatMap SlotT.enc)) u8) (h13 : Rd M (.sl d.result.kids.length 5 (d.result.kids.flatMap Ty.enc)) u13) (h26 : Rd M (.sl d.body.ty.kids.length 5 (d.body.ty.kids.flatMap Ty.enc)) u26) (h27 : Rd M (.sl d.body.kids.length 15 (d.body.kids.flatMap Ex.enc)) u27) (h28 : Rd M (.sl d.body.names.length 1 (d.body.names.map dstr)) u28) (h30 : Rd M (.sl d.layout.length 1 (d.layout.map dstr)) u30) : RdL M d.enc (d.vs u8 u13 u26 u27 u28 u30) := by
  rw [DefT.enc, DefT.vs]
  exact (by repeat (first | exact RdL.nil _ | refine RdL.cons (by first | exact Rd.i _ | exact Rd.str _ | assumption) ?_))
def fewD (d : DefT) : DefT := { d with slots := d.slots.take 4 }
def fewP (p : ProgT) : ProgT := ⟨[], (p.defs.take 6).map fewD⟩
end Xe

/- THE PROGRAM OF TYPES MADE OF NUMBERS. No program in sight. -/
namespace Xe
open Go
abbrev sCore : ByteArray := ⟨#[99, 111, 114, 101]⟩
def tMany (l : List Int) : Nat := (1 + atL l 0 4).toNat
def tBits (l : List Int) (i : Nat) : Int := atL l (1 + (i : Int)) 65536
def tArity (l : List Int) (i : Nat) : Nat := (1 + ((tBits l i).tdiv 2).tmod 3).toNat
def tNext (l : List Int) : Nat → Int
  | 0 => 1 + (tMany l : Int)
  | i + 1 => tNext l i + tArity l i
def nm3 : Nat → ByteArray
  | 0 => sX
  | 1 => sY
  | _ => sZ
def nm4 : Nat → ByteArray
  | 0 => sPoint
  | 1 => sShape
  | 2 => sState
  | _ => sEvent
def tSlot (l : List Int) (i j : Nat) : SlotT := ⟨idK (tNext l i + j), nm3 j, pickTy (atL l (5 + 3 * (i : Int) + (j : Int)) 65536) i, 0, 0⟩
def tSlots (l : List Int) (i k : Nat) : List SlotT := (List.range k).map (tSlot l i)
def tDef (l : List Int) (i : Nat) : DefT := ⟨idK (1 + (i : Int)), (tBits l i).tmod 2, idK 0, nm4 i, tSlots l i (tArity l i), ty0, ex0, 0, []⟩
def tDefs (l : List Int) (k : Nat) : List DefT := (List.range k).map (tDef l)
def tIds (k : Nat) : List IdT := (List.range k).map fun i : Nat => idK (1 + (i : Int))
def typesP (l : List Int) : ProgT := ⟨[⟨idK 0, sCore, [], tIds (tMany l)⟩], tDefs l (tMany l)⟩
theorem atL_rng (l : List Int) (i m : Int) (hm : 1 ≤ m) : 0 ≤ atL l i m ∧ atL l i m < m := by
  unfold atL
  split
  · omega
  · exact around_lt _ _ hm
theorem tMany_cast (l : List Int) : (tMany l : Int) = 1 + atL l 0 4 := by have := atL_rng l 0 4 (by omega); unfold tMany; omega
theorem tMany_rng (l : List Int) : 1 ≤ tMany l ∧ tMany l ≤ 4 := by have := atL_rng l 0 4 (by omega); unfold tMany; omega
theorem tBits_rng (l : List Int) (i : Nat) : 0 ≤ tBits l i ∧ tBits l i < 65536 := atL_rng l _ _ (by omega)
theorem tBits_div (l : List Int) (i : Nat) : (tBits l i).tdiv 2 = tBits l i / 2 := Int.tdiv_eq_ediv_of_nonneg (tBits_rng l i).1
theorem tBits_mod (l : List Int) (i : Nat) : ((tBits l i).tdiv 2).tmod 3 = tBits l i / 2 % 3 := by rw [tBits_div, Int.tmod_eq_emod_of_nonneg (by have := tBits_rng l i; omega)]
theorem tArity_cast (l : List Int) (i : Nat) : (tArity l i : Int) = 1 + ((tBits l i).tdiv 2).tmod 3 := by have := tBits_mod l i; unfold tArity; omega
theorem tArity_rng (l : List Int) (i : Nat) : 1 ≤ tArity l i ∧ tArity l i ≤ 3 := by have := tBits_mod l i; unfold tArity; omega
theorem tNext_rng (l : List Int) : ∀ i : Nat, 2 ≤ tNext l i ∧ tNext l i ≤ 5 + 3 * (i : Int)
  | 0 => by have := tMany_rng l; rw [tNext]; omega
  | i + 1 => by have := tNext_rng l i; have := tArity_rng l i; rw [tNext]; omega
theorem tSlots_succ (l : List Int) (i j : Nat) : (tSlots l i (j + 1)).flatMap SlotT.enc = (tSlots l i j).flatMap SlotT.enc ++ (tSlot l i j).enc := by
  simp [tSlots, List.range_succ]
theorem tDefs_succ (l : List Int) (j : Nat) : (tDefs l (j + 1)).flatMap DefT.enc = (tDefs l j).flatMap DefT.enc ++ (tDef l j).enc := by
  simp [tDefs, List.range_succ]
theorem tIds_succ (j : Nat) : (tIds (j + 1)).flatMap IdT.enc = (tIds j).flatMap IdT.enc ++ (idK (1 + (j : Int))).enc := by
  simp [tIds, List.range_succ]
theorem tSlots_len (l : List Int) (i k : Nat) : (tSlots l i k).length = k := by simp [tSlots]
theorem tDefs_len (l : List Int) (k : Nat) : (tDefs l k).length = k := by simp [tDefs]
theorem tIds_len (k : Nat) : (tIds k).length = k := by simp [tIds]
theorem nm3_at {j : Nat} (h : j < 3) : [Value.string sX, .string sY, .string sZ][j * 1]? = some (.string (nm3 j)) := by
  match j, h with
  | 0, _ | 1, _ | 2, _ => rfl
theorem nm4_at {j : Nat} (h : j < 4) : [Value.string sPoint, .string sShape, .string sState, .string sEvent][j * 1]? = some (.string (nm4 j)) := by
  match j, h with
  | 0, _ | 1, _ | 2, _ | 3, _ => rfl
theorem Ty.open {M : Mem} {t : Ty} {us : List Value} (h : RdL M t.enc us) : ∃ u, us = [vint t.kind, vint t.df.shop, vint t.df.seq, vint t.df.index, u] ∧ Rd M (.sl t.kids.length 5 (t.kids.flatMap Ty.enc)) u := by
  rw [Ty.enc_eq] at h
  obtain ⟨v0, t0, rfl, r0, h⟩ := h.uncons
  obtain ⟨v1, t1, rfl, r1, h⟩ := h.uncons
  obtain ⟨v2, t2, rfl, r2, h⟩ := h.uncons
  obtain ⟨v3, t3, rfl, r3, h⟩ := h.uncons
  obtain ⟨v4, t4, rfl, r4, h⟩ := h.uncons
  obtain rfl := h.unnil
  obtain rfl := r0.int_eq
  obtain rfl := r1.int_eq
  obtain rfl := r2.int_eq
  obtain rfl := r3.int_eq
  exact ⟨v4, rfl, r4⟩
def SlotT.vu (s : SlotT) (u : Value) : List Value := [vint s.id.shop, vint s.id.seq, vint s.id.index, .string s.name, vint s.ty.kind, vint s.ty.df.shop, vint s.ty.df.seq, vint s.ty.df.index, u, vint s.most, vint s.place]
theorem SlotT.close {M : Mem} (s : SlotT) {u : Value} (h : Rd M (.sl s.ty.kids.length 5 (s.ty.kids.flatMap Ty.enc)) u) : RdL M s.enc (s.vu u) := by
  rw [SlotT.enc, SlotT.vu]
  exact (by repeat (first | exact RdL.nil _ | refine RdL.cons (by first | exact Rd.i _ | exact Rd.str _ | assumption) ?_))
theorem IdT.vals_rd {M : Mem} (i : IdT) : RdL M i.enc i.vals := RdL.cons (Rd.i _) (RdL.cons (Rd.i _) (RdL.cons (Rd.i _) (RdL.nil _)))
end Xe

/- WHAT THE SMALL EXAMPLE MEANS. No program in sight. -/
namespace Xe
open Go
def tyA : Ty := ofT (idK 1)
def tyB : Ty := ofT (idK 2)
def tyC : Ty := ofT (idK 3)
def valP : Val := .mk 2 0 [vnum 1, vnum (-2)]
def valA : Val := .mk 3 1 [valP]
def valB : Val := .mk 3 1 [vnum 1]
def valC : Val := .mk 4 0 [vnum 3, vnum 0]
def valD : Val := .mk 4 0 [vnum 9]
def valE : Val := .mk 4 0 [vnum 1, vnum 1]
def valF : Val := .mk 2 0 [vnum 0, vnum 0]
def valG : Val := .mk 4 0 [vnum 5]
def valH : Val := .mk 3 0 [vnum 0]
def valI : Val := .mk 1 1 []
abbrev codeG : List Nat := [129, 4, 128, 129, 1, 128, 129, 5, 128]
theorem c1 : cmpV (vnum 2) valI = -1 := by kernel_rfl
theorem c2 : cmpV valD valE = -1 := by kernel_rfl
theorem c3 : cmpV valE valD = 1 := by kernel_rfl
abbrev nvs (n : Int) : List Value := [vint 0, vint n, .slice none 0 0]
theorem leaf_rd {M : Mem} (k n : Int) : RdL M (Val.mk k n []).enc [vint k, vint n, .slice none 0 0] := by
  rw [Val.enc_eq]
  exact RdL.cons (Rd.i _) (RdL.cons (Rd.i _) (RdL.cons Rd.nilS (RdL.nil _)))
theorem node_rd {M : Mem} (k n : Int) (l : List Val) {u : Value} (h : Rd M (.sl l.length 3 (l.flatMap Val.enc)) u) : RdL M (Val.mk k n l).enc [vint k, vint n, u] := by
  rw [Val.enc_eq]
  exact RdL.cons (Rd.i _) (RdL.cons (Rd.i _) (RdL.cons h (RdL.nil _)))
theorem kids1 {M : Mem} {v : Val} {us : List Value} (h : RdL M v.enc us) : RdL M ([v].flatMap Val.enc) us := by simpa using h
theorem kids2 {M : Mem} {v w : Val} {us xs : List Value} (h : RdL M v.enc us) (k : RdL M w.enc xs) : RdL M ([v, w].flatMap Val.enc) (us ++ xs) := by simpa using h.append k
end Xe

/- TYPES PUT INTO A ROW; the first definition of the made program. No program in sight. -/
namespace Xe
open Go
def nest : Nat → Ty
  | 0 => ty0
  | k + 1 => listT (nest k)
/-- The parts of a row, one behind the other. -/
def partsK : Nat → List Value → List (Nat × List Value)
  | _, [] => []
  | k, v :: vs => (k, cellsL v) :: partsK (k + 1) vs
theorem fillFrom {sz : Nat} : ∀ (vs : List Value) (outs : List (List Value)) (k : Nat) (pre rest : List Value), vs.map cellsL = outs → (∀ o ∈ outs, o.length = sz) → pre.length = k * sz → rest.length = outs.length * sz →
    fillL (fun i => some (i * sz, sz)) (pre ++ rest) (partsK k vs) = some (pre ++ outs.flatten)
  | [], _, k, pre, rest, rfl, _, _, hr => by
    have : rest = [] := List.eq_nil_of_length_eq_zero (by simpa using hr)
    simp [partsK, fillL, this]
  | v :: vs, _, k, pre, rest, rfl, ho, hp, hr => by
    have h1 : (cellsL v).length = sz := ho _ (by simp)
    have h2 : rest.length = sz + (vs.map cellsL).length * sz := by rw [hr]; simp [Nat.succ_mul]; omega
    have e : splice (pre ++ rest) (k * sz) (cellsL v) = (pre ++ cellsL v) ++ rest.drop sz := by
      simp only [splice, h1, ← hp]
      rw [List.take_left', List.drop_append, List.drop_of_length_le (by omega)]
      · simp
      · rfl
    simp only [partsK, fillL]
    rw [if_pos ⟨h1, by rw [List.length_append]; omega⟩, e]
    rw [fillFrom vs (vs.map cellsL) (k + 1) (pre ++ cellsL v) (rest.drop sz) rfl (fun o h => ho o (by simp at h ⊢; exact .inr h)) (by rw [List.length_append, hp, h1, Nat.succ_mul]) (by rw [List.length_drop]; omega)]
    simp
theorem fillRow {sz : Nat} {vs : List Value} {outs : List (List Value)} (h : vs.map cellsL = outs) (ho : ∀ o ∈ outs, o.length = sz) : ∀ zs : List Value, zs.length = outs.length * sz → fillL (fun i => some (i * sz, sz)) zs (partsK 0 vs) = some outs.flatten := fun zs hz => by
  have := fillFrom vs outs 0 [] zs h ho (by simp) hz
  simpa using this
end Xe

/- THE WALKS, 1: definitions, types. Printed by m04a.py. -/
namespace Go.Proofs.YtanbipbiblikbaaDoor
open Xe

theorem id35_eql {w0 : World} {L : Lm} {M : Mem} {Γ : List As} {d : Option Nat} {ty : TypeId} {pos : String} {af : Array Edge} {g : Option (Nat × Bool)} {x y : Operand} {a b c a' b' c' : Int} (hx : evL L x = some (.agg [vint a, vint b, vint c].toArray)) (hy : evL L y = some (.agg [vint a', vint b', vint c'].toArray)) :
    Yq Tryd.prog w0 L M Γ ⟨d, .binOp .eql 35 x y 35, ty, pos, af, g⟩ (.bool (decide ((⟨a, b, c⟩ : IdT) = ⟨a', b', c'⟩))) := fun n ac w ha _ => by
  simp only [execOp, ha.ev hx, ha.ev hy]
  simp [go_sem, run_eql_struct, run_eqGuard_agg]
  by_cases h1 : a = a' <;> by_cases h2 : b = b' <;> by_cases h3 : c = c' <;> simp [h1, h2, h3]

theorem def1_ok (w0 : World) (M : Mem) (Γ : List As) (d : DefT) (id : IdT) (us : List Value) (p : Addr) (hd : RdL M d.enc us) (hb : CellsK w0 M Γ p id.vals) :
    CallOk Tryd.prog w0 M Γ 89 #[.agg us.toArray, .pointer (some p)] (Is M Γ (.bool (decide (d.id = id)))) := by
  rw [DefT.enc_eq] at hd
  refine enter (f := 89) Tryd.func89 rfl Tryd.ntmps89 rfl rfl fun w1 hw1 => ?_
  refine CW.addRds hd ?_
  refine CW.seq fun K1 hK1 => ?_
  refine CW.region ?_
  refine RL.box _ rfl rfl rfl fun b2 => ?_
  refine RL.q (Y.assign rfl) rfl ?_
  refine RL.nil ?_
  refine hK1 _ _ _ ?_
  refine CW.kp [1, 2] rfl ?_
  refine CW.seq fun K2 hK2 => ?_
  refine CW.region ?_
  refine RL.q (Y.field rfl field52_0) rfl ?_
  first | refine RL.q (Y.loadAggV [_, _, _] rfl MM MM (by rfl) agg35) rfl ?_ | refine RL.q (Y.loadAll rfl MM (by rfl) agg35) rfl ?_
  refine RL.q (Y.loadK (vs := id.vals) rfl (hb.mono fun _ hw => hw.sub SB) agg35) rfl ?_
  refine RL.q (id35_eql rfl rfl) rfl ?_
  refine RL.q (Y.assign rfl) rfl ?_
  refine RL.nil ?_
  refine hK2 _ _ _ ?_
  refine CW.kp [3] rfl ?_
  refine CW.ret ?_
  exact ⟨_, rfl, Turn.drop ⟨by rfl, rfl, rfl⟩ SB⟩

theorem idxDef_ok (w0 : World) (M : Mem) (Γ : List As) (xs : List DefT) (u : Value) (fn : FuncId) (cap : Array Value) (q : DefT → Bool) (hfn : funcB Tryd.prog fn = true) (hu : Kn w0 M Γ (Rd M (.sl xs.length 31 (xs.flatMap DefT.enc)) u))
    (hq : ∀ x ∈ xs, ∀ us Γ', (∀ w, St w0 M Γ' w → St w0 M Γ w) → RdL M x.enc us → CallOk Tryd.prog w0 M Γ' fn (#[] ++ #[.agg us.toArray] ++ cap) (Is M Γ' (.bool (decide (q x = true))))) :
    CallOk Tryd.prog w0 M Γ 88 #[u, .func (.func fn) #[] cap] (Is M Γ (vint (idxL q xs))) := by
  refine CallOk.kn hu fun hu => ?_
  obtain ⟨a1, c1, rfl, hc1, hlim1, hlen1⟩ := hu.slice
  refine enter (f := 88) Tryd.func88 rfl Tryd.ntmps88 rfl rfl fun w1 hw1 => ?_
  refine CW.addRd hu ?_
  refine CW.seq fun K1 hK1 => ?_
  refine CW.region ?_
  refine RL.q (Y.assign rfl) rfl ?_
  refine RL.nil ?_
  refine hK1 _ _ _ ?_
  refine CW.kp [0, 1] rfl ?_
  refine CW.seq fun K2 hK2 => ?_
  refine CW.seq fun K3 hK3 => ?_
  refine CW.region ?_
  refine RL.q (Y.move rfl) rfl ?_
  refine RL.q (Y.len rfl Tryd.underlying30) rfl ?_
  refine RL.q (Y.move rfl) rfl ?_
  refine RL.nil ?_
  refine hK3 _ _ _ ?_
  refine CW.kp [0, 1, 7, 8] rfl ?_
  refine CW.block ?_
  -- LOOP 1: live [0, 1, 7, 8] changed [8]
  refine CW.kp [8, 0, 1, 7] rfl ?_
  refine CW.loopF (fun m Lc M1 Γc => ∃ k : Nat, m = xs.length - k ∧ k ≤ xs.length ∧ Lc = [(8, vint k)] ∧ Γc = [] ∧ M1 = M ∧ ∀ j (hj : j < xs.length), j < k → q xs[j] ≠ true) (xs.length) [(8, _)] _ rfl rfl ⟨0, rfl, Nat.zero_le _, rfl, rfl, rfl, fun _ _ h => absurd h (Nat.not_lt_zero _)⟩ ?_
  rintro m Lc M Γc hs ⟨k, rfl, hk, rfl, rfl, rfl, hF0⟩
  refine CW.seq fun K4 hK4 => ?_
  refine CW.region ?_
  refine RL.q (Y.lss rfl rfl) rfl ?_
  refine RL.nil ?_
  refine hK4 _ _ _ ?_
  refine CW.kp [0, 1, 7, 8, 9] rfl ?_
  refine CW.seq fun K5 hK5 => ?_
  refine CW.ite rfl (fun h1 => ?_) (fun h1 => ?_)
  ·have hka : k < xs.length := by omega
   refine CW.skip ?_
   refine hK5 _ _ _ ?_
   refine CW.seq fun K6 hK6 => ?_
   refine CW.block ?_
   refine CW.seq fun K7 hK7 => ?_
   refine CW.region ?_
   refine RL.q (Y.move rfl) rfl ?_
   refine RL.q (Y.assign rfl) rfl ?_
   refine RL.nil ?_
   refine hK7 _ _ _ ?_
   refine CW.kp [0, 1, 5, 7, 8] rfl ?_
   refine CW.seq fun K8 hK8 => ?_
   refine CW.region ?_
   refine RL.q (Y.move rfl) rfl ?_
   refine RL.q (Y.move rfl) rfl ?_
   refine RL.q (Y.move rfl) rfl ?_
   refine RL.q (Y.index _ rfl rfl rfl AO slice30 SM) rfl ?_
   refine RL.loadAgg rfl rfl MM (Eq.trans (flat_take DefT.enc_len _ _ _ (List.getElem?_eq_getElem AO)) (DefT.enc_eq _)) (by rfl) agg52 rfl fun us15 hul15 hur15 => ?_
   refine RL.callfv rfl hfn rfl rfl rfl (hq _ (List.getElem_mem hka) _ _ (fun _ hw => hw.sub SB) (by rw [DefT.enc_eq]; exact hur15)) ?_
   refine RL.nil ?_
   refine hK8 _ _ _ ?_
   refine CW.kp [0, 1, 5, 7, 8, 16] rfl ?_
   refine CW.ite rfl (fun h2 => ?_) (fun h2 => ?_)
   ·refine CW.seq fun K9 hK9 => ?_
    refine CW.region ?_
    refine RL.q (Y.move rfl) rfl ?_
    refine RL.q (Y.assign rfl) rfl ?_
    refine RL.nil ?_
    refine hK9 _ _ _ ?_
    refine CW.kp [4] rfl ?_
    refine CW.ret ?_
    exact ⟨_, rfl, Turn.drop ⟨by rw [idxL_hit hka hF0 h2], rfl, rfl⟩ SB⟩
   refine CW.skip ?_
   refine hK6 _ _ _ ?_
   refine CW.region ?_
   refine RL.q (Y.add rfl rfl OM) rfl ?_
   refine RL.q (Y.move rfl) rfl ?_
   refine RL.nil ?_
   refine ⟨xs.length - (k + 1), [(8, _)], ?_, (KP [8, 0, 1, 7]), ?_⟩
   · omega
   · exact Turn.drop ⟨[], rfl, hs, k + 1, rfl, by omega, rfl, rfl, rfl, all_step (p := fun x => q x ≠ true) hF0 hka h2⟩ SB
  refine CW.exit ?_
  refine hK2 _ _ _ ?_
  refine CW.seq fun K10 hK10 => ?_
  refine CW.region ?_
  refine RL.q (Y.assign rfl) rfl ?_
  refine RL.nil ?_
  refine hK10 _ _ _ ?_
  refine CW.kp [4] rfl ?_
  refine CW.ret ?_
  exact ⟨_, rfl, Turn.drop ⟨by rw [idxL_miss fun j hj => hF0 j hj OM], rfl, rfl⟩ SB⟩

theorem def_ok (w0 : World) (M : Mem) (Γ : List As) (p : ProgT) (usp : List Value) (id : IdT)  (hp : Kn w0 M Γ (RdL M p.enc usp))  :
    CallOk Tryd.prog w0 M Γ 57 #[.agg usp.toArray, .agg id.vals.toArray] (Has M Γ fun v => ∃ us, v = .tuple #[.agg us.toArray, .bool (decide (hasDef p id))] ∧ RdL M (theDef p id).enc us) := by
  refine CallOk.kn hp fun hp => ?_
  rw [ProgT.enc_eq] at hp
  refine enterCell2 (f := 57) Tryd.func57 rfl Tryd.ntmps57 rfl rfl fun w1 hw1 => ?_
  refine CW.addRds hp ?_
  refine CW.seq fun K1 hK1 => ?_
  refine CW.region ?_
  refine RL.box _ rfl rfl rfl fun b2 => ?_
  refine RL.box _ rfl rfl rfl fun b3 => ?_
  refine RL.alloc _ zero52 rfl rfl fun b4 => ?_
  refine RL.q (Y.assign rfl) rfl ?_
  refine RL.nil ?_
  refine hK1 _ _ _ ?_
  refine CW.kp [2, 3, 4] rfl ?_
  refine CW.seq fun K2 hK2 => ?_
  refine CW.region ?_
  refine RL.q (Y.field rfl field32_1) rfl ?_
  first | refine RL.q (Y.loadOwnV rfl MM MM (by rfl) flat30) rfl ?_ | refine RL.q (Y.loadOwn rfl MM (by rfl) flat30) rfl ?_ | refine RL.loadOwnSl rfl rfl MM MM (by rfl) flat30 rfl fun a8 c8 hu8 hc8 hl8 => ?_
  refine RL.q (Y.makeFunc rfl rfl) rfl ?_
  refine RL.callv rfl func88 rfl rfl (by exact idxDef_ok _ _ _ p.defs _ 89 _ (fun d => decide (d.id = id)) func89 KK (fun x hx us Γ2 hG hus => by simpa using def1_ok _ _ _ x id us _ hus (CellsK.mono (CellsK.own MM) hG))) ?_
  refine RL.q (Y.assign rfl) rfl ?_
  refine RL.nil ?_
  refine hK2 _ _ _ ?_
  refine CW.kp [2, 4, 6] rfl ?_
  refine CW.seq fun K3 hK3 => ?_
  refine CW.seq fun K4 hK4 => ?_
  refine CW.region ?_
  refine RL.q (Y.move rfl) rfl ?_
  refine RL.q (Y.lss rfl rfl) rfl ?_
  refine RL.nil ?_
  refine hK4 _ _ _ ?_
  refine CW.kp [2, 4, 6, 12] rfl ?_
  refine CW.ite rfl (fun h1 => ?_) (fun h1 => ?_)
  ·refine CW.seq fun K5 hK5 => ?_
   refine CW.region ?_
   refine RL.q (Y.build [_, _, _, _, _, _, _, _, _, _, _, _, _, _, _, _, _, _, _, _, _, _, _, _, _, _, _, _, _, _, _] rfl zero52 places52 (by rfl)) rfl ?_
   first | refine RL.storeRds 31 rfl rfl RP MM EL (by first | exact Kn.lenRds MM EL | exact Kn.lenLit rfl) size52 ?_ | refine RL.storeAgg _ rfl rfl RP (by rfl) (by first | (simp; done) | simp [IdT.vals]) (by first | (simp [Value.oneCell']; done) | simp [Value.oneCell', IdT.vals]) size52 ?_
   refine RL.q (Y.assign rfl) rfl ?_
   refine RL.nil ?_
   refine hK5 _ _ _ ?_
   refine CW.kp [4, 5] rfl ?_
   refine CW.ret ?_
   obtain ⟨e1, e2⟩ := theDef_miss (p := p) (id := id) (fun j hj => by simpa using idxL_neg h1 j hj)
   refine ⟨_, rfl, ?_⟩
   exact CellAt.mk rfl MM (by first | rfl | assumption) agg52 (Turn.drop ⟨rfl, rfl, _, by rw [decide_eq_false e1], by rw [e2]; exact (by repeat (first | exact RdL.nil _ | refine RdL.cons (by first | exact Rd.i _ | exact Rd.nilS | exact Rd.str _ | assumption) ?_))⟩ SB)
  refine CW.skip ?_
  refine hK3 _ _ _ ?_
  refine CW.seq fun K6 hK6 => ?_
  obtain ⟨k, hka, hi, hq1, hq2⟩ := idxL_nn h1
  rw [hi]
  obtain ⟨e1, e2⟩ := theDef_hit hka (fun j hj hlt => by simpa using hq2 j hj hlt) (by simpa using hq1)
  refine CW.region ?_
  refine RL.q (Y.field rfl field32_1) rfl ?_
  first | refine RL.q (Y.loadOwnV rfl MM MM (by rfl) flat30) rfl ?_ | refine RL.q (Y.loadOwn rfl MM (by rfl) flat30) rfl ?_ | refine RL.loadOwnSl rfl rfl MM MM (by rfl) flat30 rfl fun a15 c15 hu15 hc15 hl15 => ?_
  refine RL.q (Y.move rfl) rfl ?_
  refine RL.q (Y.index _ rfl rfl rfl AO slice30 SM) rfl ?_
  refine RL.loadAgg rfl rfl MM (Eq.trans (flat_take DefT.enc_len _ _ _ (List.getElem?_eq_getElem AO)) (DefT.enc_eq _)) (by rfl) agg52 rfl fun us18 hul18 hur18 => ?_
  first | refine RL.storeRds 31 rfl rfl RP MM EL (by first | exact Kn.lenRds MM EL | exact Kn.lenLit rfl) size52 ?_ | refine RL.storeAgg _ rfl rfl RP (by rfl) (by first | (simp; done) | simp [IdT.vals]) (by first | (simp [Value.oneCell']; done) | simp [Value.oneCell', IdT.vals]) size52 ?_
  refine RL.q (Y.assign rfl) rfl ?_
  refine RL.nil ?_
  refine hK6 _ _ _ ?_
  refine CW.kp [4, 5] rfl ?_
  refine CW.ret ?_
  refine ⟨_, rfl, ?_⟩
  exact CellAt.mk rfl MM (by first | rfl | assumption) agg52 (Turn.drop ⟨rfl, rfl, _, by rw [decide_eq_true e1], by rw [e2]; exact hur18⟩ SB)

theorem rdef_ok (w0 : World) (M : Mem) (Γ : List As) (p : ProgT) (usp : List Value) (id : IdT)  (hp : Kn w0 M Γ (RdL M p.enc usp))  :
    CallOk Tryd.prog w0 M Γ 58 #[.agg usp.toArray, .agg id.vals.toArray] (Has M Γ fun v => ∃ us, v = .tuple #[.agg us.toArray, .bool (decide (hasDef p id))] ∧ RdL M (theDef p id).enc us) := by
  refine CallOk.kn hp fun hp => ?_
  rw [ProgT.enc_eq] at hp
  refine enterCell2 (f := 58) Tryd.func58 rfl Tryd.ntmps58 rfl rfl fun w1 hw1 => ?_
  refine CW.addRds hp ?_
  refine CW.seq fun K1 hK1 => ?_
  refine CW.region ?_
  refine RL.box _ rfl rfl rfl fun b2 => ?_
  refine RL.box _ rfl rfl rfl fun b3 => ?_
  refine RL.alloc _ zero52 rfl rfl fun b4 => ?_
  refine RL.q (Y.assign rfl) rfl ?_
  refine RL.nil ?_
  refine hK1 _ _ _ ?_
  refine CW.kp [2, 3, 4] rfl ?_
  refine CW.seq fun K2 hK2 => ?_
  refine CW.seq fun K3 hK3 => ?_
  refine CW.region ?_
  refine RL.q (Y.assign rfl) rfl ?_
  refine RL.nil ?_
  refine hK3 _ _ _ ?_
  refine CW.kp [2, 3, 4, 6] rfl ?_
  refine CW.block ?_
  -- LOOP 1: live [2, 3, 4, 6] changed [6]
  refine CW.kp [6, 2, 3, 4] rfl ?_
  refine CW.loopF (fun m Lc M1 Γc => ∃ k : Nat, m = p.defs.length - k ∧ k ≤ p.defs.length ∧ Lc = [(6, vint k)] ∧ Γc = [] ∧ M1 = M ∧ ∀ j (hj : j < p.defs.length), j < k → p.defs[j].id ≠ id) (p.defs.length) [(6, _)] _ rfl rfl ⟨0, rfl, Nat.zero_le _, rfl, rfl, rfl, fun _ _ h => absurd h (Nat.not_lt_zero _)⟩ ?_
  rintro m Lc M Γc hs ⟨k, rfl, hk, rfl, rfl, rfl, hF0⟩
  refine CW.seq fun K4 hK4 => ?_
  refine CW.seq fun K5 hK5 => ?_
  refine CW.region ?_
  refine RL.q (Y.move rfl) rfl ?_
  refine RL.q (Y.field rfl field32_1) rfl ?_
  first | refine RL.q (Y.loadOwnV rfl MM MM (by rfl) flat30) rfl ?_ | refine RL.q (Y.loadOwn rfl MM (by rfl) flat30) rfl ?_ | refine RL.loadOwnSl rfl rfl MM MM (by rfl) flat30 rfl fun a9 c9 hu9 hc9 hl9 => ?_
  refine RL.q (Y.len rfl Tryd.underlying30) rfl ?_
  refine RL.q (Y.lss rfl rfl) rfl ?_
  refine RL.nil ?_
  refine hK5 _ _ _ ?_
  refine CW.kp [2, 3, 4, 6, 11] rfl ?_
  refine CW.ite rfl (fun h1 => ?_) (fun h1 => ?_)
  ·have hka : k < p.defs.length := by omega
   refine CW.skip ?_
   refine hK4 _ _ _ ?_
   refine CW.seq fun K6 hK6 => ?_
   refine CW.block ?_
   refine CW.seq fun K7 hK7 => ?_
   refine CW.regionQ mix KR ?_
   refine QL.q (Y.field rfl field32_1) rfl ?_
   first | refine QL.q (Y.loadOwnV rfl MM MM (by rfl) flat30) rfl ?_ | refine QL.q (Y.loadOwn rfl MM (by rfl) flat30) rfl ?_ | refine QL.loadOwnSl rfl rfl MM MM (by rfl) flat30 rfl fun a15 c15 hu15 hc15 hl15 => ?_
   refine QL.q (Y.move rfl) rfl ?_
   refine QL.q (Y.index _ rfl rfl rfl AO slice30 SM) rfl ?_
   refine QL.q (Y.field rfl field52_0) rfl ?_
   refine QL.q (Y.loadAggRd [_, _, _] rfl MM (Eq.trans (flat_sub DefT.enc_len _ _ _ (List.getElem?_eq_getElem AO) _ _ (Nat.le_of_ble_eq_true rfl)) (by rw [DefT.enc_eq] <;> rfl)) agg35) rfl ?_
   first | refine QL.q (Y.loadAggV [_, _, _] rfl MM MM (by rfl) agg35) rfl ?_ | refine QL.q (Y.loadAll rfl MM (by rfl) agg35) rfl ?_
   refine QL.q (id35_eql rfl rfl) rfl ?_
   refine QL.nil ?_
   refine hK7 _ _ _ ?_
   refine CW.kp [2, 3, 4, 6, 21] rfl ?_
   refine CW.ite rfl (fun h2 => ?_) (fun h2 => ?_)
   ·obtain ⟨e1, e2⟩ := theDef_hit hka hF0 h2
    refine CW.seq fun K8 hK8 => ?_
    refine CW.region ?_
    refine RL.q (Y.field rfl field32_1) rfl ?_
    first | refine RL.q (Y.loadOwnV rfl MM MM (by rfl) flat30) rfl ?_ | refine RL.q (Y.loadOwn rfl MM (by rfl) flat30) rfl ?_ | refine RL.loadOwnSl rfl rfl MM MM (by rfl) flat30 rfl fun a23 c23 hu23 hc23 hl23 => ?_
    refine RL.q (Y.move rfl) rfl ?_
    refine RL.q (Y.index _ rfl rfl rfl AO slice30 SM) rfl ?_
    refine RL.loadAgg rfl rfl MM (Eq.trans (flat_take DefT.enc_len _ _ _ (List.getElem?_eq_getElem AO)) (DefT.enc_eq _)) (by rfl) agg52 rfl fun us26 hul26 hur26 => ?_
    first | refine RL.storeRds 31 rfl rfl RP MM EL (by first | exact Kn.lenRds MM EL | exact Kn.lenLit rfl) size52 ?_ | refine RL.storeAgg _ rfl rfl RP (by rfl) (by first | (simp; done) | simp [IdT.vals]) (by first | (simp [Value.oneCell']; done) | simp [Value.oneCell', IdT.vals]) size52 ?_
    refine RL.q (Y.assign rfl) rfl ?_
    refine RL.nil ?_
    refine hK8 _ _ _ ?_
    refine CW.kp [4, 5] rfl ?_
    refine CW.ret ?_
    refine ⟨_, rfl, ?_⟩
    exact CellAt.mk rfl MM (by first | rfl | assumption) agg52 (Turn.drop ⟨rfl, rfl, _, by rw [decide_eq_true e1], by rw [e2]; exact hur26⟩ SB)
   refine CW.skip ?_
   refine hK6 _ _ _ ?_
   refine CW.region ?_
   refine RL.q (Y.move rfl) rfl ?_
   refine RL.q (Y.add rfl rfl OM) rfl ?_
   refine RL.q (Y.assign rfl) rfl ?_
   refine RL.nil ?_
   refine ⟨p.defs.length - (k + 1), [(6, _)], ?_, (KP [6, 2, 3, 4]), ?_⟩
   · omega
   · exact Turn.drop ⟨[], rfl, hs, k + 1, rfl, by omega, rfl, rfl, rfl, all_step (p := fun x => x.id ≠ id) hF0 hka h2⟩ SB
  refine CW.exit ?_
  refine hK2 _ _ _ ?_
  refine CW.seq fun K9 hK9 => ?_
  refine CW.region ?_
  refine RL.q (Y.build [_, _, _, _, _, _, _, _, _, _, _, _, _, _, _, _, _, _, _, _, _, _, _, _, _, _, _, _, _, _, _] rfl zero52 places52 (by rfl)) rfl ?_
  first | refine RL.storeRds 31 rfl rfl RP MM EL (by first | exact Kn.lenRds MM EL | exact Kn.lenLit rfl) size52 ?_ | refine RL.storeAgg _ rfl rfl RP (by rfl) (by first | (simp; done) | simp [IdT.vals]) (by first | (simp [Value.oneCell']; done) | simp [Value.oneCell', IdT.vals]) size52 ?_
  refine RL.q (Y.assign rfl) rfl ?_
  refine RL.nil ?_
  refine hK9 _ _ _ ?_
  refine CW.kp [4, 5] rfl ?_
  refine CW.ret ?_
  obtain ⟨e1, e2⟩ := theDef_miss (p := p) (id := id) (fun j hj => hF0 j hj OM)
  refine ⟨_, rfl, ?_⟩
  exact CellAt.mk rfl MM (by first | rfl | assumption) agg52 (Turn.drop ⟨rfl, rfl, _, by rw [decide_eq_false e1], by rw [e2]; exact (by repeat (first | exact RdL.nil _ | refine RdL.cons (by first | exact Rd.i _ | exact Rd.nilS | exact Rd.str _ | assumption) ?_))⟩ SB)
end Go.Proofs.YtanbipbiblikbaaDoor

/- THE WALKS, 3: types of the reference, equal types, sizes, weights, depths. Printed by m04c.py. -/
namespace Go.Proofs.YtanbipbiblikbaaDoor
open Xe

theorem rvalidTF_ok (n : Nat) : ∀ (w0 : World) (M : Mem) (Γ : List As) (p : ProgT) (t : Ty) (usp ust : List Value) (d : Nat), d + n = 25 → 1 ≤ d → Kn w0 M Γ (RdL M p.enc usp) → Kn w0 M Γ (RdL M t.enc ust) →
    CallOk Tryd.prog w0 M Γ 110 #[.agg usp.toArray, .agg ust.toArray, vint d] (Is M Γ (.bool (decide (validTF p n t = true)))) := by
  induction n using Nat.strongRecOn
  rename_i n ih
  intro w0 M Γ p t usp ust d hd hd1 hp ht
  refine CallOk.kn hp fun hp => ?_
  refine CallOk.kn ht fun ht => ?_
  rw [ProgT.enc_eq] at hp
  rw [Ty.enc_eq] at ht
  refine enter (f := 110) Tryd.func110 rfl Tryd.ntmps110 rfl rfl fun w1 hw1 => ?_
  refine CW.addRds hp ?_
  refine CW.addRds ht ?_
  refine CW.seq fun K1 hK1 => ?_
  refine CW.region ?_
  refine RL.box _ rfl rfl rfl fun b3 => ?_
  refine RL.box _ rfl rfl rfl fun b4 => ?_
  refine RL.q (Y.assign rfl) rfl ?_
  refine RL.nil ?_
  refine hK1 _ _ _ ?_
  refine CW.kp [2, 3, 4] rfl ?_
  refine CW.seq fun K2 hK2 => ?_
  refine CW.seq fun K3 hK3 => ?_
  refine CW.region ?_
  refine RL.q (Y.move rfl) rfl ?_
  refine RL.q (Y.gtr rfl rfl) rfl ?_
  refine RL.nil ?_
  refine hK3 _ _ _ ?_
  refine CW.kp [2, 3, 4, 10] rfl ?_
  refine CW.ite rfl (fun h1 => ?_) (fun h1 => ?_)
  ·refine CW.seq fun K4 hK4 => ?_
   refine CW.region ?_
   refine RL.q (Y.assign rfl) rfl ?_
   refine RL.nil ?_
   refine hK4 _ _ _ ?_
   refine CW.kp [6] rfl ?_
   refine CW.ret ?_
   first | exact ⟨_, rfl, Turn.drop ⟨(vbF (fun h => by rw [show n = 0 by omega] at h; cases h)), rfl, rfl⟩ SB⟩
  obtain ⟨n, rfl⟩ : ∃ k, n = k + 1 := ⟨n - 1, by omega⟩
  refine CW.skip ?_
  refine hK2 _ _ _ ?_
  refine CW.seq fun K5 hK5 => ?_
  refine CW.seq fun K6 hK6 => ?_
  refine CW.region ?_
  refine RL.q (Y.field rfl field38_0) rfl ?_
  first | refine RL.q (Y.loadOwnV rfl MM MM (by rfl) flat3) rfl ?_ | refine RL.q (Y.loadOwn rfl MM (by rfl) flat3) rfl ?_ | refine RL.loadOwnSl rfl rfl MM MM (by rfl) flat3 rfl fun a12 c12 hu12 hc12 hl12 => ?_
  refine RL.q (Y.eql rfl rfl) rfl ?_
  refine RL.nil ?_
  refine hK6 _ _ _ ?_
  refine CW.kp [2, 3, 4, 13] rfl ?_
  refine CW.ite rfl (fun h2 => ?_) (fun h2 => ?_)
  ·refine CW.seq fun K7 hK7 => ?_
   refine CW.regionQ mix KR ?_
   refine QL.q (Y.field rfl field38_1) rfl ?_
   first | refine QL.q (Y.loadAggV [_, _, _] rfl MM MM (by rfl) agg35) rfl ?_ | refine QL.q (Y.loadAll rfl MM (by rfl) agg35) rfl ?_
   refine QL.q (Y.build [_, _, _] rfl zero35 places35 (by rfl)) rfl ?_
   refine QL.qs (id35_eql rfl rfl) rfl (fun g17 => ?_) (fun g17 => ?_)
   ·refine QL.q (Y.move rfl) rfl ?_
    refine QL.qg WG (Y.field rfl field38_2) rfl ?_
    first | refine QL.qg WG (Y.loadOwnV rfl MM MM (by rfl) flat36) rfl ?_ | refine QL.qg WG (Y.loadOwn rfl MM (by rfl) flat36) rfl ?_ | refine QL.loadOwnSl WG rfl MM MM (by rfl) flat36 rfl fun a20 c20 hu20 hc20 hl20 => ?_
    refine QL.qg WG (Y.len rfl Tryd.underlying36) rfl ?_
    refine QL.qgs WG (Y.eql rfl rfl) rfl (fun g22 => ?_) (fun g22 => ?_)
    ·refine QL.q (Y.pickT rfl rfl) rfl ?_
     refine QL.q (Y.move rfl) rfl ?_
     first | refine QL.qg WG (Y.loadAllR rfl MM MM EL agg32) rfl ?_ | refine QL.qg WG (Y.loadAll rfl MM (by rfl) agg32) rfl ?_ | refine QL.loadPart WG rfl MM MM (by rfl) (by rfl) agg32 rfl fun us25 hul25 hur25 => ?_
     refine QL.qg WG (Y.field rfl field38_2) rfl ?_
     first | refine QL.qg WG (Y.loadOwnV rfl MM MM (by rfl) flat36) rfl ?_ | refine QL.qg WG (Y.loadOwn rfl MM (by rfl) flat36) rfl ?_ | refine QL.loadOwnSl WG rfl MM MM (by rfl) flat36 rfl fun a27 c27 hu27 hc27 hl27 => ?_
     refine QL.qg WG (Y.index 0 rfl rfl rfl AO slice36 SM) rfl ?_
     refine QL.loadAgg WG rfl MM (Eq.trans (flat_take Ty.enc_len _ _ _ (List.getElem?_eq_getElem AO)) (Ty.enc_eq _)) (by rfl) agg38 rfl fun us29 hul29 hur29 => ?_
     refine QL.qg WG (Y.move rfl) rfl ?_
     refine QL.qg WG (Y.add rfl rfl OM) rfl ?_
     refine QL.callv WG func110 rfl rfl (by exact fun _ hC => ih n OM _ _ _ p t.kids[0] _ _ (d + 1) OM OM (Kn.via hC KK) (Kn.via hC KK)) ?_
     refine QL.q (Y.pickT rfl rfl) rfl ?_
     refine QL.q (Y.assign rfl) rfl ?_
     refine QL.nil ?_
     refine hK7 _ _ _ ?_
     refine CW.kp [6] rfl ?_
     refine CW.ret ?_
     first | exact ⟨_, rfl, Turn.drop ⟨(vb (validTF_kid h2 g17 OM).symm), rfl, rfl⟩ SB⟩ | exact ⟨_, rfl, Turn.drop ⟨(vbF (fun h => g17 (validTF_kids h2 h).1)), rfl, rfl⟩ SB⟩ | exact ⟨_, rfl, Turn.drop ⟨(vbF (fun h => by have := (validTF_kids h2 h).2; omega)), rfl, rfl⟩ SB⟩
    refine QL.q (Y.pickT rfl rfl) rfl ?_
    refine QL.q (Y.move rfl) rfl ?_
    refine QL.no WG rfl ?_
    refine QL.no WG rfl ?_
    refine QL.no WG rfl ?_
    refine QL.no WG rfl ?_
    refine QL.no WG rfl ?_
    refine QL.no WG rfl ?_
    refine QL.no WG rfl ?_
    refine QL.no WG rfl ?_
    refine QL.q (Y.pickF rfl rfl) rfl ?_
    refine QL.q (Y.assign rfl) rfl ?_
    refine QL.nil ?_
    refine hK7 _ _ _ ?_
    refine CW.kp [6] rfl ?_
    refine CW.ret ?_
    first | exact ⟨_, rfl, Turn.drop ⟨(vb (validTF_kid h2 g17 OM).symm), rfl, rfl⟩ SB⟩ | exact ⟨_, rfl, Turn.drop ⟨(vbF (fun h => g17 (validTF_kids h2 h).1)), rfl, rfl⟩ SB⟩ | exact ⟨_, rfl, Turn.drop ⟨(vbF (fun h => by have := (validTF_kids h2 h).2; omega)), rfl, rfl⟩ SB⟩
   refine QL.q (Y.move rfl) rfl ?_
   refine QL.no WG rfl ?_
   refine QL.no WG rfl ?_
   refine QL.no WG rfl ?_
   refine QL.no WG rfl ?_
   refine QL.q (Y.pickF rfl rfl) rfl ?_
   refine QL.q (Y.move rfl) rfl ?_
   refine QL.no WG rfl ?_
   refine QL.no WG rfl ?_
   refine QL.no WG rfl ?_
   refine QL.no WG rfl ?_
   refine QL.no WG rfl ?_
   refine QL.no WG rfl ?_
   refine QL.no WG rfl ?_
   refine QL.no WG rfl ?_
   refine QL.q (Y.pickF rfl rfl) rfl ?_
   refine QL.q (Y.assign rfl) rfl ?_
   refine QL.nil ?_
   refine hK7 _ _ _ ?_
   refine CW.kp [6] rfl ?_
   refine CW.ret ?_
   first | exact ⟨_, rfl, Turn.drop ⟨(vb (validTF_kid h2 g17 OM).symm), rfl, rfl⟩ SB⟩ | exact ⟨_, rfl, Turn.drop ⟨(vbF (fun h => g17 (validTF_kids h2 h).1)), rfl, rfl⟩ SB⟩ | exact ⟨_, rfl, Turn.drop ⟨(vbF (fun h => by have := (validTF_kids h2 h).2; omega)), rfl, rfl⟩ SB⟩
  refine CW.skip ?_
  refine hK5 _ _ _ ?_
  refine CW.seq fun K8 hK8 => ?_
  refine CW.seq fun K9 hK9 => ?_
  refine CW.region ?_
  refine RL.q (Y.field rfl field38_2) rfl ?_
  first | refine RL.q (Y.loadOwnV rfl MM MM (by rfl) flat36) rfl ?_ | refine RL.q (Y.loadOwn rfl MM (by rfl) flat36) rfl ?_ | refine RL.loadOwnSl rfl rfl MM MM (by rfl) flat36 rfl fun a35 c35 hu35 hc35 hl35 => ?_
  refine RL.q (Y.len rfl Tryd.underlying36) rfl ?_
  refine RL.q (Y.gtr rfl rfl) rfl ?_
  refine RL.nil ?_
  refine hK9 _ _ _ ?_
  refine CW.kp [3, 4, 37] rfl ?_
  refine CW.ite rfl (fun h3 => ?_) (fun h3 => ?_)
  ·refine CW.seq fun K10 hK10 => ?_
   refine CW.region ?_
   refine RL.q (Y.assign rfl) rfl ?_
   refine RL.nil ?_
   refine hK10 _ _ _ ?_
   refine CW.kp [6] rfl ?_
   refine CW.ret ?_
   first | exact ⟨_, rfl, Turn.drop ⟨(vbF (fun h => by by_cases h4 : t.kind = 3; exact absurd ((validTF_def h4).1 h).2 OM; exact absurd ((validTF_one OM h4).1 h).1 OM)), rfl, rfl⟩ SB⟩
  refine CW.skip ?_
  refine hK8 _ _ _ ?_
  refine CW.seq fun K11 hK11 => ?_
  refine CW.seq fun K12 hK12 => ?_
  refine CW.region ?_
  refine RL.q (Y.field rfl field38_0) rfl ?_
  first | refine RL.q (Y.loadOwnV rfl MM MM (by rfl) flat3) rfl ?_ | refine RL.q (Y.loadOwn rfl MM (by rfl) flat3) rfl ?_ | refine RL.loadOwnSl rfl rfl MM MM (by rfl) flat3 rfl fun a39 c39 hu39 hc39 hl39 => ?_
  refine RL.q (Y.eql rfl rfl) rfl ?_
  refine RL.nil ?_
  refine hK12 _ _ _ ?_
  refine CW.kp [3, 4, 40] rfl ?_
  refine CW.ite rfl (fun h4 => ?_) (fun h4 => ?_)
  ·refine CW.seq fun K13 hK13 => ?_
   refine CW.region ?_
   first | refine RL.q (Y.loadAllR rfl MM MM EL agg32) rfl ?_ | refine RL.q (Y.loadAll rfl MM (by rfl) agg32) rfl ?_ | refine RL.loadPart rfl rfl MM MM (by rfl) (by rfl) agg32 rfl fun us42 hul42 hur42 => ?_
   refine RL.q (Y.field rfl field38_1) rfl ?_
   first | refine RL.q (Y.loadAggV [_, _, _] rfl MM MM (by rfl) agg35) rfl ?_ | refine RL.q (Y.loadAll rfl MM (by rfl) agg35) rfl ?_
   refine RL.call rfl func58 rfl rfl (by exact rdef_ok _ _ _ _ _ _ KK) ?_
   rintro v45 M _ ⟨rfl, rfl, us45, rfl, hr45⟩
   refine RL.addRds hr45 ?_
   refine RL.q (Y.move rfl) rfl ?_
   refine RL.q (Y.extract rfl rfl) rfl ?_
   refine RL.q (Y.extract rfl rfl) rfl ?_
   refine RL.alloc _ zero52 rfl rfl fun b7 => ?_
   first | refine RL.storeRds 31 rfl rfl RP MM EL (by first | exact Kn.lenRds MM EL | exact Kn.lenLit rfl) size52 ?_ | refine RL.storeAgg _ rfl rfl RP (by rfl) (by first | (simp; done) | simp [IdT.vals]) (by first | (simp [Value.oneCell']; done) | simp [Value.oneCell', IdT.vals]) size52 ?_
   refine RL.q (Y.assign rfl) rfl ?_
   refine RL.nil ?_
   refine hK13 _ _ _ ?_
   refine CW.kp [7, 8] rfl ?_
   refine CW.seq fun K14 hK14 => ?_
   refine CW.region ?_
   refine RL.qs (Y.move rfl) rfl (fun g48 => ?_) (fun g48 => ?_)
   ·refine RL.q (Y.move rfl) rfl ?_
    refine RL.qg WG (Y.field rfl field52_1) rfl ?_
    first | refine RL.qg WG (Y.loadOwnV rfl MM MM (by rfl) flat3) rfl ?_ | refine RL.qg WG (Y.loadOwn rfl MM (by rfl) flat3) rfl ?_ | refine RL.loadOwnSl WG rfl MM MM (by rfl) flat3 rfl fun a51 c51 hu51 hc51 hl51 => ?_
    refine RL.qgs WG (Y.eql rfl rfl) rfl (fun g52 => ?_) (fun g52 => ?_)
    ·refine RL.qg WG (Y.move rfl) rfl ?_
     refine RL.no WG rfl ?_
     refine RL.no WG rfl ?_
     refine RL.no WG rfl ?_
     refine RL.qg WG (Y.pickT rfl rfl) rfl ?_
     refine RL.q (Y.pickT rfl rfl) rfl ?_
     refine RL.q (Y.assign rfl) rfl ?_
     refine RL.nil ?_
     refine hK14 _ _ _ ?_
     refine CW.kp [6] rfl ?_
     refine CW.ret ?_
     first | exact ⟨_, rfl, Turn.drop ⟨(vb (Iff.trans ⟨fun h => ⟨⟨g48, by omega⟩, by omega⟩, fun h => by have := h.1.2; omega⟩ (validTF_def h4).symm)), rfl, rfl⟩ SB⟩ | exact ⟨_, rfl, Turn.drop ⟨(vbT ((validTF_def h4).2 ⟨⟨g48, by omega⟩, by omega⟩)), rfl, rfl⟩ SB⟩ | exact ⟨_, rfl, Turn.drop ⟨(vbF (fun h => g48 ((validTF_def h4).1 h).1.1)), rfl, rfl⟩ SB⟩
    refine RL.qg WG (Y.move rfl) rfl ?_
    refine RL.qg WG (Y.field rfl field52_1) rfl ?_
    first | refine RL.qg WG (Y.loadOwnV rfl MM MM (by rfl) flat3) rfl ?_ | refine RL.qg WG (Y.loadOwn rfl MM (by rfl) flat3) rfl ?_ | refine RL.loadOwnSl WG rfl MM MM (by rfl) flat3 rfl fun a55 c55 hu55 hc55 hl55 => ?_
    refine RL.qg WG (Y.eql rfl rfl) rfl ?_
    refine RL.qg WG (Y.pickF rfl rfl) rfl ?_
    refine RL.q (Y.pickT rfl rfl) rfl ?_
    refine RL.q (Y.assign rfl) rfl ?_
    refine RL.nil ?_
    refine hK14 _ _ _ ?_
    refine CW.kp [6] rfl ?_
    refine CW.ret ?_
    first | exact ⟨_, rfl, Turn.drop ⟨(vb (Iff.trans ⟨fun h => ⟨⟨g48, by omega⟩, by omega⟩, fun h => by have := h.1.2; omega⟩ (validTF_def h4).symm)), rfl, rfl⟩ SB⟩ | exact ⟨_, rfl, Turn.drop ⟨(vbT ((validTF_def h4).2 ⟨⟨g48, by omega⟩, by omega⟩)), rfl, rfl⟩ SB⟩ | exact ⟨_, rfl, Turn.drop ⟨(vbF (fun h => g48 ((validTF_def h4).1 h).1.1)), rfl, rfl⟩ SB⟩
   refine RL.q (Y.move rfl) rfl ?_
   refine RL.no WG rfl ?_
   refine RL.no WG rfl ?_
   refine RL.no WG rfl ?_
   refine RL.no WG rfl ?_
   refine RL_noU rfl rfl rfl ?_
   refine RL_noU rfl rfl rfl ?_
   refine RL_noU rfl rfl rfl ?_
   refine RL.no WG rfl ?_
   refine RL.q (Y.pickF rfl rfl) rfl ?_
   refine RL.q (Y.assign rfl) rfl ?_
   refine RL.nil ?_
   refine hK14 _ _ _ ?_
   refine CW.kp [6] rfl ?_
   refine CW.ret ?_
   first | exact ⟨_, rfl, Turn.drop ⟨(vb (Iff.trans ⟨fun h => ⟨⟨g48, by omega⟩, by omega⟩, fun h => by have := h.1.2; omega⟩ (validTF_def h4).symm)), rfl, rfl⟩ SB⟩ | exact ⟨_, rfl, Turn.drop ⟨(vbT ((validTF_def h4).2 ⟨⟨g48, by omega⟩, by omega⟩)), rfl, rfl⟩ SB⟩ | exact ⟨_, rfl, Turn.drop ⟨(vbF (fun h => g48 ((validTF_def h4).1 h).1.1)), rfl, rfl⟩ SB⟩
  refine CW.skip ?_
  refine hK11 _ _ _ ?_
  refine CW.seq fun K15 hK15 => ?_
  refine CW.region ?_
  refine RL.q (Y.field rfl field38_1) rfl ?_
  first | refine RL.q (Y.loadAggV [_, _, _] rfl MM MM (by rfl) agg35) rfl ?_ | refine RL.q (Y.loadAll rfl MM (by rfl) agg35) rfl ?_
  refine RL.q (Y.build [_, _, _] rfl zero35 places35 (by rfl)) rfl ?_
  refine RL.qs (id35_eql rfl rfl) rfl (fun g62 => ?_) (fun g62 => ?_)
  ·refine RL.q (Y.move rfl) rfl ?_
   refine RL.qg WG (Y.field rfl field38_0) rfl ?_
   first | refine RL.qg WG (Y.loadOwnV rfl MM MM (by rfl) flat3) rfl ?_ | refine RL.qg WG (Y.loadOwn rfl MM (by rfl) flat3) rfl ?_ | refine RL.loadOwnSl WG rfl MM MM (by rfl) flat3 rfl fun a65 c65 hu65 hc65 hl65 => ?_
   refine RL.qgs WG (Y.eql rfl rfl) rfl (fun g66 => ?_) (fun g66 => ?_)
   ·refine RL.qg WG (Y.move rfl) rfl ?_
    refine RL.no WG rfl ?_
    refine RL.no WG rfl ?_
    refine RL.no WG rfl ?_
    refine RL.qg WG (Y.pickT rfl rfl) rfl ?_
    refine RL.q (Y.pickT rfl rfl) rfl ?_
    refine RL.q (Y.assign rfl) rfl ?_
    refine RL.nil ?_
    refine hK15 _ _ _ ?_
    refine CW.kp [6] rfl ?_
    refine CW.ret ?_
    first | exact ⟨_, rfl, Turn.drop ⟨(vb (Iff.trans ⟨fun h => ⟨by omega, g62, by omega⟩, fun h => by have := h.2.2; omega⟩ (validTF_one OM OM).symm)), rfl, rfl⟩ SB⟩ | exact ⟨_, rfl, Turn.drop ⟨(vbT ((validTF_one OM OM).2 ⟨by omega, g62, by omega⟩)), rfl, rfl⟩ SB⟩ | exact ⟨_, rfl, Turn.drop ⟨(vbF (fun h => g62 ((validTF_one OM OM).1 h).2.1)), rfl, rfl⟩ SB⟩
   refine RL.qg WG (Y.move rfl) rfl ?_
   refine RL.qg WG (Y.field rfl field38_0) rfl ?_
   first | refine RL.qg WG (Y.loadOwnV rfl MM MM (by rfl) flat3) rfl ?_ | refine RL.qg WG (Y.loadOwn rfl MM (by rfl) flat3) rfl ?_ | refine RL.loadOwnSl WG rfl MM MM (by rfl) flat3 rfl fun a69 c69 hu69 hc69 hl69 => ?_
   refine RL.qg WG (Y.eql rfl rfl) rfl ?_
   refine RL.qg WG (Y.pickF rfl rfl) rfl ?_
   refine RL.q (Y.pickT rfl rfl) rfl ?_
   refine RL.q (Y.assign rfl) rfl ?_
   refine RL.nil ?_
   refine hK15 _ _ _ ?_
   refine CW.kp [6] rfl ?_
   refine CW.ret ?_
   first | exact ⟨_, rfl, Turn.drop ⟨(vb (Iff.trans ⟨fun h => ⟨by omega, g62, by omega⟩, fun h => by have := h.2.2; omega⟩ (validTF_one OM OM).symm)), rfl, rfl⟩ SB⟩ | exact ⟨_, rfl, Turn.drop ⟨(vbT ((validTF_one OM OM).2 ⟨by omega, g62, by omega⟩)), rfl, rfl⟩ SB⟩ | exact ⟨_, rfl, Turn.drop ⟨(vbF (fun h => g62 ((validTF_one OM OM).1 h).2.1)), rfl, rfl⟩ SB⟩
  refine RL.q (Y.move rfl) rfl ?_
  refine RL.no WG rfl ?_
  refine RL.no WG rfl ?_
  refine RL.no WG rfl ?_
  refine RL.no WG rfl ?_
  refine RL_noU rfl rfl rfl ?_
  refine RL_noU rfl rfl rfl ?_
  refine RL_noU rfl rfl rfl ?_
  refine RL.no WG rfl ?_
  refine RL.q (Y.pickF rfl rfl) rfl ?_
  refine RL.q (Y.assign rfl) rfl ?_
  refine RL.nil ?_
  refine hK15 _ _ _ ?_
  refine CW.kp [6] rfl ?_
  refine CW.ret ?_
  first | exact ⟨_, rfl, Turn.drop ⟨(vb (Iff.trans ⟨fun h => ⟨by omega, g62, by omega⟩, fun h => by have := h.2.2; omega⟩ (validTF_one OM OM).symm)), rfl, rfl⟩ SB⟩ | exact ⟨_, rfl, Turn.drop ⟨(vbT ((validTF_one OM OM).2 ⟨by omega, g62, by omega⟩)), rfl, rfl⟩ SB⟩ | exact ⟨_, rfl, Turn.drop ⟨(vbF (fun h => g62 ((validTF_one OM OM).1 h).2.1)), rfl, rfl⟩ SB⟩

theorem rvalidT1_ok (w0 : World) (M : Mem) (Γ : List As) (p : ProgT) (t : Ty) (usp ust : List Value) (hp : Kn w0 M Γ (RdL M p.enc usp)) (ht : Kn w0 M Γ (RdL M t.enc ust)) :
    CallOk Tryd.prog w0 M Γ 110 #[.agg usp.toArray, .agg ust.toArray, vint 1] (Is M Γ (.bool (decide (validT p t)))) := rvalidTF_ok 24 w0 M Γ p t usp ust 1 rfl OM hp ht

theorem rvalidType_ok (w0 : World) (M : Mem) (Γ : List As) (p : ProgT) (usp : List Value) (t : Ty) (ust : List Value)  (hp : Kn w0 M Γ (RdL M p.enc usp)) (ht : Kn w0 M Γ (RdL M t.enc ust))  :
    CallOk Tryd.prog w0 M Γ 101 #[.agg usp.toArray, .agg ust.toArray] (Is M Γ (.bool (decide (validT p t)))) := by
  refine CallOk.kn hp fun hp => ?_
  rw [ProgT.enc_eq] at hp
  refine CallOk.kn ht fun ht => ?_
  rw [Ty.enc_eq] at ht
  refine enter (f := 101) Tryd.func101 rfl Tryd.ntmps101 rfl rfl fun w1 hw1 => ?_
  refine CW.addRds hp ?_
  refine CW.addRds ht ?_
  refine CW.seq fun K1 hK1 => ?_
  refine CW.region ?_
  refine RL.box _ rfl rfl rfl fun b2 => ?_
  refine RL.box _ rfl rfl rfl fun b3 => ?_
  refine RL.q (Y.assign rfl) rfl ?_
  refine RL.nil ?_
  refine hK1 _ _ _ ?_
  refine CW.kp [2, 3] rfl ?_
  refine CW.seq fun K2 hK2 => ?_
  refine CW.region ?_
  first | refine RL.q (Y.loadAllR rfl MM MM EL agg32) rfl ?_ | refine RL.q (Y.loadAll rfl MM (by rfl) agg32) rfl ?_ | refine RL.loadPart rfl rfl MM MM (by rfl) (by rfl) agg32 rfl fun us5 hul5 hur5 => ?_
  first | refine RL.q (Y.loadAllR rfl MM MM EL agg38) rfl ?_ | refine RL.q (Y.loadAll rfl MM (by rfl) agg38) rfl ?_ | refine RL.loadPart rfl rfl MM MM (by rfl) (by rfl) agg38 rfl fun us6 hul6 hur6 => ?_
  refine RL.callv rfl func110 rfl rfl (by exact rvalidT1_ok _ _ _ _ _ _ _ KK KK) ?_
  refine RL.q (Y.assign rfl) rfl ?_
  refine RL.nil ?_
  refine hK2 _ _ _ ?_
  refine CW.kp [4] rfl ?_
  refine CW.ret ?_
  exact ⟨_, rfl, Turn.drop ⟨rfl, rfl, rfl⟩ SB⟩

end Go.Proofs.YtanbipbiblikbaaDoor

/- THE WALKS, 4: equal types of the program, sizes, weights, depths. Printed by m04d.py. -/
namespace Go.Proofs.YtanbipbiblikbaaDoor
open Xe

theorem rsize_ok (N : Nat) : ∀ (w0 : World) (M : Mem) (Γ : List As) (v : Val) (usv : List Value) , v.size = N → Kn w0 M Γ (RdL M v.enc usv) → 
    CallOk Tryd.prog w0 M Γ 44 #[.agg usv.toArray] (Is M Γ (vint (w64 (v.size : Nat)))) := by
  induction N using Nat.strongRecOn
  rename_i N ih
  intro w0 M Γ v usv hN hv 
  refine CallOk.kn hv fun hv => ?_
  rw [Val.enc_eq] at hv
  refine enter (f := 44) Tryd.func44 rfl Tryd.ntmps44 rfl rfl fun w1 hw1 => ?_
  refine CW.addRds hv ?_
  refine CW.seq fun K1 hK1 => ?_
  refine CW.region ?_
  refine RL.box _ rfl rfl rfl fun b1 => ?_
  refine RL.q (Y.assign rfl) rfl ?_
  refine RL.nil ?_
  refine hK1 _ _ _ ?_
  refine CW.kp [1] rfl ?_
  refine CW.seq fun K2 hK2 => ?_
  refine CW.region ?_
  refine RL.q (Y.assign rfl) rfl ?_
  refine RL.nil ?_
  refine hK2 _ _ _ ?_
  refine CW.kp [1, 3] rfl ?_
  refine CW.seq fun K3 hK3 => ?_
  refine CW.seq fun K4 hK4 => ?_
  refine CW.region ?_
  refine RL.q (Y.assign rfl) rfl ?_
  refine RL.nil ?_
  refine hK4 _ _ _ ?_
  refine CW.kp [1, 3, 4] rfl ?_
  refine CW.block ?_
  -- LOOP 1: live [1, 3, 4] changed [3, 4]
  refine CW.kp [3, 4, 1] rfl ?_
  refine CW.loopF (fun m Lc M1 Γc => ∃ k : Nat, m = v.kids.length - k ∧ k ≤ v.kids.length ∧ Lc = [(3, vint (w64 (1 + Val.sizes (v.kids.take k) : Nat))), (4, vint k)] ∧ Γc = [] ∧ M1 = M) (v.kids.length) [(3, _), (4, _)] _ rfl rfl ⟨0, rfl, Nat.zero_le _, rfl, rfl, rfl⟩ ?_
  rintro m Lc M Γc hs ⟨k, rfl, hk, rfl, rfl, rfl⟩
  refine CW.seq fun K5 hK5 => ?_
  refine CW.seq fun K6 hK6 => ?_
  refine CW.region ?_
  refine RL.q (Y.move rfl) rfl ?_
  refine RL.q (Y.field rfl field26_2) rfl ?_
  first | refine RL.q (Y.loadOwnV rfl MM MM (by rfl) flat24) rfl ?_ | refine RL.q (Y.loadOwn rfl MM (by rfl) flat24) rfl ?_ | refine RL.loadOwnSl rfl rfl MM MM (by rfl) flat24 rfl fun a7 c7 hu7 hc7 hl7 => ?_
  refine RL.q (Y.len rfl Tryd.underlying24) rfl ?_
  refine RL.q (Y.lss rfl rfl) rfl ?_
  refine RL.nil ?_
  refine hK6 _ _ _ ?_
  refine CW.kp [1, 3, 4, 9] rfl ?_
  refine CW.ite rfl (fun h1 => ?_) (fun h1 => ?_)
  ·have hka : k < v.kids.length := by omega
   have hss := Val.sizes_succ v.kids k hka
   refine CW.skip ?_
   refine hK5 _ _ _ ?_
   refine CW.seq fun K7 hK7 => ?_
   refine CW.block ?_
   refine CW.region ?_
   refine RL.q (Y.move rfl) rfl ?_
   refine RL.q (Y.field rfl field26_2) rfl ?_
   first | refine RL.q (Y.loadOwnV rfl MM MM (by rfl) flat24) rfl ?_ | refine RL.q (Y.loadOwn rfl MM (by rfl) flat24) rfl ?_ | refine RL.loadOwnSl rfl rfl MM MM (by rfl) flat24 rfl fun a14 c14 hu14 hc14 hl14 => ?_
   refine RL.q (Y.move rfl) rfl ?_
   refine RL.q (Y.index _ rfl rfl rfl AO slice24 SM) rfl ?_
   refine RL.loadAgg rfl rfl MM (Eq.trans (flat_take Val.enc_len _ _ _ (List.getElem?_eq_getElem AO)) (Val.enc_eq _)) (by rfl) agg26 rfl fun us17 hul17 hur17 => ?_
   refine RL.callv rfl func44 rfl rfl (by exact ih _ (by rw [← hN]; exact Val.size_kid (List.getElem_mem hka)) _ _ _ v.kids[k] _ rfl KK) ?_
   refine RL.q (Y.addW rfl rfl) rfl ?_
   refine RL.q (Y.assign rfl) rfl ?_
   refine RL.nil ?_
   refine hK7 _ _ _ ?_
   refine CW.kp [1, 3, 4] rfl ?_
   refine CW.region ?_
   refine RL.q (Y.move rfl) rfl ?_
   refine RL.q (Y.add rfl rfl OM) rfl ?_
   refine RL.q (Y.assign rfl) rfl ?_
   refine RL.nil ?_
   refine ⟨v.kids.length - (k + 1), [(3, _), (4, _)], ?_, (KP [3, 4, 1]), ?_⟩
   · omega
   · exact Turn.drop ⟨[], rfl, hs, k + 1, rfl, by omega, by rw [hss, ← Nat.add_assoc, w64_nat]; rfl, rfl, rfl⟩ SB
  refine CW.exit ?_
  refine hK3 _ _ _ ?_
  refine CW.seq fun K8 hK8 => ?_
  refine CW.region ?_
  refine RL.q (Y.move rfl) rfl ?_
  refine RL.q (Y.assign rfl) rfl ?_
  refine RL.nil ?_
  refine hK8 _ _ _ ?_
  refine CW.kp [2] rfl ?_
  refine CW.ret ?_
  rw [show k = v.kids.length from by omega, List.take_length, ← Val.size_eq]
  exact ⟨_, rfl, Turn.drop ⟨rfl, rfl, rfl⟩ SB⟩

theorem size_ok (N : Nat) : ∀ (w0 : World) (M : Mem) (Γ : List As) (v : Val) (usv : List Value) , v.size = N → Kn w0 M Γ (RdL M v.enc usv) → 
    CallOk Tryd.prog w0 M Γ 103 #[.agg usv.toArray] (Is M Γ (vint (w64 (v.size : Nat)))) := by
  induction N using Nat.strongRecOn
  rename_i N ih
  intro w0 M Γ v usv hN hv 
  refine CallOk.kn hv fun hv => ?_
  rw [Val.enc_eq] at hv
  refine enter (f := 103) Tryd.func103 rfl Tryd.ntmps103 rfl rfl fun w1 hw1 => ?_
  refine CW.addRds hv ?_
  refine CW.seq fun K1 hK1 => ?_
  refine CW.region ?_
  refine RL.box _ rfl rfl rfl fun b1 => ?_
  refine RL.q (Y.assign rfl) rfl ?_
  refine RL.nil ?_
  refine hK1 _ _ _ ?_
  refine CW.kp [1] rfl ?_
  refine CW.seq fun K2 hK2 => ?_
  refine CW.region ?_
  refine RL.q (Y.assign rfl) rfl ?_
  refine RL.nil ?_
  refine hK2 _ _ _ ?_
  refine CW.kp [1, 3] rfl ?_
  refine CW.seq fun K3 hK3 => ?_
  refine CW.seq fun K4 hK4 => ?_
  refine CW.region ?_
  refine RL.q (Y.field rfl field26_2) rfl ?_
  first | refine RL.q (Y.loadOwnV rfl MM MM (by rfl) flat24) rfl ?_ | refine RL.q (Y.loadOwn rfl MM (by rfl) flat24) rfl ?_ | refine RL.loadOwnSl rfl rfl MM MM (by rfl) flat24 rfl fun a7 c7 hu7 hc7 hl7 => ?_
  refine RL.q (Y.len rfl Tryd.underlying24) rfl ?_
  refine RL.q (Y.move rfl) rfl ?_
  refine RL.nil ?_
  refine hK4 _ _ _ ?_
  refine CW.kp [3, 7, 8, 9] rfl ?_
  refine CW.block ?_
  -- LOOP 1: live [3, 7, 8, 9] changed [3, 9]
  refine CW.kp [3, 9, 7, 8] rfl ?_
  refine CW.loopF (fun m Lc M1 Γc => ∃ k : Nat, m = v.kids.length - k ∧ k ≤ v.kids.length ∧ Lc = [(3, vint (w64 (1 + Val.sizes (v.kids.take k) : Nat))), (9, vint k)] ∧ Γc = [] ∧ M1 = M) (v.kids.length) [(3, _), (9, _)] _ rfl rfl ⟨0, rfl, Nat.zero_le _, rfl, rfl, rfl⟩ ?_
  rintro m Lc M Γc hs ⟨k, rfl, hk, rfl, rfl, rfl⟩
  refine CW.seq fun K5 hK5 => ?_
  refine CW.region ?_
  refine RL.q (Y.lss rfl rfl) rfl ?_
  refine RL.nil ?_
  refine hK5 _ _ _ ?_
  refine CW.kp [3, 7, 8, 9, 10] rfl ?_
  refine CW.seq fun K6 hK6 => ?_
  refine CW.ite rfl (fun h1 => ?_) (fun h1 => ?_)
  ·have hka : k < v.kids.length := by omega
   have hss := Val.sizes_succ v.kids k hka
   refine CW.skip ?_
   refine hK6 _ _ _ ?_
   refine CW.seq fun K7 hK7 => ?_
   refine CW.block ?_
   refine CW.seq fun K8 hK8 => ?_
   refine CW.region ?_
   refine RL.q (Y.index _ rfl rfl rfl AO slice24 SM) rfl ?_
   refine RL.loadAgg rfl rfl MM (Eq.trans (flat_take Val.enc_len _ _ _ (List.getElem?_eq_getElem AO)) (Val.enc_eq _)) (by rfl) agg26 rfl fun us12 hul12 hur12 => ?_
   refine RL.alloc _ zero26 rfl rfl fun b5 => ?_
   first | refine RL.storeRds 3 rfl rfl RP MM EL (by first | exact Kn.lenRds MM EL | exact Kn.lenLit rfl) size26 ?_ | refine RL.storeAgg _ rfl rfl RP (by rfl) (by first | (simp; done) | simp [IdT.vals]) (by first | (simp [Value.oneCell']; done) | simp [Value.oneCell', IdT.vals]) size26 ?_
   refine RL.nil ?_
   refine hK8 _ _ _ ?_
   refine CW.kp [3, 5, 7, 8, 9] rfl ?_
   refine CW.region ?_
   refine RL.q (Y.move rfl) rfl ?_
   first | refine RL.q (Y.loadAllR rfl MM MM EL agg26) rfl ?_ | refine RL.q (Y.loadAll rfl MM (by rfl) agg26) rfl ?_ | refine RL.loadPart rfl rfl MM MM (by rfl) (by rfl) agg26 rfl fun us14 hul14 hur14 => ?_
   refine RL.callv rfl func103 rfl rfl (by exact ih _ (by rw [← hN]; exact Val.size_kid (List.getElem_mem hka)) _ _ _ v.kids[k] _ rfl KK) ?_
   refine RL.q (Y.addW rfl rfl) rfl ?_
   refine RL.q (Y.assign rfl) rfl ?_
   refine RL.nil ?_
   refine hK7 _ _ _ ?_
   refine CW.kp [3, 7, 8, 9] rfl ?_
   refine CW.region ?_
   refine RL.q (Y.add rfl rfl OM) rfl ?_
   refine RL.q (Y.move rfl) rfl ?_
   refine RL.nil ?_
   refine ⟨v.kids.length - (k + 1), [(3, _), (9, _)], ?_, (KP [3, 9, 7, 8]), ?_⟩
   · omega
   · exact Turn.drop ⟨[], rfl, hs, k + 1, rfl, by omega, by rw [hss, ← Nat.add_assoc, w64_nat]; rfl, rfl, rfl⟩ SB
  refine CW.exit ?_
  refine hK3 _ _ _ ?_
  refine CW.seq fun K9 hK9 => ?_
  refine CW.region ?_
  refine RL.q (Y.move rfl) rfl ?_
  refine RL.q (Y.assign rfl) rfl ?_
  refine RL.nil ?_
  refine hK9 _ _ _ ?_
  refine CW.kp [2] rfl ?_
  refine CW.ret ?_
  rw [show k = v.kids.length from by omega, List.take_length, ← Val.size_eq]
  exact ⟨_, rfl, Turn.drop ⟨rfl, rfl, rfl⟩ SB⟩

theorem rdepth_ok (N : Nat) : ∀ (w0 : World) (M : Mem) (Γ : List As) (v : Val) (usv : List Value) , v.depth = N → Kn w0 M Γ (RdL M v.enc usv) → v.depth ≤ 4611686018427387904 → 
    CallOk Tryd.prog w0 M Γ 45 #[.agg usv.toArray] (Is M Γ (vint (v.depth : Nat))) := by
  induction N using Nat.strongRecOn
  rename_i N ih
  intro w0 M Γ v usv hN hv hd
  have hdd := Val.depth_eq v
  refine CallOk.kn hv fun hv => ?_
  rw [Val.enc_eq] at hv
  refine enter (f := 45) Tryd.func45 rfl Tryd.ntmps45 rfl rfl fun w1 hw1 => ?_
  refine CW.addRds hv ?_
  refine CW.seq fun K1 hK1 => ?_
  refine CW.region ?_
  refine RL.box _ rfl rfl rfl fun b1 => ?_
  refine RL.q (Y.assign rfl) rfl ?_
  refine RL.nil ?_
  refine hK1 _ _ _ ?_
  refine CW.kp [1] rfl ?_
  refine CW.seq fun K2 hK2 => ?_
  refine CW.region ?_
  refine RL.q (Y.assign rfl) rfl ?_
  refine RL.nil ?_
  refine hK2 _ _ _ ?_
  refine CW.kp [1, 3] rfl ?_
  refine CW.seq fun K3 hK3 => ?_
  refine CW.seq fun K4 hK4 => ?_
  refine CW.region ?_
  refine RL.q (Y.assign rfl) rfl ?_
  refine RL.nil ?_
  refine hK4 _ _ _ ?_
  refine CW.kp [1, 3, 4] rfl ?_
  refine CW.block ?_
  -- LOOP 1: live [1, 3, 4] changed [3, 4]
  refine CW.kp [3, 4, 1] rfl ?_
  refine CW.loopF (fun m Lc M1 Γc => ∃ k : Nat, m = v.kids.length - k ∧ k ≤ v.kids.length ∧ Lc = [(3, vint (Val.depths (v.kids.take k) : Nat)), (4, vint k)] ∧ Γc = [] ∧ M1 = M) (v.kids.length) [(3, _), (4, _)] _ rfl rfl ⟨0, rfl, Nat.zero_le _, rfl, rfl, rfl⟩ ?_
  rintro m Lc M Γc hs ⟨k, rfl, hk, rfl, rfl, rfl⟩
  refine CW.seq fun K5 hK5 => ?_
  refine CW.seq fun K6 hK6 => ?_
  refine CW.region ?_
  refine RL.q (Y.move rfl) rfl ?_
  refine RL.q (Y.field rfl field26_2) rfl ?_
  first | refine RL.q (Y.loadOwnV rfl MM MM (by rfl) flat24) rfl ?_ | refine RL.q (Y.loadOwn rfl MM (by rfl) flat24) rfl ?_ | refine RL.loadOwnSl rfl rfl MM MM (by rfl) flat24 rfl fun a7 c7 hu7 hc7 hl7 => ?_
  refine RL.q (Y.len rfl Tryd.underlying24) rfl ?_
  refine RL.q (Y.lss rfl rfl) rfl ?_
  refine RL.nil ?_
  refine hK6 _ _ _ ?_
  refine CW.kp [1, 3, 4, 9] rfl ?_
  refine CW.ite rfl (fun h1 => ?_) (fun h1 => ?_)
  ·have hka : k < v.kids.length := by omega
   have hss := Val.depths_succ v.kids k hka
   have hdk := Val.depth_kid (List.getElem_mem hka)
   refine CW.skip ?_
   refine hK5 _ _ _ ?_
   refine CW.seq fun K7 hK7 => ?_
   refine CW.block ?_
   refine CW.region ?_
   refine RL.q (Y.move rfl) rfl ?_
   refine RL.q (Y.field rfl field26_2) rfl ?_
   first | refine RL.q (Y.loadOwnV rfl MM MM (by rfl) flat24) rfl ?_ | refine RL.q (Y.loadOwn rfl MM (by rfl) flat24) rfl ?_ | refine RL.loadOwnSl rfl rfl MM MM (by rfl) flat24 rfl fun a14 c14 hu14 hc14 hl14 => ?_
   refine RL.q (Y.move rfl) rfl ?_
   refine RL.q (Y.index _ rfl rfl rfl AO slice24 SM) rfl ?_
   refine RL.loadAgg rfl rfl MM (Eq.trans (flat_take Val.enc_len _ _ _ (List.getElem?_eq_getElem AO)) (Val.enc_eq _)) (by rfl) agg26 rfl fun us17 hul17 hur17 => ?_
   refine RL.callv rfl func45 rfl rfl (by exact ih _ (by rw [← hN]; exact Val.depth_kid (List.getElem_mem hka)) _ _ _ v.kids[k] _ rfl KK OM) ?_
   refine RL.q (Y.max2 rfl rfl) rfl ?_
   refine RL.q (Y.assign rfl) rfl ?_
   refine RL.nil ?_
   refine hK7 _ _ _ ?_
   refine CW.kp [1, 3, 4] rfl ?_
   refine CW.region ?_
   refine RL.q (Y.move rfl) rfl ?_
   refine RL.q (Y.add rfl rfl OM) rfl ?_
   refine RL.q (Y.assign rfl) rfl ?_
   refine RL.nil ?_
   refine ⟨v.kids.length - (k + 1), [(3, _), (4, _)], ?_, (KP [3, 4, 1]), ?_⟩
   · omega
   · exact Turn.drop ⟨[], rfl, hs, k + 1, rfl, by omega, by rw [hss, cast_max]; rfl, rfl, rfl⟩ SB
  refine CW.exit ?_
  refine hK3 _ _ _ ?_
  refine CW.seq fun K8 hK8 => ?_
  have hka : k = v.kids.length := by omega
  subst hka
  have ht : v.kids.take v.kids.length = v.kids := List.take_length
  refine CW.region ?_
  refine RL.q (Y.move rfl) rfl ?_
  refine RL.q (Y.add rfl rfl (by rw [ht]; omega)) rfl ?_
  refine RL.q (Y.assign rfl) rfl ?_
  refine RL.nil ?_
  refine hK8 _ _ _ ?_
  refine CW.kp [2] rfl ?_
  refine CW.ret ?_
  rw [ht, show ((Val.depths v.kids : Nat) : Int) + 1 = (v.depth : Nat) from by omega]
  exact ⟨_, rfl, Turn.drop ⟨rfl, rfl, rfl⟩ SB⟩

end Go.Proofs.YtanbipbiblikbaaDoor

/- THE WALKS, 5: the order of values. Printed by m04e.py. -/
namespace Go.Proofs.YtanbipbiblikbaaDoor
open Xe

theorem isNaN_ok (w0 : World) (M : Mem) (Γ : List As) (n : Int)    :
    CallOk Tryd.prog w0 M Γ 100 #[vint n] (Is M Γ (.bool false)) := by
  refine enter (f := 100) Tryd.func100 rfl Tryd.ntmps100 rfl rfl fun w1 hw1 => ?_
  refine CW.seq fun K1 hK1 => ?_
  refine CW.region ?_
  refine RL.q (Y.assign rfl) rfl ?_
  refine RL.nil ?_
  refine hK1 _ _ _ ?_
  refine CW.kp [0] rfl ?_
  refine CW.seq fun K2 hK2 => ?_
  refine CW.region ?_
  refine RL.q (Y.move rfl) rfl ?_
  refine RL.q (Y.move rfl) rfl ?_
  refine RL.q (Y.neq rfl rfl) rfl ?_
  refine RL.q (Y.assign rfl) rfl ?_
  refine RL.nil ?_
  refine hK2 _ _ _ ?_
  refine CW.kp [2] rfl ?_
  refine CW.ret ?_
  exact ⟨_, rfl, Turn.drop ⟨by simp, rfl, rfl⟩ SB⟩

theorem cmpI_ok (w0 : World) (M : Mem) (Γ : List As) (a : Int) (b : Int)    :
    CallOk Tryd.prog w0 M Γ 69 #[vint a, vint b] (Is M Γ (vint (cmpI a b))) := by
  refine enter (f := 69) Tryd.func69 rfl Tryd.ntmps69 rfl rfl fun w1 hw1 => ?_
  refine CW.seq fun K1 hK1 => ?_
  refine CW.region ?_
  refine RL.q (Y.assign rfl) rfl ?_
  refine RL.nil ?_
  refine hK1 _ _ _ ?_
  refine CW.kp [0, 1] rfl ?_
  refine CW.seq fun K2 hK2 => ?_
  refine CW.region ?_
  refine RL.q (Y.move rfl) rfl ?_
  refine RL.callv rfl func100 rfl rfl (by exact isNaN_ok _ _ _ _) ?_
  refine RL.q (Y.assign rfl) rfl ?_
  refine RL.nil ?_
  refine hK2 _ _ _ ?_
  refine CW.kp [0, 1, 5] rfl ?_
  refine CW.seq fun K3 hK3 => ?_
  refine CW.region ?_
  refine RL.q (Y.move rfl) rfl ?_
  refine RL.callv rfl func100 rfl rfl (by exact isNaN_ok _ _ _ _) ?_
  refine RL.q (Y.assign rfl) rfl ?_
  refine RL.nil ?_
  refine hK3 _ _ _ ?_
  refine CW.kp [0, 1, 5, 6] rfl ?_
  refine CW.seq fun K4 hK4 => ?_
  refine CW.seq fun K5 hK5 => ?_
  refine CW.region ?_
  refine RL.q (Y.move rfl) rfl ?_
  refine RL.nil ?_
  refine hK5 _ _ _ ?_
  refine CW.kp [0, 1, 6, 11] rfl ?_
  refine CW.no rfl ?_
  refine CW.skip ?_
  refine hK4 _ _ _ ?_
  refine CW.seq fun K6 hK6 => ?_
  refine CW.seq fun K7 hK7 => ?_
  refine CW.region ?_
  refine RL.q (Y.move rfl) rfl ?_
  refine RL.nil ?_
  refine hK7 _ _ _ ?_
  refine CW.kp [0, 1, 13] rfl ?_
  refine CW.no rfl ?_
  refine CW.skip ?_
  refine hK6 _ _ _ ?_
  refine CW.seq fun K8 hK8 => ?_
  refine CW.seq fun K9 hK9 => ?_
  refine CW.region ?_
  refine RL.q (Y.move rfl) rfl ?_
  refine RL.q (Y.move rfl) rfl ?_
  refine RL.q (Y.lss rfl rfl) rfl ?_
  refine RL.nil ?_
  refine hK9 _ _ _ ?_
  refine CW.kp [0, 1, 16] rfl ?_
  refine CW.ite rfl (fun h4 => ?_) (fun h4 => ?_)
  ·refine CW.seq fun K10 hK10 => ?_
   refine CW.region ?_
   refine RL.q (Y.assign rfl) rfl ?_
   refine RL.nil ?_
   refine hK10 _ _ _ ?_
   refine CW.kp [4] rfl ?_
   refine CW.ret ?_
   rw [cmpI_lt h4]
   exact ⟨_, rfl, Turn.drop ⟨rfl, rfl, rfl⟩ SB⟩
  refine CW.skip ?_
  refine hK8 _ _ _ ?_
  refine CW.seq fun K11 hK11 => ?_
  refine CW.seq fun K12 hK12 => ?_
  refine CW.region ?_
  refine RL.q (Y.move rfl) rfl ?_
  refine RL.q (Y.move rfl) rfl ?_
  refine RL.q (Y.gtr rfl rfl) rfl ?_
  refine RL.nil ?_
  refine hK12 _ _ _ ?_
  refine CW.kp [19] rfl ?_
  refine CW.ite rfl (fun h5 => ?_) (fun h5 => ?_)
  ·refine CW.seq fun K13 hK13 => ?_
   refine CW.region ?_
   refine RL.q (Y.assign rfl) rfl ?_
   refine RL.nil ?_
   refine hK13 _ _ _ ?_
   refine CW.kp [4] rfl ?_
   refine CW.ret ?_
   rw [cmpI_gt h5]
   exact ⟨_, rfl, Turn.drop ⟨rfl, rfl, rfl⟩ SB⟩
  refine CW.skip ?_
  refine hK11 _ _ _ ?_
  refine CW.seq fun K14 hK14 => ?_
  refine CW.region ?_
  refine RL.q (Y.assign rfl) rfl ?_
  refine RL.nil ?_
  refine hK14 _ _ _ ?_
  refine CW.kp [4] rfl ?_
  refine CW.ret ?_
  rw [show cmpI a b = 0 from by unfold cmpI; rw [if_neg h4, if_neg h5]]
  exact ⟨_, rfl, Turn.drop ⟨rfl, rfl, rfl⟩ SB⟩

theorem or_ok (w0 : World) (M : Mem) (Γ : List As) (l : List Int) (p : Addr) (hc : CellsK w0 M Γ p (ints l)) (hl : l.length ≤ 1000) :
    CallOk Tryd.prog w0 M Γ 68 #[.slice (some p) l.length l.length] (Is M Γ (vint (orI l))) := by
  refine enter (f := 68) Tryd.func68 rfl Tryd.ntmps68 rfl rfl fun w1 hw1 => ?_
  refine CW.seq fun K1 hK1 => ?_
  refine CW.region ?_
  refine RL.q (Y.assign rfl) rfl ?_
  refine RL.nil ?_
  refine hK1 _ _ _ ?_
  refine CW.kp [0] rfl ?_
  refine CW.seq fun K2 hK2 => ?_
  refine CW.region ?_
  refine RL.q (Y.assign rfl) rfl ?_
  refine RL.nil ?_
  refine hK2 _ _ _ ?_
  refine CW.kp [0, 3] rfl ?_
  refine CW.seq fun K3 hK3 => ?_
  refine CW.seq fun K4 hK4 => ?_
  refine CW.region ?_
  refine RL.q (Y.move rfl) rfl ?_
  refine RL.q (Y.len rfl Tryd.underlying22) rfl ?_
  refine RL.q (Y.move rfl) rfl ?_
  refine RL.nil ?_
  refine hK4 _ _ _ ?_
  refine CW.kp [3, 6, 7, 8] rfl ?_
  refine CW.block ?_
  -- LOOP 1: live [3, 6, 7, 8] changed [8]
  refine CW.kp [8, 3, 6, 7] rfl ?_
  refine CW.loopF (fun m Lc M1 Γc => ∃ k : Nat, m = l.length - k ∧ k ≤ l.length ∧ Lc = [(8, vint k)] ∧ Γc = [] ∧ M1 = M ∧ ∀ j (hj : j < l.length), j < k → ¬ l[j] ≠ 0) (l.length) [(8, _)] _ rfl rfl ⟨0, rfl, Nat.zero_le _, rfl, rfl, rfl, fun _ _ h => absurd h (Nat.not_lt_zero _)⟩ ?_
  rintro m Lc M Γc hs ⟨k, rfl, hk, rfl, rfl, rfl, hF0⟩
  refine CW.seq fun K5 hK5 => ?_
  refine CW.region ?_
  refine RL.q (Y.lss rfl rfl) rfl ?_
  refine RL.nil ?_
  refine hK5 _ _ _ ?_
  refine CW.kp [3, 6, 7, 8, 9] rfl ?_
  refine CW.seq fun K6 hK6 => ?_
  refine CW.ite rfl (fun h1 => ?_) (fun h1 => ?_)
  ·have hka : k < l.length := by omega
   refine CW.skip ?_
   refine hK6 _ _ _ ?_
   refine CW.seq fun K7 hK7 => ?_
   refine CW.block ?_
   refine CW.seq fun K8 hK8 => ?_
   refine CW.region ?_
   refine RL.q (Y.index k rfl rfl rfl hka slice22 (fun _ _ => rfl)) rfl ?_
   refine RL.q (Y.load rfl flat3 (fun w hw => hc w hw _ _ (ints_get (List.getElem?_eq_getElem hka) (Nat.mul_one _)))) rfl ?_
   refine RL.q (Y.assign rfl) rfl ?_
   refine RL.nil ?_
   refine hK8 _ _ _ ?_
   refine CW.kp [3, 5, 6, 7, 8] rfl ?_
   refine CW.seq fun K9 hK9 => ?_
   refine CW.region ?_
   refine RL.q (Y.move rfl) rfl ?_
   refine RL.q (Y.move rfl) rfl ?_
   refine RL.q (Y.neq rfl rfl) rfl ?_
   refine RL.nil ?_
   refine hK9 _ _ _ ?_
   refine CW.kp [3, 5, 6, 7, 8, 14] rfl ?_
   refine CW.ite rfl (fun h2 => ?_) (fun h2 => ?_)
   ·refine CW.seq fun K10 hK10 => ?_
    refine CW.region ?_
    refine RL.q (Y.move rfl) rfl ?_
    refine RL.q (Y.assign rfl) rfl ?_
    refine RL.nil ?_
    refine hK10 _ _ _ ?_
    refine CW.kp [2] rfl ?_
    refine CW.ret ?_
    rw [orI_hit hka hF0 h2]
    exact ⟨_, rfl, Turn.drop ⟨rfl, rfl, rfl⟩ SB⟩
   refine CW.skip ?_
   refine hK7 _ _ _ ?_
   refine CW.region ?_
   refine RL.q (Y.add rfl rfl OM) rfl ?_
   refine RL.q (Y.move rfl) rfl ?_
   refine RL.nil ?_
   refine ⟨l.length - (k + 1), [(8, _)], ?_, (KP [8, 3, 6, 7]), ?_⟩
   · omega
   · exact Turn.drop ⟨[], rfl, hs, k + 1, rfl, by omega, rfl, rfl, rfl, all_step (p := fun x => ¬ x ≠ 0) hF0 hka h2⟩ SB
  refine CW.exit ?_
  refine hK3 _ _ _ ?_
  refine CW.seq fun K11 hK11 => ?_
  refine CW.region ?_
  refine RL.q (Y.move rfl) rfl ?_
  refine RL.q (Y.assign rfl) rfl ?_
  refine RL.nil ?_
  refine hK11 _ _ _ ?_
  refine CW.kp [2] rfl ?_
  refine CW.ret ?_
  rw [orI_miss fun j hj => hF0 j hj OM]
  exact ⟨_, rfl, Turn.drop ⟨rfl, rfl, rfl⟩ SB⟩

theorem cmpVs_ok (N : Nat) (ih : ∀ (w0 : World) (M : Mem) (Γ : List As) (a : Val) (usa : List Value) (b : Val) (usb : List Value), a.size < N → Kn w0 M Γ (RdL M a.enc usa) → Kn w0 M Γ (RdL M b.enc usb) → CallOk Tryd.prog w0 M Γ 32 #[.agg usa.toArray, .agg usb.toArray] (Is M Γ (vint (cmpV a b))))
    (w0 : World) (M : Mem) (Γ : List As) (xs ys : List Val) (u v : Value) (hs : ∀ a ∈ xs, a.size < N) (hu : Kn w0 M Γ (Rd M (.sl xs.length 3 (xs.flatMap Val.enc)) u)) (hv : Kn w0 M Γ (Rd M (.sl ys.length 3 (ys.flatMap Val.enc)) v)) :
    CallOk Tryd.prog w0 M Γ 70 #[u, v, .func (.func 32) #[] #[]] (Is M Γ (vint (cmpVs xs ys))) := by
  refine CallOk.kn hu fun hu => ?_
  refine CallOk.kn hv fun hv => ?_
  obtain ⟨a1, c1, rfl, hc1, hlim1, hlen1⟩ := hu.slice
  obtain ⟨a2, c2, rfl, hc2, hlim2, hlen2⟩ := hv.slice
  refine enter (f := 70) Tryd.func70 rfl Tryd.ntmps70 rfl rfl fun w1 hw1 => ?_
  refine CW.addRd hu ?_
  refine CW.addRd hv ?_
  refine CW.seq fun K1 hK1 => ?_
  refine CW.region ?_
  refine RL.q (Y.assign rfl) rfl ?_
  refine RL.nil ?_
  refine hK1 _ _ _ ?_
  refine CW.kp [0, 1, 2] rfl ?_
  refine CW.seq fun K2 hK2 => ?_
  refine CW.seq fun K3 hK3 => ?_
  refine CW.region ?_
  refine RL.q (Y.move rfl) rfl ?_
  refine RL.q (Y.len rfl Tryd.underlying24) rfl ?_
  refine RL.q (Y.move rfl) rfl ?_
  refine RL.nil ?_
  refine hK3 _ _ _ ?_
  refine CW.kp [0, 1, 2, 11, 12, 13] rfl ?_
  refine CW.block ?_
  -- LOOP 1: live [0, 1, 2, 11, 12, 13] changed [13]
  refine CW.kp [13, 0, 1, 2, 11, 12] rfl ?_
  refine CW.loopF (fun m Lc M1 Γc => ∃ k : Nat, m = xs.length - k ∧ k ≤ xs.length ∧ Lc = [(13, vint k)] ∧ Γc = [] ∧ M1 = M ∧ k ≤ ys.length ∧ ∀ j (hj : j < xs.length) (hj2 : j < ys.length), j < k → cmpV xs[j] ys[j] = 0) (xs.length) [(13, _)] _ rfl rfl ⟨0, rfl, Nat.zero_le _, rfl, rfl, rfl, Nat.zero_le _, fun _ _ _ h => absurd h (Nat.not_lt_zero _)⟩ ?_
  rintro m Lc M Γc hsub ⟨k, rfl, hk, rfl, rfl, rfl, hF0, hF1⟩
  refine CW.seq fun K4 hK4 => ?_
  refine CW.region ?_
  refine RL.q (Y.lss rfl rfl) rfl ?_
  refine RL.nil ?_
  refine hK4 _ _ _ ?_
  refine CW.kp [0, 1, 2, 11, 12, 13, 14] rfl ?_
  refine CW.seq fun K5 hK5 => ?_
  refine CW.ite rfl (fun h1 => ?_) (fun h1 => ?_)
  ·have hka : k < xs.length := by omega
   refine CW.skip ?_
   refine hK5 _ _ _ ?_
   refine CW.seq fun K6 hK6 => ?_
   refine CW.block ?_
   refine CW.seq fun K7 hK7 => ?_
   refine CW.region ?_
   refine RL.q (Y.move rfl) rfl ?_
   refine RL.q (Y.index _ rfl rfl rfl AO slice24 SM) rfl ?_
   refine RL.loadAgg rfl rfl MM (Eq.trans (flat_take Val.enc_len _ _ _ (List.getElem?_eq_getElem AO)) (Val.enc_eq _)) (by rfl) agg26 rfl fun us17 hul17 hur17 => ?_
   refine RL.alloc _ zero26 rfl rfl fun b8 => ?_
   refine RL.q (Y.assign rfl) rfl ?_
   first | refine RL.storeRds 3 rfl rfl RP MM EL (by first | exact Kn.lenRds MM EL | exact Kn.lenLit rfl) size26 ?_ | refine RL.storeAgg _ rfl rfl RP (by rfl) (by first | (simp; done) | simp [IdT.vals]) (by first | (simp [Value.oneCell']; done) | simp [Value.oneCell', IdT.vals]) size26 ?_
   refine RL.nil ?_
   refine hK7 _ _ _ ?_
   refine CW.kp [0, 1, 2, 7, 8, 11, 12, 13] rfl ?_
   refine CW.seq fun K8 hK8 => ?_
   refine CW.seq fun K9 hK9 => ?_
   refine CW.region ?_
   refine RL.q (Y.move rfl) rfl ?_
   refine RL.q (Y.move rfl) rfl ?_
   refine RL.q (Y.len rfl Tryd.underlying24) rfl ?_
   refine RL.q (Y.geq rfl rfl) rfl ?_
   refine RL.nil ?_
   refine hK9 _ _ _ ?_
   refine CW.kp [0, 1, 2, 7, 8, 11, 12, 13, 21] rfl ?_
   refine CW.ite rfl (fun h2 => ?_) (fun h2 => ?_)
   ·refine CW.seq fun K10 hK10 => ?_
    refine CW.region ?_
    refine RL.q (Y.assign rfl) rfl ?_
    refine RL.nil ?_
    refine hK10 _ _ _ ?_
    refine CW.kp [6] rfl ?_
    refine CW.ret ?_
    rw [cmpVs_long OM (fun j hj hj2 => hF1 j hj hj2 OM)]
    exact ⟨_, rfl, Turn.drop ⟨rfl, rfl, rfl⟩ SB⟩
   have hkb : k < ys.length := by omega
   refine CW.skip ?_
   refine hK8 _ _ _ ?_
   refine CW.seq fun K11 hK11 => ?_
   refine CW.region ?_
   refine RL.q (Y.move rfl) rfl ?_
   refine RL.q (Y.move rfl) rfl ?_
   refine RL.q (Y.index _ rfl rfl rfl AO slice24 SM) rfl ?_
   refine RL.loadAgg rfl rfl MM (Eq.trans (flat_take Val.enc_len _ _ _ (List.getElem?_eq_getElem AO)) (Val.enc_eq _)) (by rfl) agg26 rfl fun us25 hul25 hur25 => ?_
   refine RL.alloc _ zero26 rfl rfl fun b9 => ?_
   first | refine RL.storeRds 3 rfl rfl RP MM EL (by first | exact Kn.lenRds MM EL | exact Kn.lenLit rfl) size26 ?_ | refine RL.storeAgg _ rfl rfl RP (by rfl) (by first | (simp; done) | simp [IdT.vals]) (by first | (simp [Value.oneCell']; done) | simp [Value.oneCell', IdT.vals]) size26 ?_
   refine RL.nil ?_
   refine hK11 _ _ _ ?_
   refine CW.kp [0, 1, 2, 8, 9, 11, 12, 13] rfl ?_
   refine CW.seq fun K12 hK12 => ?_
   refine CW.region ?_
   refine RL.q (Y.move rfl) rfl ?_
   first | refine RL.q (Y.loadAllR rfl MM MM EL agg26) rfl ?_ | refine RL.q (Y.loadAll rfl MM (by rfl) agg26) rfl ?_ | refine RL.loadPart rfl rfl MM MM (by rfl) (by rfl) agg26 rfl fun us27 hul27 hur27 => ?_
   first | refine RL.q (Y.loadAllR rfl MM MM EL agg26) rfl ?_ | refine RL.q (Y.loadAll rfl MM (by rfl) agg26) rfl ?_ | refine RL.loadPart rfl rfl MM MM (by rfl) (by rfl) agg26 rfl fun us28 hul28 hur28 => ?_
   refine RL.callfv rfl func32 rfl rfl rfl (by simpa using ih _ _ _ xs[k] _ ys[k] _ (hs _ (List.getElem_mem hka)) (by first | exact Kn.val MM | fail) (by first | exact Kn.val MM | fail)) ?_
   refine RL.q (Y.assign rfl) rfl ?_
   refine RL.nil ?_
   refine hK12 _ _ _ ?_
   refine CW.kp [0, 1, 2, 10, 11, 12, 13] rfl ?_
   refine CW.seq fun K13 hK13 => ?_
   refine CW.region ?_
   refine RL.q (Y.move rfl) rfl ?_
   refine RL.q (Y.neq rfl rfl) rfl ?_
   refine RL.nil ?_
   refine hK13 _ _ _ ?_
   refine CW.kp [0, 1, 2, 10, 11, 12, 13, 31] rfl ?_
   refine CW.ite rfl (fun h3 => ?_) (fun h3 => ?_)
   ·refine CW.seq fun K14 hK14 => ?_
    refine CW.region ?_
    refine RL.q (Y.move rfl) rfl ?_
    refine RL.q (Y.assign rfl) rfl ?_
    refine RL.nil ?_
    refine hK14 _ _ _ ?_
    refine CW.kp [6] rfl ?_
    refine CW.ret ?_
    rw [cmpVs_hit hka hkb (fun j hj hj2 hlt => hF1 j hj hj2 hlt) h3]
    exact ⟨_, rfl, Turn.drop ⟨rfl, rfl, rfl⟩ SB⟩
   refine CW.skip ?_
   refine hK6 _ _ _ ?_
   refine CW.region ?_
   refine RL.q (Y.add rfl rfl OM) rfl ?_
   refine RL.q (Y.move rfl) rfl ?_
   refine RL.nil ?_
   refine ⟨xs.length - (k + 1), [(13, _)], ?_, (KP [13, 0, 1, 2, 11, 12]), ?_⟩
   · omega
   · exact Turn.drop ⟨[], rfl, hsub, k + 1, rfl, by omega, rfl, rfl, rfl, by omega, fun j hj hj2 hlt => by by_cases e : j = k; subst e; exact Decidable.not_not.1 h3; exact hF1 j hj hj2 OM⟩ SB
  refine CW.exit ?_
  refine hK2 _ _ _ ?_
  refine CW.seq fun K15 hK15 => ?_
  refine CW.seq fun K16 hK16 => ?_
  refine CW.region ?_
  refine RL.q (Y.move rfl) rfl ?_
  refine RL.q (Y.len rfl Tryd.underlying24) rfl ?_
  refine RL.q (Y.move rfl) rfl ?_
  refine RL.q (Y.len rfl Tryd.underlying24) rfl ?_
  refine RL.q (Y.lss rfl rfl) rfl ?_
  refine RL.nil ?_
  refine hK16 _ _ _ ?_
  refine CW.kp [38] rfl ?_
  refine CW.ite rfl (fun h4 => ?_) (fun h4 => ?_)
  ·refine CW.seq fun K17 hK17 => ?_
   refine CW.region ?_
   refine RL.q (Y.assign rfl) rfl ?_
   refine RL.nil ?_
   refine hK17 _ _ _ ?_
   refine CW.kp [6] rfl ?_
   refine CW.ret ?_
   rw [cmpVs_short OM (fun j hj hj2 => hF1 j hj hj2 OM)]
   exact ⟨_, rfl, Turn.drop ⟨rfl, rfl, rfl⟩ SB⟩
  refine CW.skip ?_
  refine hK15 _ _ _ ?_
  refine CW.seq fun K18 hK18 => ?_
  refine CW.region ?_
  refine RL.q (Y.assign rfl) rfl ?_
  refine RL.nil ?_
  refine hK18 _ _ _ ?_
  refine CW.kp [6] rfl ?_
  refine CW.ret ?_
  rw [cmpVs_zero OM (fun j hj hj2 => hF1 j hj hj2 OM)]
  exact ⟨_, rfl, Turn.drop ⟨rfl, rfl, rfl⟩ SB⟩

theorem cmpV_ok (N : Nat) : ∀ (w0 : World) (M : Mem) (Γ : List As) (a : Val) (usa : List Value) (b : Val) (usb : List Value) , a.size = N → Kn w0 M Γ (RdL M a.enc usa) → Kn w0 M Γ (RdL M b.enc usb) → 
    CallOk Tryd.prog w0 M Γ 32 #[.agg usa.toArray, .agg usb.toArray] (Is M Γ (vint (cmpV a b))) := by
  induction N using Nat.strongRecOn
  rename_i N ih
  intro w0 M Γ a usa b usb hN ha hb 
  refine CallOk.kn ha fun ha => ?_
  rw [Val.enc_eq] at ha
  refine CallOk.kn hb fun hb => ?_
  rw [Val.enc_eq] at hb
  refine enter (f := 32) Tryd.func32 rfl Tryd.ntmps32 rfl rfl fun w1 hw1 => ?_
  refine CW.addRds ha ?_
  refine CW.addRds hb ?_
  refine CW.seq fun K1 hK1 => ?_
  refine CW.region ?_
  refine RL.box _ rfl rfl rfl fun b2 => ?_
  refine RL.box _ rfl rfl rfl fun b3 => ?_
  refine RL.q (Y.assign rfl) rfl ?_
  refine RL.nil ?_
  refine hK1 _ _ _ ?_
  refine CW.kp [2, 3] rfl ?_
  refine CW.seq fun K2 hK2 => ?_
  refine CW.seq fun K3 hK3 => ?_
  refine CW.regionH mix _ _ (fun _ hw => hw) ?_
  refine HL.take 0 rfl KR KR KR rfl (Y.field rfl field26_0) rfl ?_
  first | refine HL.take 1 rfl KR KR KR rfl (Y.loadOwnV rfl MM MM (by rfl) flat3) rfl ?_ | refine HL.take 1 rfl KR KR KR rfl (Y.loadOwn rfl MM (by rfl) flat3) rfl ?_ | refine HL.loadOwnSl 1 rfl KR KR KR rfl rfl MM MM (by rfl) flat3 rfl fun a7 c7 hu7 hc7 hl7 => ?_
  refine HL.take 2 rfl KR KR KR rfl (Y.field rfl field26_0) rfl ?_
  first | refine HL.take 3 rfl KR KR KR rfl (Y.loadOwnV rfl MM MM (by rfl) flat3) rfl ?_ | refine HL.take 3 rfl KR KR KR rfl (Y.loadOwn rfl MM (by rfl) flat3) rfl ?_ | refine HL.loadOwnSl 3 rfl KR KR KR rfl rfl MM MM (by rfl) flat3 rfl fun a9 c9 hu9 hc9 hl9 => ?_
  refine HL.take 5 rfl KR KR KR rfl (Y.field rfl field26_1) rfl ?_
  first | refine HL.take 6 rfl KR KR KR rfl (Y.loadOwnV rfl MM MM (by rfl) flat3) rfl ?_ | refine HL.take 6 rfl KR KR KR rfl (Y.loadOwn rfl MM (by rfl) flat3) rfl ?_ | refine HL.loadOwnSl 6 rfl KR KR KR rfl rfl MM MM (by rfl) flat3 rfl fun a12 c12 hu12 hc12 hl12 => ?_
  refine HL.take 7 rfl KR KR KR rfl (Y.field rfl field26_1) rfl ?_
  first | refine HL.take 8 rfl KR KR KR rfl (Y.loadOwnV rfl MM MM (by rfl) flat3) rfl ?_ | refine HL.take 8 rfl KR KR KR rfl (Y.loadOwn rfl MM (by rfl) flat3) rfl ?_ | refine HL.loadOwnSl 8 rfl KR KR KR rfl rfl MM MM (by rfl) flat3 rfl fun a14 c14 hu14 hc14 hl14 => ?_
  refine HL.take 10 rfl KR KR KR rfl (Y.field rfl field26_2) rfl ?_
  first | refine HL.take 11 rfl KR KR KR rfl (Y.loadOwnV rfl MM MM (by rfl) flat24) rfl ?_ | refine HL.take 11 rfl KR KR KR rfl (Y.loadOwn rfl MM (by rfl) flat24) rfl ?_ | refine HL.loadOwnSl 11 rfl KR KR KR rfl rfl MM MM (by rfl) flat24 rfl fun a17 c17 hu17 hc17 hl17 => ?_
  refine HL.take 12 rfl KR KR KR rfl (Y.len rfl Tryd.underlying24) rfl ?_
  refine HL.take 13 rfl KR KR KR rfl (Y.field rfl field26_2) rfl ?_
  first | refine HL.take 14 rfl KR KR KR rfl (Y.loadOwnV rfl MM MM (by rfl) flat24) rfl ?_ | refine HL.take 14 rfl KR KR KR rfl (Y.loadOwn rfl MM (by rfl) flat24) rfl ?_ | refine HL.loadOwnSl 14 rfl KR KR KR rfl rfl MM MM (by rfl) flat24 rfl fun a20 c20 hu20 hc20 hl20 => ?_
  refine HL.take 15 rfl KR KR KR rfl (Y.len rfl Tryd.underlying24) rfl ?_
  refine HL.step 4 rfl KR ?_
  refine RL.callv rfl func69 rfl rfl (by exact cmpI_ok _ _ _ _ _) ?_
  refine RL.nil ⟨keep_same SB, ?_⟩
  refine HL.step 9 rfl KR ?_
  refine RL.callv rfl func69 rfl rfl (by exact cmpI_ok _ _ _ _ _) ?_
  refine RL.nil ⟨keep_same SB, ?_⟩
  refine HL.step 16 rfl KR ?_
  refine RL.callv rfl func69 rfl rfl (by exact cmpI_ok _ _ _ _ _) ?_
  refine RL.nil ⟨keep_same SB, ?_⟩
  refine HL.step 17 rfl KR ?_
  refine RL.buildSlice (ints [cmpI a.kind b.kind, cmpI a.n b.n, cmpI a.kids.length b.kids.length]) elem22 rfl (by decide) (fill3 (out := [vint (cmpI a.kind b.kind)]) (out' := [vint (cmpI a.n b.n)]) (out'' := [vint (cmpI a.kids.length b.kids.length)]) rfl rfl rfl rfl rfl rfl) rfl fun b23 => ?_
  refine RL.nil ⟨keep_same SB, ?_⟩
  refine HL.step 18 rfl KR ?_
  refine RL.callv rfl func68 rfl rfl (by exact or_ok _ _ _ [cmpI a.kind b.kind, cmpI a.n b.n, cmpI a.kids.length b.kids.length] _ (CellsK.own MM) (by simp)) ?_
  refine RL.nil ⟨keep_same SB, ?_⟩
  refine HL.take 19 rfl KR KR KR rfl (Y.assign rfl) rfl ?_
  refine HL.done KR ?_
  refine hK3 _ _ _ ?_
  refine CW.kp [2, 3, 5] rfl ?_
  refine CW.seq fun K4 hK4 => ?_
  refine CW.region ?_
  refine RL.q (Y.move rfl) rfl ?_
  refine RL.q (Y.neq rfl rfl) rfl ?_
  refine RL.nil ?_
  refine hK4 _ _ _ ?_
  refine CW.kp [2, 3, 5, 26] rfl ?_
  refine CW.ite rfl (fun h1 => ?_) (fun h1 => ?_)
  ·refine CW.seq fun K5 hK5 => ?_
   refine CW.region ?_
   refine RL.q (Y.move rfl) rfl ?_
   refine RL.q (Y.assign rfl) rfl ?_
   refine RL.nil ?_
   refine hK5 _ _ _ ?_
   refine CW.kp [4] rfl ?_
   refine CW.ret ?_
   rw [show orI [cmpI a.kind b.kind, cmpI a.n b.n, cmpI a.kids.length b.kids.length] = cmpV a b from by rw [cmpV_or, if_pos h1]]
   exact ⟨_, rfl, Turn.drop ⟨rfl, rfl, rfl⟩ SB⟩
  refine CW.skip ?_
  refine hK2 _ _ _ ?_
  refine CW.seq fun K6 hK6 => ?_
  refine CW.region ?_
  refine RL.q (Y.field rfl field26_2) rfl ?_
  first | refine RL.q (Y.loadOwnV rfl MM MM (by rfl) flat24) rfl ?_ | refine RL.q (Y.loadOwn rfl MM (by rfl) flat24) rfl ?_ | refine RL.loadOwnSl rfl rfl MM MM (by rfl) flat24 rfl fun a29 c29 hu29 hc29 hl29 => ?_
  refine RL.q (Y.field rfl field26_2) rfl ?_
  first | refine RL.q (Y.loadOwnV rfl MM MM (by rfl) flat24) rfl ?_ | refine RL.q (Y.loadOwn rfl MM (by rfl) flat24) rfl ?_ | refine RL.loadOwnSl rfl rfl MM MM (by rfl) flat24 rfl fun a31 c31 hu31 hc31 hl31 => ?_
  refine RL.callv rfl func70 rfl rfl (by exact cmpVs_ok N (fun w0 M Γ x us y vs hx => ih _ hx w0 M Γ x us y vs rfl) _ _ _ a.kids b.kids _ _ (fun x hx => hN ▸ Val.size_kid hx) KK KK) ?_
  refine RL.q (Y.assign rfl) rfl ?_
  refine RL.nil ?_
  refine hK6 _ _ _ ?_
  refine CW.kp [4] rfl ?_
  refine CW.ret ?_
  rw [show cmpVs a.kids b.kids = cmpV a b from by rw [cmpV_or, if_neg h1]]
  exact ⟨_, rfl, Turn.drop ⟨rfl, rfl, rfl⟩ SB⟩

theorem rcmpV_ok (N : Nat) : ∀ (w0 : World) (M : Mem) (Γ : List As) (a : Val) (usa : List Value) (b : Val) (usb : List Value) , a.size = N → Kn w0 M Γ (RdL M a.enc usa) → Kn w0 M Γ (RdL M b.enc usb) → 
    CallOk Tryd.prog w0 M Γ 30 #[.agg usa.toArray, .agg usb.toArray] (Is M Γ (vint (cmpV a b))) := by
  induction N using Nat.strongRecOn
  rename_i N ih
  intro w0 M Γ a usa b usb hN ha hb 
  have hla : (head3 a).length = 3 := rfl
  have hlb : (head3 b).length = 3 := rfl
  refine CallOk.kn ha fun ha => ?_
  rw [Val.enc_eq] at ha
  refine CallOk.kn hb fun hb => ?_
  rw [Val.enc_eq] at hb
  refine enter (f := 30) Tryd.func30 rfl Tryd.ntmps30 rfl rfl fun w1 hw1 => ?_
  refine CW.addRds ha ?_
  refine CW.addRds hb ?_
  refine CW.seq fun K1 hK1 => ?_
  refine CW.region ?_
  refine RL.box _ rfl rfl rfl fun b2 => ?_
  refine RL.box _ rfl rfl rfl fun b3 => ?_
  refine RL.q (Y.assign rfl) rfl ?_
  refine RL.nil ?_
  refine hK1 _ _ _ ?_
  refine CW.kp [2, 3] rfl ?_
  refine CW.seq fun K2 hK2 => ?_
  refine CW.region ?_
  refine RL.q (Y.field rfl field26_0) rfl ?_
  first | refine RL.q (Y.loadOwnV rfl MM MM (by rfl) flat3) rfl ?_ | refine RL.q (Y.loadOwn rfl MM (by rfl) flat3) rfl ?_ | refine RL.loadOwnSl rfl rfl MM MM (by rfl) flat3 rfl fun a11 c11 hu11 hc11 hl11 => ?_
  refine RL.q (Y.field rfl field26_1) rfl ?_
  first | refine RL.q (Y.loadOwnV rfl MM MM (by rfl) flat3) rfl ?_ | refine RL.q (Y.loadOwn rfl MM (by rfl) flat3) rfl ?_ | refine RL.loadOwnSl rfl rfl MM MM (by rfl) flat3 rfl fun a13 c13 hu13 hc13 hl13 => ?_
  refine RL.q (Y.field rfl field26_2) rfl ?_
  first | refine RL.q (Y.loadOwnV rfl MM MM (by rfl) flat24) rfl ?_ | refine RL.q (Y.loadOwn rfl MM (by rfl) flat24) rfl ?_ | refine RL.loadOwnSl rfl rfl MM MM (by rfl) flat24 rfl fun a15 c15 hu15 hc15 hl15 => ?_
  refine RL.q (Y.len rfl Tryd.underlying24) rfl ?_
  refine RL.buildSlice (ints (head3 a)) elem22 rfl (by decide) (fill3 (out := [vint a.kind]) (out' := [vint a.n]) (out'' := [vint a.kids.length]) rfl rfl rfl rfl rfl rfl) rfl fun b17 => ?_
  refine RL.q (Y.assign rfl) rfl ?_
  refine RL.nil ?_
  refine hK2 _ _ _ ?_
  refine CW.kp [2, 3, 5] rfl ?_
  refine CW.seq fun K3 hK3 => ?_
  refine CW.region ?_
  refine RL.q (Y.field rfl field26_0) rfl ?_
  first | refine RL.q (Y.loadOwnV rfl MM MM (by rfl) flat3) rfl ?_ | refine RL.q (Y.loadOwn rfl MM (by rfl) flat3) rfl ?_ | refine RL.loadOwnSl rfl rfl MM MM (by rfl) flat3 rfl fun a19 c19 hu19 hc19 hl19 => ?_
  refine RL.q (Y.field rfl field26_1) rfl ?_
  first | refine RL.q (Y.loadOwnV rfl MM MM (by rfl) flat3) rfl ?_ | refine RL.q (Y.loadOwn rfl MM (by rfl) flat3) rfl ?_ | refine RL.loadOwnSl rfl rfl MM MM (by rfl) flat3 rfl fun a21 c21 hu21 hc21 hl21 => ?_
  refine RL.q (Y.field rfl field26_2) rfl ?_
  first | refine RL.q (Y.loadOwnV rfl MM MM (by rfl) flat24) rfl ?_ | refine RL.q (Y.loadOwn rfl MM (by rfl) flat24) rfl ?_ | refine RL.loadOwnSl rfl rfl MM MM (by rfl) flat24 rfl fun a23 c23 hu23 hc23 hl23 => ?_
  refine RL.q (Y.len rfl Tryd.underlying24) rfl ?_
  refine RL.buildSlice (ints (head3 b)) elem22 rfl (by decide) (fill3 (out := [vint b.kind]) (out' := [vint b.n]) (out'' := [vint b.kids.length]) rfl rfl rfl rfl rfl rfl) rfl fun b25 => ?_
  refine RL.q (Y.assign rfl) rfl ?_
  refine RL.nil ?_
  refine hK3 _ _ _ ?_
  refine CW.kp [2, 3, 5, 6] rfl ?_
  refine CW.seq fun K4 hK4 => ?_
  refine CW.seq fun K5 hK5 => ?_
  refine CW.region ?_
  refine RL.q (Y.assign rfl) rfl ?_
  refine RL.nil ?_
  refine hK5 _ _ _ ?_
  refine CW.kp [2, 3, 5, 6, 7] rfl ?_
  refine CW.block ?_
  -- LOOP 1: live [2, 3, 5, 6, 7] changed [7]
  refine CW.kp [7, 2, 3, 5, 6] rfl ?_
  refine CW.loopF (fun m Lc M1 Γc => ∃ k : Nat, m = 3 - k ∧ k ≤ 3 ∧ Lc = [(7, vint k)] ∧ Γc = [] ∧ M1 = M ∧ ∀ j (hj : j < (head3 a).length), j < k → (head3 a)[j] = (head3 b)[j]) (3) [(7, _)] _ rfl rfl ⟨0, rfl, Nat.zero_le _, rfl, rfl, rfl, fun _ _ h => absurd h (Nat.not_lt_zero _)⟩ ?_
  rintro m Lc M Γc hs ⟨k, rfl, hk, rfl, rfl, rfl, hF0⟩
  refine CW.seq fun K6 hK6 => ?_
  refine CW.seq fun K7 hK7 => ?_
  refine CW.region ?_
  refine RL.q (Y.move rfl) rfl ?_
  refine RL.q (Y.lss rfl rfl) rfl ?_
  refine RL.nil ?_
  refine hK7 _ _ _ ?_
  refine CW.kp [2, 3, 5, 6, 7, 27] rfl ?_
  refine CW.ite rfl (fun h1 => ?_) (fun h1 => ?_)
  ·have h3k : k < 3 := by omega
   have hka : k < (head3 a).length := by omega
   have hkb : k < (head3 b).length := by omega
   refine CW.skip ?_
   refine hK6 _ _ _ ?_
   refine CW.seq fun K8 hK8 => ?_
   refine CW.block ?_
   refine CW.seq fun K9 hK9 => ?_
   refine CW.seq fun K10 hK10 => ?_
   refine CW.regionQ mix KR ?_
   refine QL.q (Y.move rfl) rfl ?_
   refine QL.q (Y.move rfl) rfl ?_
   refine QL.q (Y.index k rfl rfl rfl h3k slice22 (fun _ _ => rfl)) rfl ?_
   refine QL.q (Y.loadOwn rfl MM (ints_get (List.getElem?_eq_getElem hka) (Nat.mul_one _)) flat3) rfl ?_
   refine QL.q (Y.move rfl) rfl ?_
   refine QL.q (Y.move rfl) rfl ?_
   refine QL.q (Y.index k rfl rfl rfl h3k slice22 (fun _ _ => rfl)) rfl ?_
   refine QL.q (Y.loadOwn rfl MM (ints_get (List.getElem?_eq_getElem hkb) (Nat.mul_one _)) flat3) rfl ?_
   refine QL.q (Y.lss rfl rfl) rfl ?_
   refine QL.nil ?_
   refine hK10 _ _ _ ?_
   refine CW.kp [2, 3, 5, 6, 7, 38] rfl ?_
   refine CW.ite rfl (fun h2 => ?_) (fun h2 => ?_)
   ·refine CW.seq fun K11 hK11 => ?_
    refine CW.region ?_
    refine RL.q (Y.assign rfl) rfl ?_
    refine RL.nil ?_
    refine hK11 _ _ _ ?_
    refine CW.kp [4] rfl ?_
    refine CW.ret ?_
    rw [cmpV_head h3k hF0 (-1) (by decide) (cmpI_lt h2)]
    exact ⟨_, rfl, Turn.drop ⟨rfl, rfl, rfl⟩ SB⟩
   refine CW.skip ?_
   refine hK9 _ _ _ ?_
   refine CW.seq fun K12 hK12 => ?_
   refine CW.regionQ mix KR ?_
   refine QL.q (Y.move rfl) rfl ?_
   refine QL.q (Y.move rfl) rfl ?_
   refine QL.q (Y.index k rfl rfl rfl h3k slice22 (fun _ _ => rfl)) rfl ?_
   refine QL.q (Y.loadOwn rfl MM (ints_get (List.getElem?_eq_getElem hka) (Nat.mul_one _)) flat3) rfl ?_
   refine QL.q (Y.move rfl) rfl ?_
   refine QL.q (Y.move rfl) rfl ?_
   refine QL.q (Y.index k rfl rfl rfl h3k slice22 (fun _ _ => rfl)) rfl ?_
   refine QL.q (Y.loadOwn rfl MM (ints_get (List.getElem?_eq_getElem hkb) (Nat.mul_one _)) flat3) rfl ?_
   refine QL.q (Y.gtr rfl rfl) rfl ?_
   refine QL.nil ?_
   refine hK12 _ _ _ ?_
   refine CW.kp [2, 3, 5, 6, 7, 47] rfl ?_
   refine CW.ite rfl (fun h3 => ?_) (fun h3 => ?_)
   ·refine CW.seq fun K13 hK13 => ?_
    refine CW.region ?_
    refine RL.q (Y.assign rfl) rfl ?_
    refine RL.nil ?_
    refine hK13 _ _ _ ?_
    refine CW.kp [4] rfl ?_
    refine CW.ret ?_
    rw [cmpV_head h3k hF0 1 (by decide) (cmpI_gt h3)]
    exact ⟨_, rfl, Turn.drop ⟨rfl, rfl, rfl⟩ SB⟩
   refine CW.skip ?_
   refine hK8 _ _ _ ?_
   refine CW.region ?_
   refine RL.q (Y.move rfl) rfl ?_
   refine RL.q (Y.add rfl rfl OM) rfl ?_
   refine RL.q (Y.assign rfl) rfl ?_
   refine RL.nil ?_
   refine ⟨3 - (k + 1), [(7, _)], ?_, (KP [7, 2, 3, 5, 6]), ?_⟩
   · omega
   · exact Turn.drop ⟨[], rfl, hs, k + 1, rfl, by omega, rfl, rfl, rfl, fun j hj hlt => by by_cases e : j = k; subst e; omega; exact hF0 j hj OM⟩ SB
  refine CW.exit ?_
  refine hK4 _ _ _ ?_
  refine CW.seq fun K14 hK14 => ?_
  refine CW.seq fun K15 hK15 => ?_
  have hh := head3_eq (fun j hj _ => hF0 j hj OM)
  refine CW.region ?_
  refine RL.q (Y.assign rfl) rfl ?_
  refine RL.nil ?_
  refine hK15 _ _ _ ?_
  refine CW.kp [2, 3, 8] rfl ?_
  refine CW.block ?_
  -- LOOP 2: live [2, 3, 8] changed [8]
  refine CW.kp [8, 2, 3] rfl ?_
  refine CW.loopF (fun m Lc M1 Γc => ∃ k : Nat, m = a.kids.length - k ∧ k ≤ a.kids.length ∧ Lc = [(8, vint k)] ∧ Γc = [] ∧ M1 = M ∧ ∀ j (hj : j < a.kids.length) (hj2 : j < b.kids.length), j < k → cmpV a.kids[j] b.kids[j] = 0) (a.kids.length) [(8, _)] _ rfl rfl ⟨0, rfl, Nat.zero_le _, rfl, rfl, rfl, fun _ _ _ h => absurd h (Nat.not_lt_zero _)⟩ ?_
  rintro m Lc M Γc hs2 ⟨k, rfl, hk, rfl, rfl, rfl, hF0⟩
  refine CW.seq fun K16 hK16 => ?_
  refine CW.seq fun K17 hK17 => ?_
  refine CW.region ?_
  refine RL.q (Y.move rfl) rfl ?_
  refine RL.q (Y.field rfl field26_2) rfl ?_
  first | refine RL.q (Y.loadOwnV rfl MM MM (by rfl) flat24) rfl ?_ | refine RL.q (Y.loadOwn rfl MM (by rfl) flat24) rfl ?_ | refine RL.loadOwnSl rfl rfl MM MM (by rfl) flat24 rfl fun a50 c50 hu50 hc50 hl50 => ?_
  refine RL.q (Y.len rfl Tryd.underlying24) rfl ?_
  refine RL.q (Y.lss rfl rfl) rfl ?_
  refine RL.nil ?_
  refine hK17 _ _ _ ?_
  refine CW.kp [2, 3, 8, 52] rfl ?_
  refine CW.ite rfl (fun h4 => ?_) (fun h4 => ?_)
  ·have hkc : k < a.kids.length := by omega
   have hkd : k < b.kids.length := by omega
   refine CW.skip ?_
   refine hK16 _ _ _ ?_
   refine CW.seq fun K18 hK18 => ?_
   refine CW.block ?_
   refine CW.seq fun K19 hK19 => ?_
   refine CW.regionQ mix KR ?_
   refine QL.q (Y.field rfl field26_2) rfl ?_
   first | refine QL.q (Y.loadOwnV rfl MM MM (by rfl) flat24) rfl ?_ | refine QL.q (Y.loadOwn rfl MM (by rfl) flat24) rfl ?_ | refine QL.loadOwnSl rfl rfl MM MM (by rfl) flat24 rfl fun a56 c56 hu56 hc56 hl56 => ?_
   refine QL.q (Y.move rfl) rfl ?_
   refine QL.q (Y.index _ rfl rfl rfl AO slice24 SM) rfl ?_
   refine QL.loadAgg rfl rfl MM (Eq.trans (flat_take Val.enc_len _ _ _ (List.getElem?_eq_getElem AO)) (Val.enc_eq _)) (by rfl) agg26 rfl fun us59 hul59 hur59 => ?_
   refine QL.q (Y.field rfl field26_2) rfl ?_
   first | refine QL.q (Y.loadOwnV rfl MM MM (by rfl) flat24) rfl ?_ | refine QL.q (Y.loadOwn rfl MM (by rfl) flat24) rfl ?_ | refine QL.loadOwnSl rfl rfl MM MM (by rfl) flat24 rfl fun a61 c61 hu61 hc61 hl61 => ?_
   refine QL.q (Y.move rfl) rfl ?_
   refine QL.q (Y.index _ rfl rfl rfl AO slice24 SM) rfl ?_
   refine QL.loadAgg rfl rfl MM (Eq.trans (flat_take Val.enc_len _ _ _ (List.getElem?_eq_getElem AO)) (Val.enc_eq _)) (by rfl) agg26 rfl fun us64 hul64 hur64 => ?_
   refine QL.callv rfl func30 rfl rfl (by exact fun _ hC => ih _ (by rw [← hN]; exact Val.size_kid (List.getElem_mem hkc)) _ _ _ a.kids[k] _ b.kids[k] _ rfl (Kn.via hC KK) (Kn.via hC KK)) ?_
   refine QL.q (Y.assign rfl) rfl ?_
   refine QL.nil ?_
   refine hK19 _ _ _ ?_
   refine CW.kp [2, 3, 8, 9] rfl ?_
   refine CW.seq fun K20 hK20 => ?_
   refine CW.region ?_
   refine RL.q (Y.move rfl) rfl ?_
   refine RL.q (Y.neq rfl rfl) rfl ?_
   refine RL.nil ?_
   refine hK20 _ _ _ ?_
   refine CW.kp [2, 3, 8, 9, 67] rfl ?_
   refine CW.ite rfl (fun h5 => ?_) (fun h5 => ?_)
   ·refine CW.seq fun K21 hK21 => ?_
    refine CW.region ?_
    refine RL.q (Y.move rfl) rfl ?_
    refine RL.q (Y.assign rfl) rfl ?_
    refine RL.nil ?_
    refine hK21 _ _ _ ?_
    refine CW.kp [4] rfl ?_
    refine CW.ret ?_
    rw [cmpV_kids hh, cmpVs_hit hkc hkd (fun j hj hj2 hlt => hF0 j hj hj2 hlt) h5]
    exact ⟨_, rfl, Turn.drop ⟨rfl, rfl, rfl⟩ SB⟩
   refine CW.skip ?_
   refine hK18 _ _ _ ?_
   refine CW.region ?_
   refine RL.q (Y.move rfl) rfl ?_
   refine RL.q (Y.add rfl rfl OM) rfl ?_
   refine RL.q (Y.assign rfl) rfl ?_
   refine RL.nil ?_
   refine ⟨a.kids.length - (k + 1), [(8, _)], ?_, (KP [8, 2, 3]), ?_⟩
   · omega
   · exact Turn.drop ⟨[], rfl, hs2, k + 1, rfl, by omega, rfl, rfl, rfl, fun j hj hj2 hlt => by by_cases e : j = k; subst e; exact Decidable.not_not.1 h5; exact hF0 j hj hj2 OM⟩ SB
  refine CW.exit ?_
  refine hK14 _ _ _ ?_
  refine CW.seq fun K22 hK22 => ?_
  refine CW.region ?_
  refine RL.q (Y.assign rfl) rfl ?_
  refine RL.nil ?_
  refine hK22 _ _ _ ?_
  refine CW.kp [4] rfl ?_
  refine CW.ret ?_
  rw [cmpV_kids hh, cmpVs_zero hh.2.2 (fun j hj hj2 => hF0 j hj hj2 OM)]
  exact ⟨_, rfl, Turn.drop ⟨rfl, rfl, rfl⟩ SB⟩

end Go.Proofs.YtanbipbiblikbaaDoor

/- THE WALKS, 10: zero values, by both. Printed by m04j.py. -/
namespace Go.Proofs.YtanbipbiblikbaaDoor
open Xe

theorem rzeroF_ok (n : Nat) : ∀ (w0 : World) (M : Mem) (Γ : List As) (p : ProgT) (usp : List Value) (t : Ty) (ust : List Value) (d : Nat) (l : Int), d + n = 25 → 1 ≤ d → 0 ≤ l → l ≤ 256 → Kn w0 M Γ (RdL M p.enc usp) → Kn w0 M Γ (RdL M t.enc ust) →
    CallOk Tryd.prog w0 M Γ 72 #[.agg usp.toArray, .agg ust.toArray, vint d, vint (256 - l)]
      (Gives M Γ fun M' v => ∃ us, v = .tuple #[.agg us.toArray, vint (256 - (zeroF p n t l).2.2), vint (zeroF p n t l).2.1] ∧ RdL M' (zeroF p n t l).1.enc us) := by
  induction n using Nat.strongRecOn
  rename_i n ih
  intro w0 M Γ p usp t ust d l hd hd1 hl0 hl hp ht
  refine CallOk.kn hp fun hp => ?_
  refine CallOk.kn ht fun ht => ?_
  rw [ProgT.enc_eq] at hp
  rw [Ty.enc_eq] at ht
  refine enterCell3 (f := 72) Tryd.func72 rfl Tryd.ntmps72 rfl rfl fun w1 hw1 => ?_
  refine CW.addRds hp ?_
  refine CW.addRds ht ?_
  refine CW.seq fun K1 hK1 => ?_
  refine CW.region ?_
  refine RL.box _ rfl rfl rfl fun b4 => ?_
  refine RL.box _ rfl rfl rfl fun b5 => ?_
  refine RL.alloc _ zero26 rfl rfl fun b8 => ?_
  refine RL.q (Y.assign rfl) rfl ?_
  refine RL.q (Y.assign rfl) rfl ?_
  refine RL.nil ?_
  refine hK1 _ _ _ ?_
  refine CW.kp [2, 3, 4, 5, 8] rfl ?_
  refine CW.seq fun K2 hK2 => ?_
  refine CW.seq fun K3 hK3 => ?_
  refine CW.region ?_
  first | refine RL.q (Y.loadAllR rfl MM MM EL agg32) rfl ?_ | refine RL.q (Y.loadAll rfl MM (by rfl) agg32) rfl ?_ | refine RL.loadPart rfl rfl MM MM (by rfl) (by rfl) agg32 rfl fun us19 hul19 hur19 => ?_
  first | refine RL.q (Y.loadAllR rfl MM MM EL agg38) rfl ?_ | refine RL.q (Y.loadAll rfl MM (by rfl) agg38) rfl ?_ | refine RL.loadPart rfl rfl MM MM (by rfl) (by rfl) agg38 rfl fun us20 hul20 hur20 => ?_
  refine RL.callv rfl func101 rfl rfl (by exact rvalidType_ok _ _ _ _ _ _ _ KK KK) ?_
  refine RL.q (Y.notD rfl) rfl ?_
  refine RL.nil ?_
  refine hK3 _ _ _ ?_
  refine CW.kp [2, 3, 4, 5, 8, 22] rfl ?_
  refine CW.ite rfl (fun h1 => ?_) (fun h1 => ?_)
  ·refine CW.seq fun K4 hK4 => ?_
   refine CW.region ?_
   refine RL.q (Y.build [_, _, _] rfl zero26 places26 (by rfl)) rfl ?_
   refine RL.q (Y.move rfl) rfl ?_
   first | refine RL.storeRds 3 rfl rfl RP MM EL (by first | exact Kn.lenRds MM EL | exact Kn.lenLit rfl) size26 ?_ | refine RL.storeAgg _ rfl rfl RP (by rfl) (by first | (simp; done) | simp [IdT.vals]) (by first | (simp [Value.oneCell']; done) | simp [Value.oneCell', IdT.vals]) size26 ?_
   refine RL.q (Y.assign rfl) rfl ?_
   refine RL.q (Y.assign rfl) rfl ?_
   refine RL.nil ?_
   refine hK4 _ _ _ ?_
   refine CW.kp [8, 9, 10] rfl ?_
   refine CW.ret ?_
   refine ⟨_, _, rfl, rfl, ?_⟩
   exact CellAt.mk rfl MM (by first | rfl | assumption) agg26 (Turn.drop ⟨Sub.refl _, rfl, _, by rw [zeroF_arg h1], by rw [zeroF_arg h1]; exact (by rw [Val.enc_eq]; exact (by repeat (first | exact RdL.nil _ | refine RdL.cons (by first | exact Rd.i _ | exact Rd.nilS | exact Rd.str _ | assumption) ?_)))⟩ SB)
  have hvt : validT p t := Decidable.not_not.1 h1
  refine CW.skip ?_
  refine hK2 _ _ _ ?_
  refine CW.seq fun K5 hK5 => ?_
  refine CW.region ?_
  refine RL.q (Y.move rfl) rfl ?_
  refine RL.q (Y.add rfl rfl OM) rfl ?_
  refine RL.q (Y.assign rfl) rfl ?_
  refine RL.nil ?_
  refine hK5 _ _ _ ?_
  refine CW.kp [2, 3, 4, 5, 8] rfl ?_
  rw [show (256 : Int) - l + 1 = 256 - (l - 1) from by omega]
  refine CW.seq fun K6 hK6 => ?_
  refine CW.seq fun K7 hK7 => ?_
  refine CW.region ?_
  refine RL.q (Y.move rfl) rfl ?_
  refine RL.qs (Y.gtr rfl rfl) rfl (fun g28 => ?_) (fun g28 => ?_)
  ·refine RL.q (Y.move rfl) rfl ?_
   refine RL.no WG rfl ?_
   refine RL.no WG rfl ?_
   refine RL.q (Y.pickT rfl rfl) rfl ?_
   refine RL.nil ?_
   refine hK7 _ _ _ ?_
   refine CW.kp [2, 3, 4, 5, 8, 32] rfl ?_
   refine CW.yes rfl ?_
   refine CW.seq fun K8 hK8 => ?_
   refine CW.region ?_
   refine RL.q (Y.build [_, _, _] rfl zero26 places26 (by rfl)) rfl ?_
   refine RL.q (Y.move rfl) rfl ?_
   first | refine RL.storeRds 3 rfl rfl RP MM EL (by first | exact Kn.lenRds MM EL | exact Kn.lenLit rfl) size26 ?_ | refine RL.storeAgg _ rfl rfl RP (by rfl) (by first | (simp; done) | simp [IdT.vals]) (by first | (simp [Value.oneCell']; done) | simp [Value.oneCell', IdT.vals]) size26 ?_
   refine RL.q (Y.assign rfl) rfl ?_
   refine RL.q (Y.assign rfl) rfl ?_
   refine RL.nil ?_
   refine hK8 _ _ _ ?_
   refine CW.kp [8, 9, 10] rfl ?_
   refine CW.ret ?_
   rw [show (256 : Int) - (l - 1) = 256 - (zeroF p n t l).2.2 from by rw [zeroF_lim hvt OM]]
   refine ⟨_, _, rfl, rfl, ?_⟩
   exact CellAt.mk rfl MM (by first | rfl | assumption) agg26 (Turn.drop ⟨Sub.refl _, rfl, _, by rw [zeroF_lim hvt OM], by rw [zeroF_lim hvt OM]; exact (by rw [Val.enc_eq]; exact (by repeat (first | exact RdL.nil _ | refine RdL.cons (by first | exact Rd.i _ | exact Rd.nilS | exact Rd.str _ | assumption) ?_)))⟩ SB)
  refine RL.q (Y.move rfl) rfl ?_
  refine RL.qg WG (Y.move rfl) rfl ?_
  refine RL.qg WG (Y.gtr rfl rfl) rfl ?_
  refine RL.q (Y.pickF rfl rfl) rfl ?_
  refine RL.nil ?_
  refine hK7 _ _ _ ?_
  refine CW.kp [2, 3, 4, 5, 8, 32] rfl ?_
  refine CW.ite rfl (fun h2 => ?_) (fun h2 => ?_)
  ·refine CW.seq fun K9 hK9 => ?_
   refine CW.region ?_
   refine RL.q (Y.build [_, _, _] rfl zero26 places26 (by rfl)) rfl ?_
   refine RL.q (Y.move rfl) rfl ?_
   first | refine RL.storeRds 3 rfl rfl RP MM EL (by first | exact Kn.lenRds MM EL | exact Kn.lenLit rfl) size26 ?_ | refine RL.storeAgg _ rfl rfl RP (by rfl) (by first | (simp; done) | simp [IdT.vals]) (by first | (simp [Value.oneCell']; done) | simp [Value.oneCell', IdT.vals]) size26 ?_
   refine RL.q (Y.assign rfl) rfl ?_
   refine RL.q (Y.assign rfl) rfl ?_
   refine RL.nil ?_
   refine hK9 _ _ _ ?_
   refine CW.kp [8, 9, 10] rfl ?_
   refine CW.ret ?_
   rw [show (256 : Int) - (l - 1) = 256 - (zeroF p n t l).2.2 from by rw [zeroF_lim hvt OM]]
   refine ⟨_, _, rfl, rfl, ?_⟩
   exact CellAt.mk rfl MM (by first | rfl | assumption) agg26 (Turn.drop ⟨Sub.refl _, rfl, _, by rw [zeroF_lim hvt OM], by rw [zeroF_lim hvt OM]; exact (by rw [Val.enc_eq]; exact (by repeat (first | exact RdL.nil _ | refine RdL.cons (by first | exact Rd.i _ | exact Rd.nilS | exact Rd.str _ | assumption) ?_)))⟩ SB)
  obtain ⟨n, rfl⟩ : ∃ m, n = m + 1 := ⟨n - 1, by omega⟩
  have hl1 : ¬ l - 1 < 0 := by omega
  refine CW.skip ?_
  refine hK6 _ _ _ ?_
  refine CW.seq fun K10 hK10 => ?_
  refine CW.seq fun K11 hK11 => ?_
  refine CW.region ?_
  refine RL.q (Y.field rfl field38_0) rfl ?_
  first | refine RL.q (Y.loadOwnV rfl MM MM (by rfl) flat3) rfl ?_ | refine RL.q (Y.loadOwn rfl MM (by rfl) flat3) rfl ?_ | refine RL.loadOwnSl rfl rfl MM MM (by rfl) flat3 rfl fun a36 c36 hu36 hc36 hl36 => ?_
  refine RL.q (Y.eql rfl rfl) rfl ?_
  refine RL.nil ?_
  refine hK11 _ _ _ ?_
  refine CW.kp [2, 3, 4, 5, 8, 37] rfl ?_
  refine CW.ite rfl (fun h3 => ?_) (fun h3 => ?_)
  ·refine CW.seq fun K12 hK12 => ?_
   refine CW.region ?_
   refine RL.q (Y.build [_, _, _] rfl zero26 places26 (by rfl)) rfl ?_
   refine RL.q (Y.move rfl) rfl ?_
   first | refine RL.storeRds 3 rfl rfl RP MM EL (by first | exact Kn.lenRds MM EL | exact Kn.lenLit rfl) size26 ?_ | refine RL.storeAgg _ rfl rfl RP (by rfl) (by first | (simp; done) | simp [IdT.vals]) (by first | (simp [Value.oneCell']; done) | simp [Value.oneCell', IdT.vals]) size26 ?_
   refine RL.q (Y.assign rfl) rfl ?_
   refine RL.q (Y.assign rfl) rfl ?_
   refine RL.nil ?_
   refine hK12 _ _ _ ?_
   refine CW.kp [8, 9, 10] rfl ?_
   refine CW.ret ?_
   have e : zeroF p (n + 1) t l = (.mk 0 0 [], 0, l - 1) := by rw [zeroF, if_neg (by simp [hvt]), if_neg hl1, if_pos h3]
   refine ⟨_, _, rfl, rfl, ?_⟩
   exact CellAt.mk rfl MM (by first | rfl | assumption) agg26 (Turn.drop ⟨Sub.refl _, rfl, _, by rw [e], by rw [e]; exact (by rw [Val.enc_eq]; exact (by repeat (first | exact RdL.nil _ | refine RdL.cons (by first | exact Rd.i _ | exact Rd.nilS | exact Rd.str _ | assumption) ?_)))⟩ SB)
  refine CW.skip ?_
  refine hK10 _ _ _ ?_
  refine CW.seq fun K13 hK13 => ?_
  refine CW.seq fun K14 hK14 => ?_
  refine CW.region ?_
  refine RL.q (Y.field rfl field38_0) rfl ?_
  first | refine RL.q (Y.loadOwnV rfl MM MM (by rfl) flat3) rfl ?_ | refine RL.q (Y.loadOwn rfl MM (by rfl) flat3) rfl ?_ | refine RL.loadOwnSl rfl rfl MM MM (by rfl) flat3 rfl fun a41 c41 hu41 hc41 hl41 => ?_
  refine RL.q (Y.eql rfl rfl) rfl ?_
  refine RL.nil ?_
  refine hK14 _ _ _ ?_
  refine CW.kp [2, 3, 4, 5, 8, 42] rfl ?_
  refine CW.ite rfl (fun h4 => ?_) (fun h4 => ?_)
  ·refine CW.seq fun K15 hK15 => ?_
   refine CW.region ?_
   refine RL.q (Y.build [_, _, _] rfl zero26 places26 (by rfl)) rfl ?_
   refine RL.q (Y.move rfl) rfl ?_
   first | refine RL.storeRds 3 rfl rfl RP MM EL (by first | exact Kn.lenRds MM EL | exact Kn.lenLit rfl) size26 ?_ | refine RL.storeAgg _ rfl rfl RP (by rfl) (by first | (simp; done) | simp [IdT.vals]) (by first | (simp [Value.oneCell']; done) | simp [Value.oneCell', IdT.vals]) size26 ?_
   refine RL.q (Y.assign rfl) rfl ?_
   refine RL.q (Y.assign rfl) rfl ?_
   refine RL.nil ?_
   refine hK15 _ _ _ ?_
   refine CW.kp [8, 9, 10] rfl ?_
   refine CW.ret ?_
   have e : zeroF p (n + 1) t l = (.mk 1 0 [], 0, l - 1) := by rw [zeroF, if_neg (by simp [hvt]), if_neg hl1, if_neg h3, if_pos h4]
   refine ⟨_, _, rfl, rfl, ?_⟩
   exact CellAt.mk rfl MM (by first | rfl | assumption) agg26 (Turn.drop ⟨Sub.refl _, rfl, _, by rw [e], by rw [e]; exact (by rw [Val.enc_eq]; exact (by repeat (first | exact RdL.nil _ | refine RdL.cons (by first | exact Rd.i _ | exact Rd.nilS | exact Rd.str _ | assumption) ?_)))⟩ SB)
  refine CW.skip ?_
  refine hK13 _ _ _ ?_
  refine CW.seq fun K16 hK16 => ?_
  refine CW.seq fun K17 hK17 => ?_
  refine CW.region ?_
  refine RL.q (Y.field rfl field38_0) rfl ?_
  first | refine RL.q (Y.loadOwnV rfl MM MM (by rfl) flat3) rfl ?_ | refine RL.q (Y.loadOwn rfl MM (by rfl) flat3) rfl ?_ | refine RL.loadOwnSl rfl rfl MM MM (by rfl) flat3 rfl fun a46 c46 hu46 hc46 hl46 => ?_
  refine RL.q (Y.eql rfl rfl) rfl ?_
  refine RL.nil ?_
  refine hK17 _ _ _ ?_
  refine CW.kp [2, 3, 4, 5, 8, 47] rfl ?_
  refine CW.ite rfl (fun h5 => ?_) (fun h5 => ?_)
  ·refine CW.seq fun K18 hK18 => ?_
   refine CW.region ?_
   refine RL.q (Y.build [_, _, _] rfl zero26 places26 (by rfl)) rfl ?_
   refine RL.q (Y.move rfl) rfl ?_
   first | refine RL.storeRds 3 rfl rfl RP MM EL (by first | exact Kn.lenRds MM EL | exact Kn.lenLit rfl) size26 ?_ | refine RL.storeAgg _ rfl rfl RP (by rfl) (by first | (simp; done) | simp [IdT.vals]) (by first | (simp [Value.oneCell']; done) | simp [Value.oneCell', IdT.vals]) size26 ?_
   refine RL.q (Y.assign rfl) rfl ?_
   refine RL.q (Y.assign rfl) rfl ?_
   refine RL.nil ?_
   refine hK18 _ _ _ ?_
   refine CW.kp [8, 9, 10] rfl ?_
   refine CW.ret ?_
   have e : zeroF p (n + 1) t l = (.mk 4 0 [], 0, l - 1) := by rw [zeroF, if_neg (by simp [hvt]), if_neg hl1, if_neg h3, if_neg h4, if_pos h5]
   refine ⟨_, _, rfl, rfl, ?_⟩
   exact CellAt.mk rfl MM (by first | rfl | assumption) agg26 (Turn.drop ⟨Sub.refl _, rfl, _, by rw [e], by rw [e]; exact (by rw [Val.enc_eq]; exact (by repeat (first | exact RdL.nil _ | refine RdL.cons (by first | exact Rd.i _ | exact Rd.nilS | exact Rd.str _ | assumption) ?_)))⟩ SB)
  refine CW.skip ?_
  refine hK16 _ _ _ ?_
  refine CW.seq fun K19 hK19 => ?_
  refine CW.region ?_
  first | refine RL.q (Y.loadAllR rfl MM MM EL agg32) rfl ?_ | refine RL.q (Y.loadAll rfl MM (by rfl) agg32) rfl ?_ | refine RL.loadPart rfl rfl MM MM (by rfl) (by rfl) agg32 rfl fun us51 hul51 hur51 => ?_
  refine RL.q (Y.field rfl field38_1) rfl ?_
  first | refine RL.q (Y.loadAggV [_, _, _] rfl MM MM (by rfl) agg35) rfl ?_ | refine RL.q (Y.loadAll rfl MM (by rfl) agg35) rfl ?_
  refine RL.call rfl func58 rfl rfl (by exact rdef_ok _ _ _ _ _ _ KK) ?_
  rintro v54 M _ ⟨rfl, rfl, us54, rfl, hr54⟩
  refine RL.addRds hr54 ?_
  refine RL.q (Y.move rfl) rfl ?_
  refine RL.q (Y.extract rfl rfl) rfl ?_
  refine RL.q (Y.extract rfl rfl) rfl ?_
  refine RL.alloc _ zero52 rfl rfl fun b11 => ?_
  first | refine RL.storeRds 31 rfl rfl RP MM EL (by first | exact Kn.lenRds MM EL | exact Kn.lenLit rfl) size52 ?_ | refine RL.storeAgg _ rfl rfl RP (by rfl) (by first | (simp; done) | simp [IdT.vals]) (by first | (simp [Value.oneCell']; done) | simp [Value.oneCell', IdT.vals]) size52 ?_
  refine RL.q (Y.assign rfl) rfl ?_
  refine RL.nil ?_
  refine hK19 _ _ _ ?_
  refine CW.kp [2, 3, 4, 8, 11] rfl ?_
  refine CW.seq fun K20 hK20 => ?_
  refine CW.region ?_
  refine RL.q (Y.build [_, _, _] rfl zero26 places26 (by rfl)) rfl ?_
  refine RL.alloc _ zero26 rfl rfl fun b13 => ?_
  first | refine RL.storeRds 3 rfl rfl RP MM EL (by first | exact Kn.lenRds MM EL | exact Kn.lenLit rfl) size26 ?_ | refine RL.storeAgg _ rfl rfl RP (by rfl) (by first | (simp; done) | simp [IdT.vals]) (by first | (simp [Value.oneCell']; done) | simp [Value.oneCell', IdT.vals]) size26 ?_
  refine RL.nil ?_
  refine hK20 _ _ _ ?_
  refine CW.kp [2, 3, 4, 8, 11, 13] rfl ?_
  refine CW.seq fun K21 hK21 => ?_
  refine CW.region ?_
  refine RL.q (Y.field rfl field52_4) rfl ?_
  first | refine RL.q (Y.loadOwnV rfl MM MM (by rfl) flat46) rfl ?_ | refine RL.q (Y.loadOwn rfl MM (by rfl) flat46) rfl ?_ | refine RL.loadOwnSl rfl rfl MM MM (by rfl) flat46 rfl fun a59 c59 hu59 hc59 hl59 => ?_
  refine RL.q (Y.len rfl Tryd.underlying46) rfl ?_
  refine RL.q (Y.assign rfl) rfl ?_
  refine RL.nil ?_
  refine hK21 _ _ _ ?_
  refine CW.kp [2, 3, 4, 8, 11, 13, 14] rfl ?_
  refine CW.seq fun K22 hK22 => ?_
  refine CW.seq fun K23 hK23 => ?_
  refine CW.region ?_
  refine RL.q (Y.field rfl field52_1) rfl ?_
  first | refine RL.q (Y.loadOwnV rfl MM MM (by rfl) flat3) rfl ?_ | refine RL.q (Y.loadOwn rfl MM (by rfl) flat3) rfl ?_ | refine RL.loadOwnSl rfl rfl MM MM (by rfl) flat3 rfl fun a62 c62 hu62 hc62 hl62 => ?_
  refine RL.q (Y.eql rfl rfl) rfl ?_
  refine RL.nil ?_
  refine hK23 _ _ _ ?_
  refine CW.kp [2, 3, 4, 8, 11, 13, 14, 63] rfl ?_
  refine CW.ite rfl (fun h6 => ?_) (fun h6 => ?_)
  ·refine CW.seq fun K24 hK24 => ?_
   refine CW.region ?_
   refine RL.q (Y.field rfl field26_0) rfl ?_
   refine RL.store _ rfl rfl RP (by rfl) (by simp) (by rfl) size3 ?_
   refine RL.nil ?_
   refine hK24 _ _ _ ?_
   refine CW.kp [2, 3, 4, 8, 11, 13, 14] rfl ?_
   refine CW.seq fun K25 hK25 => ?_
   refine CW.seq fun K26 hK26 => ?_
   refine CW.region ?_
   refine RL.q (Y.move rfl) rfl ?_
   refine RL.q (Y.eql rfl rfl) rfl ?_
   refine RL.nil ?_
   refine hK26 _ _ _ ?_
   refine CW.kp [2, 3, 4, 8, 11, 13, 66] rfl ?_
   refine CW.ite rfl (fun h7 => ?_) (fun h7 => ?_)
   ·refine CW.seq fun K27 hK27 => ?_
    refine CW.region ?_
    refine RL.q (Y.build [_, _, _] rfl zero26 places26 (by rfl)) rfl ?_
    refine RL.q (Y.move rfl) rfl ?_
    first | refine RL.storeRds 3 rfl rfl RP MM EL (by first | exact Kn.lenRds MM EL | exact Kn.lenLit rfl) size26 ?_ | refine RL.storeAgg _ rfl rfl RP (by rfl) (by first | (simp; done) | simp [IdT.vals]) (by first | (simp [Value.oneCell']; done) | simp [Value.oneCell', IdT.vals]) size26 ?_
    refine RL.q (Y.assign rfl) rfl ?_
    refine RL.q (Y.assign rfl) rfl ?_
    refine RL.nil ?_
    refine hK27 _ _ _ ?_
    refine CW.kp [8, 9, 10] rfl ?_
    refine CW.ret ?_
    have e : zeroF p (n + 1) t l = (v0, 1, l - 1) := by rw [zeroF, if_neg (by simp [hvt]), if_neg hl1, if_neg h3, if_neg h4, if_neg h5, if_pos h6, if_pos OM]
    refine ⟨_, _, rfl, rfl, ?_⟩
    exact CellAt.mk rfl MM (by first | rfl | assumption) agg26 (Turn.drop ⟨Sub.refl _, rfl, _, by rw [e], by rw [e]; exact (by rw [Val.enc_eq]; exact (by repeat (first | exact RdL.nil _ | refine RdL.cons (by first | exact Rd.i _ | exact Rd.nilS | exact Rd.str _ | assumption) ?_)))⟩ SB)
   refine CW.skip ?_
   refine hK25 _ _ _ ?_
   refine CW.region ?_
   refine RL.q (v := vint ((onesN : Nat) : Int)) (Y.assign rfl) rfl ?_
   refine RL.nil ?_
   refine hK22 _ _ _ ?_
   refine CW.kp [2, 3, 4, 8, 11, 13, 14] rfl ?_
   obtain ⟨many, hmany⟩ : ∃ k : Nat, k = onesN := ⟨_, rfl⟩
   rw [← hmany]
   replace hmany : many = 1 := hmany
   obtain ⟨kd, hkd⟩ : ∃ kd : Int, kd = 3 := ⟨_, rfl⟩
   rw [← hkd]
   have hml : many ≤ (theDef p t.df).slots.length := by omega
   have hnode : zeroF p (n + 1) t l = zNode kd (zeroL (zeroF p n) (((theDef p t.df).slots.take many).map SlotT.ty) (l - 1)) := by rw [zeroF, if_neg (by simp [hvt]), if_neg hl1, if_neg h3, if_neg h4, if_neg h5, if_pos h6, if_neg OM, hkd, hmany]
   refine CW.seq fun K28 hK28 => ?_
   refine CW.seq fun K29 hK29 => ?_
   have hmt : ((theDef p t.df).slots.take many).length = many := by rw [List.length_take]; omega
   refine CW.front (x := .own b13 26 [vint kd, vint 0, .slice none 0 0]) PK ?_
   refine CW.accNil 26 3 ?_
   refine CW.addRds (RdL.nil _) ?_
   refine CW.region ?_
   refine RL.q (Y.assign rfl) rfl ?_
   refine RL.nil ?_
   refine hK29 _ _ _ ?_
   refine CW.kp [2, 3, 4, 8, 11, 13, 14, 15] rfl ?_
   refine CW.block ?_
   -- LOOP 1: live [2, 3, 4, 8, 11, 13, 14, 15] changed [3, 15]
   refine CW.kp [3, 15, 2, 4, 8, 11, 13, 14] rfl ?_
   refine CW.loopF (fun m Lc M1 Γc => ∃ (k : Nat) (dn : List Val) (lk : Int) (ua : Option Addr) (ca : Nat) (us : List Value), m = many - k ∧ k ≤ many ∧ Lc = [(3, vint (256 - lk)), (15, vint k)] ∧ Γc = [.rds (dn.flatMap Val.enc) us, .acc (.slice ua k ca) 26 3 k us, .own b13 26 [vint kd, vint 0, .slice ua k ca]] ∧ 0 ≤ lk ∧ lk + k ≤ 256 ∧ dn.length = k ∧ zeroL (zeroF p n) (((theDef p t.df).slots.take many).map SlotT.ty) (l - 1) = zJoin dn (zeroL (zeroF p n) ((((theDef p t.df).slots.take many).map SlotT.ty).drop k) lk)) many [(3, _), (15, _)] [_, _, _] rfl rfl ⟨0, [], l - 1, none, 0, [], rfl, Nat.zero_le _, rfl, rfl, by omega, by omega, rfl, zJoin_nil _ _ _⟩ ?_
   rintro m Lc M1 Γc hs ⟨k, dn, lk, ua, ca, us, rfl, hk, rfl, rfl, hlk0, hlk, hdn, hz⟩
   refine CW.seq fun K30 hK30 => ?_
   refine CW.seq fun K31 hK31 => ?_
   refine CW.region ?_
   refine RL.q (Y.move rfl) rfl ?_
   refine RL.q (Y.move rfl) rfl ?_
   refine RL.q (Y.lss rfl rfl) rfl ?_
   refine RL.nil ?_
   refine hK31 _ _ _ ?_
   refine CW.kp [2, 3, 4, 8, 11, 13, 14, 15, 71] rfl ?_
   refine CW.ite rfl (fun h8 => ?_) (fun h8 => ?_)
   ·have hka : k < (theDef p t.df).slots.length := by omega
    refine CW.skip ?_
    refine hK30 _ _ _ ?_
    refine CW.seq fun K32 hK32 => ?_
    refine CW.block ?_
    refine CW.seq fun K33 hK33 => ?_
    refine CW.regionH mix _ _ (fun _ hw => hw) ?_
    first | refine HL.take 0 rfl KR KR KR rfl (Y.loadAllR rfl MM MM EL agg32) rfl ?_ | refine HL.take 0 rfl KR KR KR rfl (Y.loadAll rfl MM (by rfl) agg32) rfl ?_ | refine HL.loadPart 0 rfl KR KR KR rfl rfl MM MM (by rfl) (by rfl) agg32 rfl fun us75 hul75 hur75 => ?_
    refine HL.take 1 rfl KR KR KR rfl (Y.field rfl field52_4) rfl ?_
    first | refine HL.take 2 rfl KR KR KR rfl (Y.loadOwnV rfl MM MM (by rfl) flat46) rfl ?_ | refine HL.take 2 rfl KR KR KR rfl (Y.loadOwn rfl MM (by rfl) flat46) rfl ?_ | refine HL.loadOwnSl 2 rfl KR KR KR rfl rfl MM MM (by rfl) flat46 rfl fun a77 c77 hu77 hc77 hl77 => ?_
    refine HL.take 3 rfl KR KR KR rfl (Y.move rfl) rfl ?_
    refine HL.take 4 rfl KR KR KR rfl (Y.index _ rfl rfl rfl AO slice46 SM) rfl ?_
    refine HL.take 5 rfl KR KR KR rfl (Y.field rfl field68_2) rfl ?_
    refine HL.loadAgg 6 rfl KR KR KR rfl rfl MM (Eq.trans (flat_sub SlotT.enc_len _ _ _ (List.getElem?_eq_getElem AO) _ _ (Nat.le_of_ble_eq_true rfl)) (by rw [SlotT.enc_eq] <;> rfl)) (by rfl) agg38 rfl fun us81 hul81 hur81 => ?_
    refine HL.take 7 rfl KR KR KR rfl (Y.move rfl) rfl ?_
    refine HL.take 8 rfl KR KR KR rfl (Y.add rfl rfl OM) rfl ?_
    refine HL.take 9 rfl KR KR KR rfl (Y.move rfl) rfl ?_
    refine HL.step2 10 15 rfl rfl KR ?_ ?_
    ·refine RL.call rfl func72 rfl rfl (by exact ih n OM _ _ _ p usp ((theDef p t.df).slots[k]).ty _ (d + 1) lk OM OM hlk0 OM (by first | exact Kn.rds MM | exact Kn.ty MM | exact Kn.val MM | exact Kn.ex MM | exact Kn.rd MM) (by first | exact Kn.rds MM | exact Kn.ty MM | exact Kn.val MM | exact Kn.ex MM | exact Kn.rd MM)) ?_
     rintro v85 M85 _ ⟨hs85, rfl, us85, rfl, hr85⟩
     refine RL.addRds hr85 ?_
     have hul85 : us85.length = 3 := hr85.1.trans (Val.enc_len _)
     refine RL.nil ⟨keep_more (hs85) SB, ?_⟩
     refine HL.take 11 rfl KR KR KR rfl (Y.move rfl) rfl ?_
     refine HL.take 12 rfl KR KR KR rfl (Y.extract rfl rfl) rfl ?_
     refine HL.take 13 rfl KR KR KR rfl (Y.extract rfl rfl) rfl ?_
     refine HL.take 14 rfl KR KR KR rfl (Y.extract rfl rfl) rfl ?_
     refine HL.step 15 rfl KR ?_
     refine RL.alloc _ zero26 rfl rfl fun b16 => ?_
     refine RL.nil ⟨keep_more (hs85) SB, ?_⟩
     refine HL.step 16 rfl KR ?_
     first | refine RL.storeRds 3 rfl rfl RP MM EL (by first | exact Kn.lenRds MM EL | exact Kn.lenLit rfl) size26 ?_ | refine RL.storeAgg _ rfl rfl RP (by rfl) (by first | (simp; done) | simp [IdT.vals]) (by first | (simp [Value.oneCell']; done) | simp [Value.oneCell', IdT.vals]) size26 ?_
     refine RL.nil ⟨keep_more (hs85) SB, ?_⟩
     refine HL.take 17 rfl KR KR KR rfl (Y.assign rfl) rfl ?_
     refine HL.take 18 rfl KR KR KR rfl (Y.assign rfl) rfl ?_
     refine HL.done KR ?_
     refine hK33 _ _ _ ?_
     refine CW.kp [2, 4, 8, 11, 13, 14, 15, 16, 17, 18] rfl ?_
     refine CW.seq fun K34 hK34 => ?_
     refine CW.seq fun K35 hK35 => ?_
     refine CW.region ?_
     refine RL.q (Y.move rfl) rfl ?_
     refine RL.q (Y.neq rfl rfl) rfl ?_
     refine RL.nil ?_
     refine hK35 _ _ _ ?_
     refine CW.kp [2, 4, 8, 11, 13, 14, 15, 16, 17, 18, 90] rfl ?_
     refine CW.ite rfl (fun h9 => ?_) (fun h9 => ?_)
     ·refine CW.seq fun K36 hK36 => ?_
      refine CW.region ?_
      refine RL.q (Y.build [_, _, _] rfl zero26 places26 (by rfl)) rfl ?_
      refine RL.q (Y.move rfl) rfl ?_
      refine RL.q (Y.move rfl) rfl ?_
      first | refine RL.storeRds 3 rfl rfl RP MM EL (by first | exact Kn.lenRds MM EL | exact Kn.lenLit rfl) size26 ?_ | refine RL.storeAgg _ rfl rfl RP (by rfl) (by first | (simp; done) | simp [IdT.vals]) (by first | (simp [Value.oneCell']; done) | simp [Value.oneCell', IdT.vals]) size26 ?_
      refine RL.q (Y.assign rfl) rfl ?_
      refine RL.q (Y.assign rfl) rfl ?_
      refine RL.nil ?_
      refine hK36 _ _ _ ?_
      refine CW.kp [8, 9, 10] rfl ?_
      refine CW.ret ?_
      have e : zeroF p (n + 1) t l = (v0, (zeroF p n ((theDef p t.df).slots[k]).ty lk).2.1, (zeroF p n ((theDef p t.df).slots[k]).ty lk).2.2) := by
        rw [hnode, zJoin_err (k := k) (by simp; omega) hz (by simpa using h9)]
        simp [zNode, h9]
      refine ⟨_, _, rfl, rfl, ?_⟩
      exact CellAt.mk rfl MM (by first | rfl | assumption) agg26 (Turn.drop ⟨hs.trans hs85, rfl, _, by rw [e], by rw [e]; exact (by rw [Val.enc_eq]; exact (by repeat (first | exact RdL.nil _ | refine RdL.cons (by first | exact Rd.i _ | exact Rd.nilS | exact Rd.str _ | assumption) ?_)))⟩ SB)
     refine CW.skip ?_
     refine hK34 _ _ _ ?_
     refine CW.seq fun K37 hK37 => ?_
     refine CW.region ?_
     refine RL.q (Y.move rfl) rfl ?_
     refine RL.q (Y.assign rfl) rfl ?_
     refine RL.nil ?_
     refine hK37 _ _ _ ?_
     refine CW.kp [2, 3, 4, 8, 11, 13, 14, 15, 16] rfl ?_
     refine CW.region ?_
     refine RL.q (Y.field rfl field26_2) rfl ?_
     first | refine RL.q (Y.loadOwnV rfl MM MM (by rfl) flat24) rfl ?_ | refine RL.q (Y.loadOwn rfl MM (by rfl) flat24) rfl ?_ | refine RL.loadOwnSl rfl rfl MM MM (by rfl) flat24 rfl fun a96 c96 hu96 hc96 hl96 => ?_
     first | refine RL.q (Y.loadAllR rfl MM MM EL agg26) rfl ?_ | refine RL.q (Y.loadAll rfl MM (by rfl) agg26) rfl ?_ | refine RL.loadPart rfl rfl MM MM (by rfl) (by rfl) agg26 rfl fun us97 hul97 hur97 => ?_
     refine RL.buildSlice us85 elem24 rfl (by decide) (fill1 rfl hul85) rfl fun b98 => ?_
     refine RL.append elem24 rfl rfl PK (SrcOk.own (sz := 3) (m := 1) MM (by simp [hul85]) hr85.one) OM (by unfold lim; omega) rfl fun a99 c99 hc99 => ?_
     refine RL.q (Y.field rfl field26_2) rfl ?_
     refine RL.store _ rfl rfl RP (by rfl) (by simp) (by rfl) size24 ?_
     refine RL.nil ?_
     refine hK32 _ _ _ ?_
     refine CW.kp [2, 3, 4, 8, 11, 13, 14, 15] rfl ?_
     refine CW.region ?_
     refine RL.q (Y.move rfl) rfl ?_
     refine RL.q (Y.add rfl rfl OM) rfl ?_
     refine RL.q (Y.assign rfl) rfl ?_
     refine RL.nil ?_
     refine ⟨many - (k + 1), [(3, _), (15, _)], ?_, (KP [3, 15, 2, 4, 8, 11, 13, 14]), ?_⟩
     · omega
     · refine Turn.kn (Kn.rds (ds := dn.flatMap Val.enc) (us := us) MM) fun hrd => ?_
       refine Turn.front (x := .own b13 26 _) PK ?_
       refine Turn.front (x := .acc (.slice a99 (k + 1) c99) 26 3 (k + 1) (us ++ us85)) PK ?_
       refine Turn.addRds (hrd.append hr85) ?_
       have hlf := zeroF_left p n ((theDef p t.df).slots[k]).ty lk (Decidable.not_not.1 h9)
       exact Turn.drop ⟨[_, _, _], rfl, hs.trans hs85, k + 1, dn ++ [(zeroF p n ((theDef p t.df).slots[k]).ty lk).1], (zeroF p n ((theDef p t.df).slots[k]).ty lk).2.2, a99, c99, us ++ us85, rfl, by omega, rfl, by rw [snoc_flat] <;> rfl, hlf.1, by have := hlf.2; omega, by simp [hdn], by have := zJoin_step (k := k) (by simp; omega) hz (by simpa using h9); simpa using this⟩ SB
    refine RL.alloc _ zero26 rfl rfl fun b16 => ?_
    refine RL.nil ⟨keep_same SB, ?_⟩
    refine HL.step 10 rfl KR ?_
    refine RL.call rfl func72 rfl rfl (by exact ih n OM _ _ _ p usp ((theDef p t.df).slots[k]).ty _ (d + 1) lk OM OM hlk0 OM (by first | exact Kn.rds MM | exact Kn.ty MM | exact Kn.val MM | exact Kn.ex MM | exact Kn.rd MM) (by first | exact Kn.rds MM | exact Kn.ty MM | exact Kn.val MM | exact Kn.ex MM | exact Kn.rd MM)) ?_
    rintro v85 M85 _ ⟨hs85, rfl, us85, rfl, hr85⟩
    refine RL.addRds hr85 ?_
    have hul85 : us85.length = 3 := hr85.1.trans (Val.enc_len _)
    refine RL.nil ⟨keep_more (hs85) SB, ?_⟩
    refine HL.take 11 rfl KR KR KR rfl (Y.move rfl) rfl ?_
    refine HL.take 12 rfl KR KR KR rfl (Y.extract rfl rfl) rfl ?_
    refine HL.take 13 rfl KR KR KR rfl (Y.extract rfl rfl) rfl ?_
    refine HL.take 14 rfl KR KR KR rfl (Y.extract rfl rfl) rfl ?_
    refine HL.step 16 rfl KR ?_
    first | refine RL.storeRds 3 rfl rfl RP MM EL (by first | exact Kn.lenRds MM EL | exact Kn.lenLit rfl) size26 ?_ | refine RL.storeAgg _ rfl rfl RP (by rfl) (by first | (simp; done) | simp [IdT.vals]) (by first | (simp [Value.oneCell']; done) | simp [Value.oneCell', IdT.vals]) size26 ?_
    refine RL.nil ⟨keep_more (hs85) SB, ?_⟩
    refine HL.take 17 rfl KR KR KR rfl (Y.assign rfl) rfl ?_
    refine HL.take 18 rfl KR KR KR rfl (Y.assign rfl) rfl ?_
    refine HL.done KR ?_
    refine hK33 _ _ _ ?_
    refine CW.kp [2, 4, 8, 11, 13, 14, 15, 16, 17, 18] rfl ?_
    refine CW.seq fun K38 hK38 => ?_
    refine CW.seq fun K39 hK39 => ?_
    refine CW.region ?_
    refine RL.q (Y.move rfl) rfl ?_
    refine RL.q (Y.neq rfl rfl) rfl ?_
    refine RL.nil ?_
    refine hK39 _ _ _ ?_
    refine CW.kp [2, 4, 8, 11, 13, 14, 15, 16, 17, 18, 90] rfl ?_
    refine CW.ite rfl (fun h9 => ?_) (fun h9 => ?_)
    ·refine CW.seq fun K40 hK40 => ?_
     refine CW.region ?_
     refine RL.q (Y.build [_, _, _] rfl zero26 places26 (by rfl)) rfl ?_
     refine RL.q (Y.move rfl) rfl ?_
     refine RL.q (Y.move rfl) rfl ?_
     first | refine RL.storeRds 3 rfl rfl RP MM EL (by first | exact Kn.lenRds MM EL | exact Kn.lenLit rfl) size26 ?_ | refine RL.storeAgg _ rfl rfl RP (by rfl) (by first | (simp; done) | simp [IdT.vals]) (by first | (simp [Value.oneCell']; done) | simp [Value.oneCell', IdT.vals]) size26 ?_
     refine RL.q (Y.assign rfl) rfl ?_
     refine RL.q (Y.assign rfl) rfl ?_
     refine RL.nil ?_
     refine hK40 _ _ _ ?_
     refine CW.kp [8, 9, 10] rfl ?_
     refine CW.ret ?_
     have e : zeroF p (n + 1) t l = (v0, (zeroF p n ((theDef p t.df).slots[k]).ty lk).2.1, (zeroF p n ((theDef p t.df).slots[k]).ty lk).2.2) := by
       rw [hnode, zJoin_err (k := k) (by simp; omega) hz (by simpa using h9)]
       simp [zNode, h9]
     refine ⟨_, _, rfl, rfl, ?_⟩
     exact CellAt.mk rfl MM (by first | rfl | assumption) agg26 (Turn.drop ⟨hs.trans hs85, rfl, _, by rw [e], by rw [e]; exact (by rw [Val.enc_eq]; exact (by repeat (first | exact RdL.nil _ | refine RdL.cons (by first | exact Rd.i _ | exact Rd.nilS | exact Rd.str _ | assumption) ?_)))⟩ SB)
    refine CW.skip ?_
    refine hK38 _ _ _ ?_
    refine CW.seq fun K41 hK41 => ?_
    refine CW.region ?_
    refine RL.q (Y.move rfl) rfl ?_
    refine RL.q (Y.assign rfl) rfl ?_
    refine RL.nil ?_
    refine hK41 _ _ _ ?_
    refine CW.kp [2, 3, 4, 8, 11, 13, 14, 15, 16] rfl ?_
    refine CW.region ?_
    refine RL.q (Y.field rfl field26_2) rfl ?_
    first | refine RL.q (Y.loadOwnV rfl MM MM (by rfl) flat24) rfl ?_ | refine RL.q (Y.loadOwn rfl MM (by rfl) flat24) rfl ?_ | refine RL.loadOwnSl rfl rfl MM MM (by rfl) flat24 rfl fun a96 c96 hu96 hc96 hl96 => ?_
    first | refine RL.q (Y.loadAllR rfl MM MM EL agg26) rfl ?_ | refine RL.q (Y.loadAll rfl MM (by rfl) agg26) rfl ?_ | refine RL.loadPart rfl rfl MM MM (by rfl) (by rfl) agg26 rfl fun us97 hul97 hur97 => ?_
    refine RL.buildSlice us85 elem24 rfl (by decide) (fill1 rfl hul85) rfl fun b98 => ?_
    refine RL.append elem24 rfl rfl PK (SrcOk.own (sz := 3) (m := 1) MM (by simp [hul85]) hr85.one) OM (by unfold lim; omega) rfl fun a99 c99 hc99 => ?_
    refine RL.q (Y.field rfl field26_2) rfl ?_
    refine RL.store _ rfl rfl RP (by rfl) (by simp) (by rfl) size24 ?_
    refine RL.nil ?_
    refine hK32 _ _ _ ?_
    refine CW.kp [2, 3, 4, 8, 11, 13, 14, 15] rfl ?_
    refine CW.region ?_
    refine RL.q (Y.move rfl) rfl ?_
    refine RL.q (Y.add rfl rfl OM) rfl ?_
    refine RL.q (Y.assign rfl) rfl ?_
    refine RL.nil ?_
    refine ⟨many - (k + 1), [(3, _), (15, _)], ?_, (KP [3, 15, 2, 4, 8, 11, 13, 14]), ?_⟩
    · omega
    · refine Turn.kn (Kn.rds (ds := dn.flatMap Val.enc) (us := us) MM) fun hrd => ?_
      refine Turn.front (x := .own b13 26 _) PK ?_
      refine Turn.front (x := .acc (.slice a99 (k + 1) c99) 26 3 (k + 1) (us ++ us85)) PK ?_
      refine Turn.addRds (hrd.append hr85) ?_
      have hlf := zeroF_left p n ((theDef p t.df).slots[k]).ty lk (Decidable.not_not.1 h9)
      exact Turn.drop ⟨[_, _, _], rfl, hs.trans hs85, k + 1, dn ++ [(zeroF p n ((theDef p t.df).slots[k]).ty lk).1], (zeroF p n ((theDef p t.df).slots[k]).ty lk).2.2, a99, c99, us ++ us85, rfl, by omega, rfl, by rw [snoc_flat] <;> rfl, hlf.1, by have := hlf.2; omega, by simp [hdn], by have := zJoin_step (k := k) (by simp; omega) hz (by simpa using h9); simpa using this⟩ SB
   refine CW.exit ?_
   refine hK28 _ _ _ ?_
   refine CW.seq fun K42 hK42 => ?_
   refine CW.region ?_
   first | refine RL.q (Y.loadAllR rfl MM MM EL agg26) rfl ?_ | refine RL.q (Y.loadAll rfl MM (by rfl) agg26) rfl ?_ | refine RL.loadPart rfl rfl MM MM (by rfl) (by rfl) agg26 rfl fun us101 hul101 hur101 => ?_
   refine RL.q (Y.move rfl) rfl ?_
   first | refine RL.storeRds 3 rfl rfl RP MM EL (by first | exact Kn.lenRds MM EL | exact Kn.lenLit rfl) size26 ?_ | refine RL.storeAgg _ rfl rfl RP (by rfl) (by first | (simp; done) | simp [IdT.vals]) (by first | (simp [Value.oneCell']; done) | simp [Value.oneCell', IdT.vals]) size26 ?_
   refine RL.q (Y.assign rfl) rfl ?_
   refine RL.q (Y.assign rfl) rfl ?_
   refine RL.nil ?_
   refine hK42 _ _ _ ?_
   refine CW.kp [8, 9, 10] rfl ?_
   refine CW.ret ?_
   have e : zeroF p (n + 1) t l = (.mk kd 0 dn, 0, lk) := by
     rw [hnode, zJoin_end (k := k) (by simp; omega) hz]
     simp [zNode]
   refine ⟨_, _, rfl, rfl, ?_⟩
   refine CellAt.mk rfl MM (by first | rfl | assumption) agg26 (Turn.kn (Kn.rds (ds := dn.flatMap Val.enc) (us := us) MM) fun hrd => ?_)
   exact Turn.sealAcc (Γ := Γ) (u := .slice ua k ca) PK hrd (by unfold lim; omega) SB fun M2 hs2 hr2 => ⟨hs.trans hs2, rfl, _, by rw [e], by rw [e, Val.enc_eq]; exact RdL.cons (Rd.i _) (RdL.cons (Rd.i _) (RdL.cons (by simpa [Val.kids, hdn] using hr2) (RdL.nil _)))⟩
  obtain ⟨ss, hss⟩ : ∃ ss, ss = (theDef p t.df).slots := ⟨_, rfl⟩
  obtain ⟨many, hmany⟩ : ∃ k : Nat, k = (theDef p t.df).slots.length := ⟨_, rfl⟩
  rw [← hmany]
  obtain ⟨kd, hkd⟩ : ∃ kd : Int, kd = 2 := ⟨_, rfl⟩
  rw [← hkd]
  have hml : many ≤ (theDef p t.df).slots.length := by omega
  have hnode : zeroF p (n + 1) t l = zNode kd (zeroL (zeroF p n) (((theDef p t.df).slots.take many).map SlotT.ty) (l - 1)) := by rw [zeroF, if_neg (by simp [hvt]), if_neg hl1, if_neg h3, if_neg h4, if_neg h5, if_neg h6, hkd, hmany, List.take_length]
  refine CW.skip ?_
  refine hK22 _ _ _ ?_
  refine CW.seq fun K43 hK43 => ?_
  refine CW.seq fun K44 hK44 => ?_
  have hmt : ((theDef p t.df).slots.take many).length = many := by rw [List.length_take]; omega
  refine CW.front (x := .own b13 26 [vint kd, vint 0, .slice none 0 0]) PK ?_
  refine CW.accNil 26 3 ?_
  refine CW.addRds (RdL.nil _) ?_
  refine CW.region ?_
  refine RL.q (Y.assign rfl) rfl ?_
  refine RL.nil ?_
  refine hK44 _ _ _ ?_
  refine CW.kp [2, 3, 4, 8, 11, 13, 14, 15] rfl ?_
  refine CW.block ?_
  -- LOOP 1: live [2, 3, 4, 8, 11, 13, 14, 15] changed [3, 15]
  refine CW.kp [3, 15, 2, 4, 8, 11, 13, 14] rfl ?_
  refine CW.loopF (fun m Lc M1 Γc => ∃ (k : Nat) (dn : List Val) (lk : Int) (ua : Option Addr) (ca : Nat) (us : List Value), m = many - k ∧ k ≤ many ∧ Lc = [(3, vint (256 - lk)), (15, vint k)] ∧ Γc = [.rds (dn.flatMap Val.enc) us, .acc (.slice ua k ca) 26 3 k us, .own b13 26 [vint kd, vint 0, .slice ua k ca]] ∧ 0 ≤ lk ∧ lk + k ≤ 256 ∧ dn.length = k ∧ zeroL (zeroF p n) (((theDef p t.df).slots.take many).map SlotT.ty) (l - 1) = zJoin dn (zeroL (zeroF p n) ((((theDef p t.df).slots.take many).map SlotT.ty).drop k) lk)) many [(3, _), (15, _)] [_, _, _] rfl rfl ⟨0, [], l - 1, none, 0, [], rfl, Nat.zero_le _, rfl, rfl, by omega, by omega, rfl, zJoin_nil _ _ _⟩ ?_
  rintro m Lc M1 Γc hs ⟨k, dn, lk, ua, ca, us, rfl, hk, rfl, rfl, hlk0, hlk, hdn, hz⟩
  refine CW.seq fun K45 hK45 => ?_
  refine CW.seq fun K46 hK46 => ?_
  refine CW.region ?_
  refine RL.q (Y.move rfl) rfl ?_
  refine RL.q (Y.move rfl) rfl ?_
  refine RL.q (Y.lss rfl rfl) rfl ?_
  refine RL.nil ?_
  refine hK46 _ _ _ ?_
  refine CW.kp [2, 3, 4, 8, 11, 13, 14, 15, 71] rfl ?_
  refine CW.ite rfl (fun h8 => ?_) (fun h8 => ?_)
  ·have hka : k < (theDef p t.df).slots.length := by omega
   refine CW.skip ?_
   refine hK45 _ _ _ ?_
   refine CW.seq fun K47 hK47 => ?_
   refine CW.block ?_
   refine CW.seq fun K48 hK48 => ?_
   refine CW.regionH mix _ _ (fun _ hw => hw) ?_
   first | refine HL.take 0 rfl KR KR KR rfl (Y.loadAllR rfl MM MM EL agg32) rfl ?_ | refine HL.take 0 rfl KR KR KR rfl (Y.loadAll rfl MM (by rfl) agg32) rfl ?_ | refine HL.loadPart 0 rfl KR KR KR rfl rfl MM MM (by rfl) (by rfl) agg32 rfl fun us75 hul75 hur75 => ?_
   refine HL.take 1 rfl KR KR KR rfl (Y.field rfl field52_4) rfl ?_
   first | refine HL.take 2 rfl KR KR KR rfl (Y.loadOwnV rfl MM MM (by rfl) flat46) rfl ?_ | refine HL.take 2 rfl KR KR KR rfl (Y.loadOwn rfl MM (by rfl) flat46) rfl ?_ | refine HL.loadOwnSl 2 rfl KR KR KR rfl rfl MM MM (by rfl) flat46 rfl fun a77 c77 hu77 hc77 hl77 => ?_
   refine HL.take 3 rfl KR KR KR rfl (Y.move rfl) rfl ?_
   refine HL.take 4 rfl KR KR KR rfl (Y.index _ rfl rfl rfl AO slice46 SM) rfl ?_
   refine HL.take 5 rfl KR KR KR rfl (Y.field rfl field68_2) rfl ?_
   refine HL.loadAgg 6 rfl KR KR KR rfl rfl MM (Eq.trans (flat_sub SlotT.enc_len _ _ _ (List.getElem?_eq_getElem AO) _ _ (Nat.le_of_ble_eq_true rfl)) (by rw [SlotT.enc_eq] <;> rfl)) (by rfl) agg38 rfl fun us81 hul81 hur81 => ?_
   refine HL.take 7 rfl KR KR KR rfl (Y.move rfl) rfl ?_
   refine HL.take 8 rfl KR KR KR rfl (Y.add rfl rfl OM) rfl ?_
   refine HL.take 9 rfl KR KR KR rfl (Y.move rfl) rfl ?_
   refine HL.step2 10 15 rfl rfl KR ?_ ?_
   ·refine RL.call rfl func72 rfl rfl (by exact ih n OM _ _ _ p usp ((theDef p t.df).slots[k]).ty _ (d + 1) lk OM OM hlk0 OM (by first | exact Kn.rds MM | exact Kn.ty MM | exact Kn.val MM | exact Kn.ex MM | exact Kn.rd MM) (by first | exact Kn.rds MM | exact Kn.ty MM | exact Kn.val MM | exact Kn.ex MM | exact Kn.rd MM)) ?_
    rintro v85 M85 _ ⟨hs85, rfl, us85, rfl, hr85⟩
    refine RL.addRds hr85 ?_
    have hul85 : us85.length = 3 := hr85.1.trans (Val.enc_len _)
    refine RL.nil ⟨keep_more (hs85) SB, ?_⟩
    refine HL.take 11 rfl KR KR KR rfl (Y.move rfl) rfl ?_
    refine HL.take 12 rfl KR KR KR rfl (Y.extract rfl rfl) rfl ?_
    refine HL.take 13 rfl KR KR KR rfl (Y.extract rfl rfl) rfl ?_
    refine HL.take 14 rfl KR KR KR rfl (Y.extract rfl rfl) rfl ?_
    refine HL.step 15 rfl KR ?_
    refine RL.alloc _ zero26 rfl rfl fun b16 => ?_
    refine RL.nil ⟨keep_more (hs85) SB, ?_⟩
    refine HL.step 16 rfl KR ?_
    first | refine RL.storeRds 3 rfl rfl RP MM EL (by first | exact Kn.lenRds MM EL | exact Kn.lenLit rfl) size26 ?_ | refine RL.storeAgg _ rfl rfl RP (by rfl) (by first | (simp; done) | simp [IdT.vals]) (by first | (simp [Value.oneCell']; done) | simp [Value.oneCell', IdT.vals]) size26 ?_
    refine RL.nil ⟨keep_more (hs85) SB, ?_⟩
    refine HL.take 17 rfl KR KR KR rfl (Y.assign rfl) rfl ?_
    refine HL.take 18 rfl KR KR KR rfl (Y.assign rfl) rfl ?_
    refine HL.done KR ?_
    refine hK48 _ _ _ ?_
    refine CW.kp [2, 4, 8, 11, 13, 14, 15, 16, 17, 18] rfl ?_
    refine CW.seq fun K49 hK49 => ?_
    refine CW.seq fun K50 hK50 => ?_
    refine CW.region ?_
    refine RL.q (Y.move rfl) rfl ?_
    refine RL.q (Y.neq rfl rfl) rfl ?_
    refine RL.nil ?_
    refine hK50 _ _ _ ?_
    refine CW.kp [2, 4, 8, 11, 13, 14, 15, 16, 17, 18, 90] rfl ?_
    refine CW.ite rfl (fun h9 => ?_) (fun h9 => ?_)
    ·refine CW.seq fun K51 hK51 => ?_
     refine CW.region ?_
     refine RL.q (Y.build [_, _, _] rfl zero26 places26 (by rfl)) rfl ?_
     refine RL.q (Y.move rfl) rfl ?_
     refine RL.q (Y.move rfl) rfl ?_
     first | refine RL.storeRds 3 rfl rfl RP MM EL (by first | exact Kn.lenRds MM EL | exact Kn.lenLit rfl) size26 ?_ | refine RL.storeAgg _ rfl rfl RP (by rfl) (by first | (simp; done) | simp [IdT.vals]) (by first | (simp [Value.oneCell']; done) | simp [Value.oneCell', IdT.vals]) size26 ?_
     refine RL.q (Y.assign rfl) rfl ?_
     refine RL.q (Y.assign rfl) rfl ?_
     refine RL.nil ?_
     refine hK51 _ _ _ ?_
     refine CW.kp [8, 9, 10] rfl ?_
     refine CW.ret ?_
     have e : zeroF p (n + 1) t l = (v0, (zeroF p n ((theDef p t.df).slots[k]).ty lk).2.1, (zeroF p n ((theDef p t.df).slots[k]).ty lk).2.2) := by
       rw [hnode, zJoin_err (k := k) (by simp; omega) hz (by simpa using h9)]
       simp [zNode, h9]
     refine ⟨_, _, rfl, rfl, ?_⟩
     exact CellAt.mk rfl MM (by first | rfl | assumption) agg26 (Turn.drop ⟨hs.trans hs85, rfl, _, by rw [e], by rw [e]; exact (by rw [Val.enc_eq]; exact (by repeat (first | exact RdL.nil _ | refine RdL.cons (by first | exact Rd.i _ | exact Rd.nilS | exact Rd.str _ | assumption) ?_)))⟩ SB)
    refine CW.skip ?_
    refine hK49 _ _ _ ?_
    refine CW.seq fun K52 hK52 => ?_
    refine CW.region ?_
    refine RL.q (Y.move rfl) rfl ?_
    refine RL.q (Y.assign rfl) rfl ?_
    refine RL.nil ?_
    refine hK52 _ _ _ ?_
    refine CW.kp [2, 3, 4, 8, 11, 13, 14, 15, 16] rfl ?_
    refine CW.region ?_
    refine RL.q (Y.field rfl field26_2) rfl ?_
    first | refine RL.q (Y.loadOwnV rfl MM MM (by rfl) flat24) rfl ?_ | refine RL.q (Y.loadOwn rfl MM (by rfl) flat24) rfl ?_ | refine RL.loadOwnSl rfl rfl MM MM (by rfl) flat24 rfl fun a96 c96 hu96 hc96 hl96 => ?_
    first | refine RL.q (Y.loadAllR rfl MM MM EL agg26) rfl ?_ | refine RL.q (Y.loadAll rfl MM (by rfl) agg26) rfl ?_ | refine RL.loadPart rfl rfl MM MM (by rfl) (by rfl) agg26 rfl fun us97 hul97 hur97 => ?_
    refine RL.buildSlice us85 elem24 rfl (by decide) (fill1 rfl hul85) rfl fun b98 => ?_
    refine RL.append elem24 rfl rfl PK (SrcOk.own (sz := 3) (m := 1) MM (by simp [hul85]) hr85.one) OM (by unfold lim; omega) rfl fun a99 c99 hc99 => ?_
    refine RL.q (Y.field rfl field26_2) rfl ?_
    refine RL.store _ rfl rfl RP (by rfl) (by simp) (by rfl) size24 ?_
    refine RL.nil ?_
    refine hK47 _ _ _ ?_
    refine CW.kp [2, 3, 4, 8, 11, 13, 14, 15] rfl ?_
    refine CW.region ?_
    refine RL.q (Y.move rfl) rfl ?_
    refine RL.q (Y.add rfl rfl OM) rfl ?_
    refine RL.q (Y.assign rfl) rfl ?_
    refine RL.nil ?_
    refine ⟨many - (k + 1), [(3, _), (15, _)], ?_, (KP [3, 15, 2, 4, 8, 11, 13, 14]), ?_⟩
    · omega
    · refine Turn.kn (Kn.rds (ds := dn.flatMap Val.enc) (us := us) MM) fun hrd => ?_
      refine Turn.front (x := .own b13 26 _) PK ?_
      refine Turn.front (x := .acc (.slice a99 (k + 1) c99) 26 3 (k + 1) (us ++ us85)) PK ?_
      refine Turn.addRds (hrd.append hr85) ?_
      have hlf := zeroF_left p n ((theDef p t.df).slots[k]).ty lk (Decidable.not_not.1 h9)
      exact Turn.drop ⟨[_, _, _], rfl, hs.trans hs85, k + 1, dn ++ [(zeroF p n ((theDef p t.df).slots[k]).ty lk).1], (zeroF p n ((theDef p t.df).slots[k]).ty lk).2.2, a99, c99, us ++ us85, rfl, by omega, rfl, by rw [snoc_flat] <;> rfl, hlf.1, by have := hlf.2; omega, by simp [hdn], by have := zJoin_step (k := k) (by simp; omega) hz (by simpa using h9); simpa using this⟩ SB
   refine RL.alloc _ zero26 rfl rfl fun b16 => ?_
   refine RL.nil ⟨keep_same SB, ?_⟩
   refine HL.step 10 rfl KR ?_
   refine RL.call rfl func72 rfl rfl (by exact ih n OM _ _ _ p usp ((theDef p t.df).slots[k]).ty _ (d + 1) lk OM OM hlk0 OM (by first | exact Kn.rds MM | exact Kn.ty MM | exact Kn.val MM | exact Kn.ex MM | exact Kn.rd MM) (by first | exact Kn.rds MM | exact Kn.ty MM | exact Kn.val MM | exact Kn.ex MM | exact Kn.rd MM)) ?_
   rintro v85 M85 _ ⟨hs85, rfl, us85, rfl, hr85⟩
   refine RL.addRds hr85 ?_
   have hul85 : us85.length = 3 := hr85.1.trans (Val.enc_len _)
   refine RL.nil ⟨keep_more (hs85) SB, ?_⟩
   refine HL.take 11 rfl KR KR KR rfl (Y.move rfl) rfl ?_
   refine HL.take 12 rfl KR KR KR rfl (Y.extract rfl rfl) rfl ?_
   refine HL.take 13 rfl KR KR KR rfl (Y.extract rfl rfl) rfl ?_
   refine HL.take 14 rfl KR KR KR rfl (Y.extract rfl rfl) rfl ?_
   refine HL.step 16 rfl KR ?_
   first | refine RL.storeRds 3 rfl rfl RP MM EL (by first | exact Kn.lenRds MM EL | exact Kn.lenLit rfl) size26 ?_ | refine RL.storeAgg _ rfl rfl RP (by rfl) (by first | (simp; done) | simp [IdT.vals]) (by first | (simp [Value.oneCell']; done) | simp [Value.oneCell', IdT.vals]) size26 ?_
   refine RL.nil ⟨keep_more (hs85) SB, ?_⟩
   refine HL.take 17 rfl KR KR KR rfl (Y.assign rfl) rfl ?_
   refine HL.take 18 rfl KR KR KR rfl (Y.assign rfl) rfl ?_
   refine HL.done KR ?_
   refine hK48 _ _ _ ?_
   refine CW.kp [2, 4, 8, 11, 13, 14, 15, 16, 17, 18] rfl ?_
   refine CW.seq fun K53 hK53 => ?_
   refine CW.seq fun K54 hK54 => ?_
   refine CW.region ?_
   refine RL.q (Y.move rfl) rfl ?_
   refine RL.q (Y.neq rfl rfl) rfl ?_
   refine RL.nil ?_
   refine hK54 _ _ _ ?_
   refine CW.kp [2, 4, 8, 11, 13, 14, 15, 16, 17, 18, 90] rfl ?_
   refine CW.ite rfl (fun h9 => ?_) (fun h9 => ?_)
   ·refine CW.seq fun K55 hK55 => ?_
    refine CW.region ?_
    refine RL.q (Y.build [_, _, _] rfl zero26 places26 (by rfl)) rfl ?_
    refine RL.q (Y.move rfl) rfl ?_
    refine RL.q (Y.move rfl) rfl ?_
    first | refine RL.storeRds 3 rfl rfl RP MM EL (by first | exact Kn.lenRds MM EL | exact Kn.lenLit rfl) size26 ?_ | refine RL.storeAgg _ rfl rfl RP (by rfl) (by first | (simp; done) | simp [IdT.vals]) (by first | (simp [Value.oneCell']; done) | simp [Value.oneCell', IdT.vals]) size26 ?_
    refine RL.q (Y.assign rfl) rfl ?_
    refine RL.q (Y.assign rfl) rfl ?_
    refine RL.nil ?_
    refine hK55 _ _ _ ?_
    refine CW.kp [8, 9, 10] rfl ?_
    refine CW.ret ?_
    have e : zeroF p (n + 1) t l = (v0, (zeroF p n ((theDef p t.df).slots[k]).ty lk).2.1, (zeroF p n ((theDef p t.df).slots[k]).ty lk).2.2) := by
      rw [hnode, zJoin_err (k := k) (by simp; omega) hz (by simpa using h9)]
      simp [zNode, h9]
    refine ⟨_, _, rfl, rfl, ?_⟩
    exact CellAt.mk rfl MM (by first | rfl | assumption) agg26 (Turn.drop ⟨hs.trans hs85, rfl, _, by rw [e], by rw [e]; exact (by rw [Val.enc_eq]; exact (by repeat (first | exact RdL.nil _ | refine RdL.cons (by first | exact Rd.i _ | exact Rd.nilS | exact Rd.str _ | assumption) ?_)))⟩ SB)
   refine CW.skip ?_
   refine hK53 _ _ _ ?_
   refine CW.seq fun K56 hK56 => ?_
   refine CW.region ?_
   refine RL.q (Y.move rfl) rfl ?_
   refine RL.q (Y.assign rfl) rfl ?_
   refine RL.nil ?_
   refine hK56 _ _ _ ?_
   refine CW.kp [2, 3, 4, 8, 11, 13, 14, 15, 16] rfl ?_
   refine CW.region ?_
   refine RL.q (Y.field rfl field26_2) rfl ?_
   first | refine RL.q (Y.loadOwnV rfl MM MM (by rfl) flat24) rfl ?_ | refine RL.q (Y.loadOwn rfl MM (by rfl) flat24) rfl ?_ | refine RL.loadOwnSl rfl rfl MM MM (by rfl) flat24 rfl fun a96 c96 hu96 hc96 hl96 => ?_
   first | refine RL.q (Y.loadAllR rfl MM MM EL agg26) rfl ?_ | refine RL.q (Y.loadAll rfl MM (by rfl) agg26) rfl ?_ | refine RL.loadPart rfl rfl MM MM (by rfl) (by rfl) agg26 rfl fun us97 hul97 hur97 => ?_
   refine RL.buildSlice us85 elem24 rfl (by decide) (fill1 rfl hul85) rfl fun b98 => ?_
   refine RL.append elem24 rfl rfl PK (SrcOk.own (sz := 3) (m := 1) MM (by simp [hul85]) hr85.one) OM (by unfold lim; omega) rfl fun a99 c99 hc99 => ?_
   refine RL.q (Y.field rfl field26_2) rfl ?_
   refine RL.store _ rfl rfl RP (by rfl) (by simp) (by rfl) size24 ?_
   refine RL.nil ?_
   refine hK47 _ _ _ ?_
   refine CW.kp [2, 3, 4, 8, 11, 13, 14, 15] rfl ?_
   refine CW.region ?_
   refine RL.q (Y.move rfl) rfl ?_
   refine RL.q (Y.add rfl rfl OM) rfl ?_
   refine RL.q (Y.assign rfl) rfl ?_
   refine RL.nil ?_
   refine ⟨many - (k + 1), [(3, _), (15, _)], ?_, (KP [3, 15, 2, 4, 8, 11, 13, 14]), ?_⟩
   · omega
   · refine Turn.kn (Kn.rds (ds := dn.flatMap Val.enc) (us := us) MM) fun hrd => ?_
     refine Turn.front (x := .own b13 26 _) PK ?_
     refine Turn.front (x := .acc (.slice a99 (k + 1) c99) 26 3 (k + 1) (us ++ us85)) PK ?_
     refine Turn.addRds (hrd.append hr85) ?_
     have hlf := zeroF_left p n ((theDef p t.df).slots[k]).ty lk (Decidable.not_not.1 h9)
     exact Turn.drop ⟨[_, _, _], rfl, hs.trans hs85, k + 1, dn ++ [(zeroF p n ((theDef p t.df).slots[k]).ty lk).1], (zeroF p n ((theDef p t.df).slots[k]).ty lk).2.2, a99, c99, us ++ us85, rfl, by omega, rfl, by rw [snoc_flat] <;> rfl, hlf.1, by have := hlf.2; omega, by simp [hdn], by have := zJoin_step (k := k) (by simp; omega) hz (by simpa using h9); simpa using this⟩ SB
  refine CW.exit ?_
  refine hK43 _ _ _ ?_
  refine CW.seq fun K57 hK57 => ?_
  refine CW.region ?_
  first | refine RL.q (Y.loadAllR rfl MM MM EL agg26) rfl ?_ | refine RL.q (Y.loadAll rfl MM (by rfl) agg26) rfl ?_ | refine RL.loadPart rfl rfl MM MM (by rfl) (by rfl) agg26 rfl fun us101 hul101 hur101 => ?_
  refine RL.q (Y.move rfl) rfl ?_
  first | refine RL.storeRds 3 rfl rfl RP MM EL (by first | exact Kn.lenRds MM EL | exact Kn.lenLit rfl) size26 ?_ | refine RL.storeAgg _ rfl rfl RP (by rfl) (by first | (simp; done) | simp [IdT.vals]) (by first | (simp [Value.oneCell']; done) | simp [Value.oneCell', IdT.vals]) size26 ?_
  refine RL.q (Y.assign rfl) rfl ?_
  refine RL.q (Y.assign rfl) rfl ?_
  refine RL.nil ?_
  refine hK57 _ _ _ ?_
  refine CW.kp [8, 9, 10] rfl ?_
  refine CW.ret ?_
  have e : zeroF p (n + 1) t l = (.mk kd 0 dn, 0, lk) := by
    rw [hnode, zJoin_end (k := k) (by simp; omega) hz]
    simp [zNode]
  refine ⟨_, _, rfl, rfl, ?_⟩
  refine CellAt.mk rfl MM (by first | rfl | assumption) agg26 (Turn.kn (Kn.rds (ds := dn.flatMap Val.enc) (us := us) MM) fun hrd => ?_)
  exact Turn.sealAcc (Γ := Γ) (u := .slice ua k ca) PK hrd (by unfold lim; omega) SB fun M2 hs2 hr2 => ⟨hs.trans hs2, rfl, _, by rw [e], by rw [e, Val.enc_eq]; exact RdL.cons (Rd.i _) (RdL.cons (Rd.i _) (RdL.cons (by simpa [Val.kids, hdn] using hr2) (RdL.nil _)))⟩

theorem rzero1_ok (w0 : World) (M : Mem) (Γ : List As) (p : ProgT) (usp : List Value) (t : Ty) (ust : List Value) (hp : Kn w0 M Γ (RdL M p.enc usp)) (ht : Kn w0 M Γ (RdL M t.enc ust)) :
    CallOk Tryd.prog w0 M Γ 72 #[.agg usp.toArray, .agg ust.toArray, vint 1, vint 0] (Gives M Γ fun M' v => ∃ us, v = .tuple #[.agg us.toArray, vint (256 - (zeroV p t).2.2), vint (zeroV p t).2.1] ∧ RdL M' (zeroV p t).1.enc us) := rzeroF_ok 24 w0 M Γ p usp t ust 1 256 rfl OM OM OM hp ht

theorem rzero_ok (w0 : World) (M : Mem) (Γ : List As) (p : ProgT) (usp : List Value) (t : Ty) (ust : List Value)  (hp : Kn w0 M Γ (RdL M p.enc usp)) (ht : Kn w0 M Γ (RdL M t.enc ust))  :
    CallOk Tryd.prog w0 M Γ 46 #[.agg usp.toArray, .agg ust.toArray] (Gives M Γ fun M' v => ∃ us, v = .tuple #[.agg us.toArray, vint (zeroV p t).2.1] ∧ RdL M' (if (zeroV p t).2.1 ≠ 0 then v0 else (zeroV p t).1).enc us) := by
  refine CallOk.kn hp fun hp => ?_
  rw [ProgT.enc_eq] at hp
  refine CallOk.kn ht fun ht => ?_
  rw [Ty.enc_eq] at ht
  refine enterCell2 (f := 46) Tryd.func46 rfl Tryd.ntmps46 rfl rfl fun w1 hw1 => ?_
  refine CW.addRds hp ?_
  refine CW.addRds ht ?_
  refine CW.seq fun K1 hK1 => ?_
  refine CW.region ?_
  refine RL.box _ rfl rfl rfl fun b2 => ?_
  refine RL.box _ rfl rfl rfl fun b3 => ?_
  refine RL.alloc _ zero26 rfl rfl fun b4 => ?_
  refine RL.q (Y.assign rfl) rfl ?_
  refine RL.nil ?_
  refine hK1 _ _ _ ?_
  refine CW.kp [2, 3, 4] rfl ?_
  refine CW.seq fun K2 hK2 => ?_
  refine CW.region ?_
  first | refine RL.q (Y.loadAllR rfl MM MM EL agg32) rfl ?_ | refine RL.q (Y.loadAll rfl MM (by rfl) agg32) rfl ?_ | refine RL.loadPart rfl rfl MM MM (by rfl) (by rfl) agg32 rfl fun us10 hul10 hur10 => ?_
  first | refine RL.q (Y.loadAllR rfl MM MM EL agg38) rfl ?_ | refine RL.q (Y.loadAll rfl MM (by rfl) agg38) rfl ?_ | refine RL.loadPart rfl rfl MM MM (by rfl) (by rfl) agg38 rfl fun us11 hul11 hur11 => ?_
  refine RL.call rfl func72 rfl rfl (by exact rzero1_ok _ _ _ _ _ _ _ KK KK) ?_
  rintro v12 M12 _ ⟨hs12, rfl, us12, rfl, hr12⟩
  refine RL.addRds hr12 ?_
  refine RL.q (Y.move rfl) rfl ?_
  refine RL.q (Y.extract rfl rfl) rfl ?_
  refine RL.q (Y.extract rfl rfl) rfl ?_
  refine RL.q (Y.extract rfl rfl) rfl ?_
  refine RL.alloc _ zero26 rfl rfl fun b6 => ?_
  first | refine RL.storeRds 3 rfl rfl RP MM EL (by first | exact Kn.lenRds MM EL | exact Kn.lenLit rfl) size26 ?_ | refine RL.storeAgg _ rfl rfl RP (by rfl) (by first | (simp; done) | simp [IdT.vals]) (by first | (simp [Value.oneCell']; done) | simp [Value.oneCell', IdT.vals]) size26 ?_
  refine RL.q (Y.assign rfl) rfl ?_
  refine RL.q (Y.assign rfl) rfl ?_
  refine RL.nil ?_
  refine hK2 _ _ _ ?_
  refine CW.kp [4, 6, 8] rfl ?_
  refine CW.seq fun K3 hK3 => ?_
  refine CW.seq fun K4 hK4 => ?_
  refine CW.region ?_
  refine RL.q (Y.move rfl) rfl ?_
  refine RL.q (Y.neq rfl rfl) rfl ?_
  refine RL.nil ?_
  refine hK4 _ _ _ ?_
  refine CW.kp [4, 6, 8, 17] rfl ?_
  refine CW.ite rfl (fun h1 => ?_) (fun h1 => ?_)
  ·refine CW.seq fun K5 hK5 => ?_
   refine CW.region ?_
   refine RL.q (Y.build [_, _, _] rfl zero26 places26 (by rfl)) rfl ?_
   refine RL.q (Y.move rfl) rfl ?_
   first | refine RL.storeRds 3 rfl rfl RP MM EL (by first | exact Kn.lenRds MM EL | exact Kn.lenLit rfl) size26 ?_ | refine RL.storeAgg _ rfl rfl RP (by rfl) (by first | (simp; done) | simp [IdT.vals]) (by first | (simp [Value.oneCell']; done) | simp [Value.oneCell', IdT.vals]) size26 ?_
   refine RL.q (Y.assign rfl) rfl ?_
   refine RL.nil ?_
   refine hK5 _ _ _ ?_
   refine CW.kp [4, 5] rfl ?_
   refine CW.ret ?_
   refine ⟨_, rfl, ?_⟩
   exact CellAt.mk rfl MM (by first | rfl | assumption) agg26 (Turn.drop ⟨hs12, rfl, _, rfl, by rw [if_pos h1]; exact (by rw [Val.enc_eq]; exact (by repeat (first | exact RdL.nil _ | refine RdL.cons (by first | exact Rd.i _ | exact Rd.nilS | exact Rd.str _ | assumption) ?_)))⟩ SB)
  refine CW.skip ?_
  refine hK3 _ _ _ ?_
  refine CW.seq fun K6 hK6 => ?_
  refine CW.region ?_
  first | refine RL.q (Y.loadAllR rfl MM MM EL agg26) rfl ?_ | refine RL.q (Y.loadAll rfl MM (by rfl) agg26) rfl ?_ | refine RL.loadPart rfl rfl MM MM (by rfl) (by rfl) agg26 rfl fun us20 hul20 hur20 => ?_
  first | refine RL.storeRds 3 rfl rfl RP MM EL (by first | exact Kn.lenRds MM EL | exact Kn.lenLit rfl) size26 ?_ | refine RL.storeAgg _ rfl rfl RP (by rfl) (by first | (simp; done) | simp [IdT.vals]) (by first | (simp [Value.oneCell']; done) | simp [Value.oneCell', IdT.vals]) size26 ?_
  refine RL.q (Y.assign rfl) rfl ?_
  refine RL.nil ?_
  refine hK6 _ _ _ ?_
  refine CW.kp [4, 5] rfl ?_
  refine CW.ret ?_
  have hul12 : us12.length = 3 := hr12.1.trans (Val.enc_len _)
  refine ⟨_, rfl, ?_⟩
  exact CellAt.mk rfl MM (by first | rfl | assumption) agg26 (Turn.drop ⟨hs12, rfl, _, by rw [show (zeroV p t).2.1 = 0 from Decidable.not_not.1 h1], by rw [if_neg h1]; exact hr12⟩ SB)
end Go.Proofs.YtanbipbiblikbaaDoor

/- THE WALKS, 17: small functions of the reference. Printed by m04q.py. -/
namespace Go.Proofs.YtanbipbiblikbaaDoor
open Xe

theorem id_ok (w0 : World) (M : Mem) (Γ : List As) (n : Int)   (h0 : 0 ≤ n) (h1 : n ≤ 1099511627776) :
    CallOk Tryd.prog w0 M Γ 39 #[vint n] (Is M Γ (.agg (idK n).vals.toArray)) := by
  have ht : n.tdiv 32 = n / 32 := Int.tdiv_eq_ediv_of_nonneg h0
  refine enterCell (f := 39) Tryd.func39 rfl Tryd.ntmps39 rfl rfl fun w1 hw1 => ?_
  refine CW.seq fun K1 hK1 => ?_
  refine CW.region ?_
  refine RL.alloc _ zero35 rfl rfl fun b2 => ?_
  refine RL.nil ?_
  refine hK1 _ _ _ ?_
  refine CW.kp [0, 2] rfl ?_
  refine CW.seq fun K2 hK2 => ?_
  refine CW.region ?_
  refine RL.q (Y.move rfl) rfl ?_
  refine RL.q (Y.quo rfl rfl OM OM) rfl ?_
  refine RL.q (Y.add rfl rfl OM) rfl ?_
  refine RL.q (Y.move rfl) rfl ?_
  refine RL.q (Y.rem rfl rfl OM) rfl ?_
  refine RL.q (Y.build [_, _, _] rfl zero35 places35 (by rfl)) rfl ?_
  first | refine RL.storeRds 3 rfl rfl RP MM EL (by first | exact Kn.lenRds MM EL | exact Kn.lenLit rfl) size35 ?_ | refine RL.storeAgg _ rfl rfl RP (by rfl) (by first | (simp; done) | simp [IdT.vals]) (by first | (simp [Value.oneCell']; done) | simp [Value.oneCell', IdT.vals]) size35 ?_
  refine RL.nil ?_
  refine hK2 _ _ _ ?_
  refine CW.kp [2] rfl ?_
  refine CW.ret ?_
  exact CellAt.mk rfl MM (by first | rfl | assumption) agg35 (Turn.drop ⟨rfl, rfl, rfl⟩ SB)

theorem of_ok (w0 : World) (M : Mem) (Γ : List As) (i : IdT)    :
    CallOk Tryd.prog w0 M Γ 42 #[.agg i.vals.toArray] (Is M Γ (.agg [vint 3, vint i.shop, vint i.seq, vint i.index, .slice none 0 0].toArray)) := by
  refine enterCell (f := 42) Tryd.func42 rfl Tryd.ntmps42 rfl rfl fun w1 hw1 => ?_
  refine CW.seq fun K1 hK1 => ?_
  refine CW.region ?_
  refine RL.box _ rfl rfl rfl fun b1 => ?_
  refine RL.alloc _ zero38 rfl rfl fun b2 => ?_
  refine RL.nil ?_
  refine hK1 _ _ _ ?_
  refine CW.kp [1, 2] rfl ?_
  refine CW.seq fun K2 hK2 => ?_
  refine CW.region ?_
  first | refine RL.q (Y.loadAggV [_, _, _] rfl MM MM (by rfl) agg35) rfl ?_ | refine RL.q (Y.loadAll rfl MM (by rfl) agg35) rfl ?_
  refine RL.q (Y.build [_, _, _, _, _] rfl zero38 places38 (by rfl)) rfl ?_
  first | refine RL.storeRds 5 rfl rfl RP MM EL (by first | exact Kn.lenRds MM EL | exact Kn.lenLit rfl) size38 ?_ | refine RL.storeAgg _ rfl rfl RP (by rfl) (by first | (simp; done) | simp [IdT.vals]) (by first | (simp [Value.oneCell']; done) | simp [Value.oneCell', IdT.vals]) size38 ?_
  refine RL.nil ?_
  refine hK2 _ _ _ ?_
  refine CW.kp [2] rfl ?_
  refine CW.ret ?_
  exact CellAt.mk rfl MM (by first | rfl | assumption) agg38 (Turn.drop ⟨rfl, rfl, rfl⟩ SB)

theorem list_ok (w0 : World) (M : Mem) (Γ : List As) (t : Ty) (ust : List Value)  (ht : Kn w0 M Γ (RdL M t.enc ust))  :
    CallOk Tryd.prog w0 M Γ 41 #[.agg ust.toArray] (Gives M Γ fun M' v => ∃ us, v = .agg us.toArray ∧ RdL M' (listT t).enc us) := by
  refine CallOk.kn ht fun ht => ?_
  rw [Ty.enc_eq] at ht
  refine enterCell (f := 41) Tryd.func41 rfl Tryd.ntmps41 rfl rfl fun w1 hw1 => ?_
  refine CW.addRds ht ?_
  refine CW.seq fun K1 hK1 => ?_
  refine CW.region ?_
  refine RL.box _ rfl rfl rfl fun b1 => ?_
  refine RL.alloc _ zero38 rfl rfl fun b2 => ?_
  refine RL.nil ?_
  refine hK1 _ _ _ ?_
  refine CW.kp [1, 2] rfl ?_
  refine CW.seq fun K2 hK2 => ?_
  refine CW.region ?_
  first | refine RL.q (Y.loadAllR rfl MM MM EL agg38) rfl ?_ | refine RL.q (Y.loadAll rfl MM (by rfl) agg38) rfl ?_ | refine RL.loadPart rfl rfl MM MM (by rfl) (by rfl) agg38 rfl fun us3 hul3 hur3 => ?_
  refine RL.buildSlice ust elem36 rfl (by decide) (fill1 rfl (by rw [ht.1]; rfl)) rfl fun b4 => ?_
  refine RL.q (Y.build [_, _, _, _, _] rfl zero38 places38 (by rfl)) rfl ?_
  first | refine RL.storeRds 5 rfl rfl RP MM EL (by first | exact Kn.lenRds MM EL | exact Kn.lenLit rfl) size38 ?_ | refine RL.storeAgg _ rfl rfl RP (by rfl) (by first | (simp; done) | simp [IdT.vals]) (by first | (simp [Value.oneCell']; done) | simp [Value.oneCell', IdT.vals]) size38 ?_
  refine RL.nil ?_
  refine hK2 _ _ _ ?_
  refine CW.kp [2] rfl ?_
  refine CW.ret ?_
  refine CellAt.mk rfl MM (by rfl) agg38 (Turn.sealOwn (b := b4) (n := 1) (sz := 5) (ds := t.enc) PK (by rw [Ty.enc_eq]; exact ht) (by rw [ht.1]; rfl) (by unfold lim; omega) SB fun M1 hs1 hr1 => ⟨hs1, rfl, _, rfl, ?_⟩)
  rw [Ty.enc_eq]
  exact RdL.cons (Rd.i _) (RdL.cons (Rd.i _) (RdL.cons (Rd.i _) (RdL.cons (Rd.i _) (RdL.cons (by simpa [listT, Ty.kids] using hr1) (RdL.nil _)))))

theorem around_ok (w0 : World) (M : Mem) (Γ : List As) (n : Int) (m : Int)   (hn : InI n) (hm : 1 ≤ m) :
    CallOk Tryd.prog w0 M Γ 16 #[vint n, vint m] (Is M Γ (vint (around n m))) := by
  obtain ⟨hn1, hn2⟩ := hn
  refine enter (f := 16) Tryd.func16 rfl Tryd.ntmps16 rfl rfl fun w1 hw1 => ?_
  refine CW.seq fun K1 hK1 => ?_
  refine CW.region ?_
  refine RL.q (Y.assign rfl) rfl ?_
  refine RL.nil ?_
  refine hK1 _ _ _ ?_
  refine CW.kp [0, 1] rfl ?_
  refine CW.seq fun K2 hK2 => ?_
  refine CW.seq fun K3 hK3 => ?_
  refine CW.region ?_
  refine RL.q (Y.move rfl) rfl ?_
  refine RL.q (Y.lss rfl rfl) rfl ?_
  refine RL.nil ?_
  refine hK3 _ _ _ ?_
  refine CW.kp [0, 1, 6] rfl ?_
  refine CW.ite rfl (fun h1 => ?_) (fun h1 => ?_)
  ·refine CW.region ?_
   refine RL.q (Y.move rfl) rfl ?_
   refine RL.q (Y.add rfl rfl OM) rfl ?_
   refine RL.q (Y.neg rfl OM) rfl ?_
   refine RL.q (Y.assign rfl) rfl ?_
   refine RL.nil ?_
   refine hK2 _ _ _ ?_
   refine CW.kp [0, 1] rfl ?_
   refine CW.seq fun K4 hK4 => ?_
   refine CW.region ?_
   refine RL.q (Y.move rfl) rfl ?_
   refine RL.q (Y.move rfl) rfl ?_
   refine RL.q (Y.rem rfl rfl OM) rfl ?_
   refine RL.q (Y.assign rfl) rfl ?_
   refine RL.nil ?_
   refine hK4 _ _ _ ?_
   refine CW.kp [4] rfl ?_
   refine CW.ret ?_
   first | exact ⟨_, rfl, Turn.drop ⟨(by first | (rw [around_eq n m hm]; simp only [h1, if_true]; done) | fail), rfl, rfl⟩ SB⟩ | exact ⟨_, rfl, Turn.drop ⟨(by first | (rw [around_eq n m hm]; simp only [h1, if_false]; done) | fail), rfl, rfl⟩ SB⟩
  refine CW.skip ?_
  refine hK2 _ _ _ ?_
  refine CW.seq fun K5 hK5 => ?_
  refine CW.region ?_
  refine RL.q (Y.move rfl) rfl ?_
  refine RL.q (Y.move rfl) rfl ?_
  refine RL.q (Y.rem rfl rfl OM) rfl ?_
  refine RL.q (Y.assign rfl) rfl ?_
  refine RL.nil ?_
  refine hK5 _ _ _ ?_
  refine CW.kp [4] rfl ?_
  refine CW.ret ?_
  first | exact ⟨_, rfl, Turn.drop ⟨(by first | (rw [around_eq n m hm]; simp only [h1, if_true]; done) | fail), rfl, rfl⟩ SB⟩ | exact ⟨_, rfl, Turn.drop ⟨(by first | (rw [around_eq n m hm]; simp only [h1, if_false]; done) | fail), rfl, rfl⟩ SB⟩

theorem at_ok (w0 : World) (M : Mem) (Γ : List As) (l : List Int) (ul : Value) (i : Int) (m : Int)  (hl : Kn w0 M Γ (Rd M (dints l) ul)) (hli : ∀ x ∈ l, InI x) (hm : 1 ≤ m) :
    CallOk Tryd.prog w0 M Γ 40 #[ul, vint i, vint m] (Is M Γ (vint (atL l i m))) := by
  refine CallOk.kn hl fun hl => ?_
  obtain ⟨al, cl, rfl, hcl, hliml, hlenl⟩ := hl.slice
  refine enter (f := 40) Tryd.func40 rfl Tryd.ntmps40 rfl rfl fun w1 hw1 => ?_
  refine CW.addRd hl ?_
  refine CW.seq fun K1 hK1 => ?_
  refine CW.region ?_
  refine RL.q (Y.assign rfl) rfl ?_
  refine RL.nil ?_
  refine hK1 _ _ _ ?_
  refine CW.kp [0, 1, 2] rfl ?_
  refine CW.seq fun K2 hK2 => ?_
  refine CW.seq fun K3 hK3 => ?_
  refine CW.region ?_
  refine RL.q (Y.move rfl) rfl ?_
  refine RL.qs (Y.lss rfl rfl) rfl (fun g8 => ?_) (fun g8 => ?_)
  ·refine RL.q (Y.move rfl) rfl ?_
   refine RL.no WG rfl ?_
   refine RL.no WG rfl ?_
   refine RL.no WG rfl ?_
   refine RL.no WG rfl ?_
   refine RL.q (Y.pickT rfl rfl) rfl ?_
   refine RL.nil ?_
   refine hK3 _ _ _ ?_
   refine CW.kp [0, 1, 2, 14] rfl ?_
   refine CW.yes rfl ?_
   refine CW.seq fun K4 hK4 => ?_
   refine CW.region ?_
   refine RL.q (Y.assign rfl) rfl ?_
   refine RL.nil ?_
   refine hK4 _ _ _ ?_
   refine CW.kp [6] rfl ?_
   refine CW.ret ?_
   first | exact ⟨_, rfl, Turn.drop ⟨(by rw [atL, if_pos (Or.inl g8)]), rfl, rfl⟩ SB⟩ | exact ⟨_, rfl, Turn.drop ⟨(by rw [atL, if_pos (Or.inr h1)]), rfl, rfl⟩ SB⟩
  refine RL.q (Y.move rfl) rfl ?_
  refine RL.qg WG (Y.move rfl) rfl ?_
  refine RL.qg WG (Y.move rfl) rfl ?_
  refine RL.qg WG (Y.len rfl Tryd.underlying22) rfl ?_
  refine RL.qg WG (Y.geq rfl rfl) rfl ?_
  refine RL.q (Y.pickF rfl rfl) rfl ?_
  refine RL.nil ?_
  refine hK3 _ _ _ ?_
  refine CW.kp [0, 1, 2, 14] rfl ?_
  refine CW.ite rfl (fun h1 => ?_) (fun h1 => ?_)
  ·refine CW.seq fun K5 hK5 => ?_
   refine CW.region ?_
   refine RL.q (Y.assign rfl) rfl ?_
   refine RL.nil ?_
   refine hK5 _ _ _ ?_
   refine CW.kp [6] rfl ?_
   refine CW.ret ?_
   first | exact ⟨_, rfl, Turn.drop ⟨(by rw [atL, if_pos (Or.inl g8)]), rfl, rfl⟩ SB⟩ | exact ⟨_, rfl, Turn.drop ⟨(by rw [atL, if_pos (Or.inr h1)]), rfl, rfl⟩ SB⟩
  refine CW.skip ?_
  refine hK2 _ _ _ ?_
  refine CW.seq fun K6 hK6 => ?_
  obtain ⟨k, rfl⟩ := Int.eq_ofNat_of_zero_le (show 0 ≤ i by omega)
  have hk : k < l.length := by omega
  have hInI := hli _ (List.getElem_mem hk)
  refine CW.region ?_
  refine RL.q (Y.move rfl) rfl ?_
  refine RL.q (Y.move rfl) rfl ?_
  refine RL.q (Y.index k rfl rfl rfl hk slice22 (fun _ hw => hw.rd_some MM OM)) rfl ?_
  first | refine RL.q (Y.loadRd rfl MM (dints_get (List.getElem?_eq_getElem AO)) flat3) rfl ?_ | refine RL.loadSl rfl rfl MM (dints_get (List.getElem?_eq_getElem AO)) flat3 rfl fun a18 c18 hc18 hl18 => ?_
  refine RL.q (Y.move rfl) rfl ?_
  refine RL.callv rfl func16 rfl rfl (by exact around_ok _ _ _ _ _ AO AO) ?_
  refine RL.q (Y.assign rfl) rfl ?_
  refine RL.nil ?_
  refine hK6 _ _ _ ?_
  refine CW.kp [6] rfl ?_
  refine CW.ret ?_
  exact ⟨_, rfl, Turn.drop ⟨by rw [atL, if_neg OM]; simp [hk], rfl, rfl⟩ SB⟩
end Go.Proofs.YtanbipbiblikbaaDoor
