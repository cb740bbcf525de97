/- XeQ XeR XeS XeT XeU XeV XeW XeX, put together. No program in sight. -/
import Derived.Test.YtfgkhhfkodlbpaaPure
import Derived.Test.YtfgkhhfkodlbpaaApi
import Derived.Test.YtfgkhhfkodlbpaaXe3
import Derived.Carry
import Derived.OpenShut
import Derived.Deep.CondSized
import Derived.Scope
import Derived.Lib.AppendZeros
import Derived.Laws.Bits64b
/-
  THE ENGINE, PART Q: any argument made of integers, booleans, strings, structs and slices, and back. No program in sight.
-/
namespace Xe
open Go Go.ChangeShapes Go.WideShapes Go.RowKit

/-- What the cells of a value of a type read as, as far as its type goes. -/
def WT (P : Program) : Nat → TypeId → List D → Prop
  | 0, _, _ => False
  | n + 1, t, ds => match P.underlying t with
    | some .bool => ∃ b, ds = [.v (.bool b)]
    | some (.int k) => ∃ z, ds = [.v (.int k z)] ∧ (Lit.int k z).wf = true
    | some .string => ∃ s : ByteArray, ds = [.v (.string s)] ∧ s.size ≤ lim
    | some (.slice e) => ∃ els : List (List D), ds = [.sl els.length (P.cellsOf e) els.flatten] ∧ els.length ≤ lim ∧ ∀ x ∈ els, WT P n e x
    | some (.struct fs) => ds.length = P.cellsOf t ∧ ∀ f ∈ fs.toList, WT P n f.type ((ds.drop f.offset).take (P.cellsOf f.type))
    | some (.array m e) => ds.length = P.cellsOf t ∧ ∀ i, i < m → WT P n e ((ds.drop (i * P.cellsOf e)).take (P.cellsOf e))
    | _ => False

mutual
/-- How many cells are read, each time that they are reached. -/
def bulkD : D → Nat
  | .v _ => 1
  | .sl _ _ cs => 1 + bulkDs cs
def bulkDs : List D → Nat
  | [] => 0
  | d :: ds => bulkD d + bulkDs ds
end
theorem bulkDs_append : ∀ (a b : List D), bulkDs (a ++ b) = bulkDs a + bulkDs b
  | [], b => by simp [bulkDs]
  | x :: xs, b => by have := bulkDs_append xs b; simp only [List.cons_append, bulkDs]; omega
/-- A count of values that is no less than that of the cells. -/
structure BulkOk {H : Type} (bulk : DataW H → Nat) : Prop where
  lit : ∀ l, 1 ≤ bulk (.lit l)
  nil : 1 ≤ bulk .nil
  slice : ∀ els sp, (els.map bulk).sum + 1 ≤ bulk (.slice els sp)
  agg : ∀ ps, (ps.map bulk).sum ≤ bulk (.agg ps)
/-- Fields lie one behind the other. -/
def contigB (P : Program) : Nat → List Field → Nat → Bool
  | off, [], tot => Nat.beq off tot
  | off, f :: fs, tot => Nat.beq f.offset off && contigB P (off + P.cellsOf f.type) fs tot
theorem contig_le {P : Program} : ∀ {fs : List Field} {off tot : Nat}, contigB P off fs tot = true → off ≤ tot ∧ ∀ f ∈ fs, off ≤ f.offset
  | [], off, tot, h => ⟨Nat.le_of_eq (Nat.eq_of_beq_eq_true h), fun f hf => by simp at hf⟩
  | g :: fs, off, tot, h => by
    simp only [contigB, Bool.and_eq_true] at h
    obtain ⟨h1, h2⟩ := contig_le h.2
    have h0 := Nat.eq_of_beq_eq_true h.1
    refine ⟨by omega, fun f hf => ?_⟩
    rcases List.mem_cons.1 hf with rfl | hf
    · omega
    · have := h2 f hf; omega

/-- The types of a list refer to each other alone. -/
def closedB (P : Program) (ts : List TypeId) : Bool := ts.all fun t => match P.underlying t with
  | some .bool => true
  | some (.int _) => true
  | some .string => true
  | some (.slice e) => ts.contains e && Nat.blt 0 (P.bytesOf e)
  | some (.struct fs) => contigB P 0 fs.toList (P.cellsOf t) && fs.toList.all fun f => ts.contains f.type
  | some (.array m e) => Nat.beq (P.cellsOf t) (m * P.cellsOf e) && ts.contains e
  | _ => false

theorem RdL.cut {M : Mem} {ds : List D} {us : List Value} (h : RdL M ds us) (q n : Nat) : RdL M ((ds.drop q).take n) ((us.drop q).take n) := by
  refine ⟨by simp [h.1], fun k d u h1 h2 => ?_⟩
  have hk : k < n := by
    rcases Nat.lt_or_ge k n with h | h
    · exact h
    · rw [List.getElem?_eq_none (by simp; omega)] at h1; cases h1
  rw [List.getElem?_take_of_lt hk, List.getElem?_drop] at h1 h2
  exact h.2 _ _ _ h1 h2

theorem RdL.ex {M : Mem} : ∀ {us : List Value}, (∀ u ∈ us, ∃ d, Rd M d u) → ∃ ds, RdL M ds us
  | [], _ => ⟨[], RdL.nil M⟩
  | u :: us, h => by
    obtain ⟨d, hd⟩ := h u (List.mem_cons_self ..)
    obtain ⟨ds, hds⟩ := RdL.ex fun x hx => h x (List.mem_cons_of_mem _ hx)
    exact ⟨d :: ds, RdL.cons hd hds⟩

theorem weightsAll_mem {H : Type} {P : Program} {e : TypeId} {d : DataW H} : ∀ {l : List (DataW H)}, d ∈ l → ∀ n ∈ d.weights P e, n ∈ DataW.weightsAll P e l
  | x :: xs, hd, n, hn => by
    rw [DataW.weightsAll, List.mem_append]
    rcases List.mem_cons.1 hd with rfl | hd
    · exact .inl hn
    · exact .inr (weightsAll_mem hd n hn)

theorem glueF {M : Mem} {P : Program} (F : Field → List D → Prop) : ∀ (fs : List Field) (bs : List Nat) (off : Nat) (cs : List Value), contigB P off fs (off + cs.length) = true → bs.length = fs.length →
    (∀ (i : Nat) (f : Field) (b : Nat), fs[i]? = some f → bs[i]? = some b → ∃ ds, RdL M ds ((cs.drop (f.offset - off)).take (P.cellsOf f.type)) ∧ F f ds ∧ bulkDs ds ≤ b) → ∃ ds, RdL M ds cs ∧ (∀ f ∈ fs, F f ((ds.drop (f.offset - off)).take (P.cellsOf f.type))) ∧ bulkDs ds ≤ bs.sum := by
  intro fs
  induction fs with
  | nil =>
    intro bs off cs h _ _
    have := Nat.eq_of_beq_eq_true h
    have : cs = [] := List.eq_nil_of_length_eq_zero (by omega)
    subst this
    exact ⟨[], RdL.nil M, fun f hf => by simp at hf, by simp [bulkDs]⟩
  | cons g fs ih =>
    intro bs off cs h hbl hf
    simp only [contigB, Bool.and_eq_true] at h
    have h0 := Nat.eq_of_beq_eq_true h.1
    have h1 := contig_le h.2
    obtain ⟨b0, bs, rfl⟩ : ∃ b0 bs', bs = b0 :: bs' := by
      cases bs with
      | nil => simp at hbl
      | cons b0 bs' => exact ⟨b0, bs', rfl⟩
    obtain ⟨d0, r0, f0, q0⟩ := hf 0 g b0 rfl rfl
    rw [h0, Nat.sub_self, List.drop_zero] at r0
    have hd0 : d0.length = P.cellsOf g.type := by rw [← r0.1, List.length_take]; omega
    obtain ⟨ds, r1, f1, q1⟩ := ih bs (off + P.cellsOf g.type) (cs.drop (P.cellsOf g.type)) (by rw [List.length_drop, show off + P.cellsOf g.type + (cs.length - P.cellsOf g.type) = off + cs.length from by omega]; exact h.2) (by simpa using hbl) fun i f b hfi hbi => by
      obtain ⟨ds, r, ff, q⟩ := hf (i + 1) f b (by simpa using hfi) (by simpa using hbi)
      have := h1.2 f (List.mem_of_getElem? hfi)
      refine ⟨ds, ?_, ff, q⟩
      rw [List.drop_drop]
      rwa [show P.cellsOf g.type + (f.offset - (off + P.cellsOf g.type)) = f.offset - off from by omega]
    refine ⟨d0 ++ ds, ?_, fun f hfm => ?_, by rw [bulkDs_append, List.sum_cons]; omega⟩
    · have := r0.append r1
      rwa [List.take_append_drop] at this
    · rcases List.mem_cons.1 hfm with rfl | hfm
      · rw [h0, Nat.sub_self, List.drop_zero, ← hd0, List.take_left]
        exact f0
      · have := h1.2 f hfm
        have e := f1 f hfm
        rw [List.drop_append, List.drop_of_length_le (by omega), List.nil_append, hd0, show f.offset - off - P.cellsOf g.type = f.offset - (off + P.cellsOf g.type) from by omega]
        exact e

theorem flat_takeF : ∀ (l : List (List D)) (sz i : Nat) (hi : i < l.length), (∀ x ∈ l, x.length = sz) → ((l.flatten.drop (i * sz)).take sz) = l[i]
  | x :: xs, sz, 0, _, h => by
    have := h x (List.mem_cons_self ..)
    simp [← this]
  | x :: xs, sz, i + 1, hi, h => by
    have h0 := h x (List.mem_cons_self ..)
    have e : (x ++ xs.flatten).drop sz = xs.flatten := by rw [← h0]; exact List.drop_left
    rw [List.flatten_cons, Nat.succ_mul, Nat.add_comm, ← List.drop_drop, e, List.getElem_cons_succ]
    exact flat_takeF xs sz i (by simpa using hi) fun y hy => h y (List.mem_cons_of_mem _ hy)

section
variable {H : Type} {enc : TypeId × Value → H} {P : Program} {W : World}

/-- Readings of parts are put together. -/
theorem glue {M : Mem} (sz : Nat) (F : List D → Prop) : ∀ (bs : List Nat) (cs : List Value), cs.length = bs.length * sz → (∀ (i : Nat) (b : Nat), bs[i]? = some b → ∃ ds, RdL M ds ((cs.drop (i * sz)).take sz) ∧ F ds ∧ bulkDs ds ≤ b) →
    ∃ els : List (List D), els.length = bs.length ∧ RdL M els.flatten cs ∧ (∀ x ∈ els, F x) ∧ (∀ x ∈ els, x.length = sz) ∧ bulkDs els.flatten ≤ bs.sum := by
  intro bs
  induction bs with
  | nil =>
    intro cs hl _
    have : cs = [] := List.eq_nil_of_length_eq_zero (by simpa using hl)
    subst this
    exact ⟨[], rfl, RdL.nil M, fun x hx => by simp at hx, fun x hx => by simp at hx, by simp [bulkDs]⟩
  | cons b0 bs ih =>
    intro cs hl h
    have hls : sz ≤ cs.length := by rw [hl, List.length_cons, Nat.succ_mul]; omega
    obtain ⟨d0, r0, f0, q0⟩ := h 0 b0 rfl
    simp only [Nat.zero_mul, List.drop_zero] at r0
    obtain ⟨els, h1, h2, h3, h4, h5⟩ := ih (cs.drop sz) (by rw [List.length_drop, hl, List.length_cons, Nat.succ_mul]; omega) fun i b hi => by
      obtain ⟨ds, r, f, q⟩ := h (i + 1) b (by simpa using hi)
      refine ⟨ds, ?_, f, q⟩
      rw [List.drop_drop]
      rwa [show sz + i * sz = (i + 1) * sz from by rw [Nat.succ_mul]; omega]
    refine ⟨d0 :: els, by simp [h1], ?_, fun x hx => ?_, fun x hx => ?_, by rw [List.flatten_cons, bulkDs_append, List.sum_cons]; omega⟩
    · have := r0.append h2
      rwa [List.take_append_drop] at this
    · rcases List.mem_cons.1 hx with rfl | hx
      · exact f0
      · exact h3 x hx
    · rcases List.mem_cons.1 hx with rfl | hx
      · rw [← r0.1, List.length_take]; omega
      · exact h4 x hx

theorem flatten_len {sz : Nat} : ∀ {els : List (List D)}, (∀ x ∈ els, x.length = sz) → els.flatten.length = els.length * sz
  | [], _ => by simp
  | x :: xs, h => by
    rw [List.flatten_cons, List.length_append, h x (List.mem_cons_self ..), flatten_len fun y hy => h y (List.mem_cons_of_mem _ hy), List.length_cons, Nat.succ_mul, Nat.add_comm]

theorem open_cellsB {ts : List TypeId} {bulk : DataW H → Nat} (hbk : BulkOk bulk) (hcl : closedB P ts = true) : ∀ (n : Nat) (t : TypeId) (cs : List Value) (x : DataW H × List MemPlace), t ∈ ts →
    DataW.trod enc P W 0 (fun _ => true) true n t cs = some x → (∀ k ∈ x.1.weights P t, k ≤ reachBytes) → ∃ ds, RdL (memOf W) ds cs ∧ WT P n t ds ∧ bulkDs ds ≤ bulk x.1 := by
  intro n
  induction n with
  | zero => intro t cs x _ h; simp [DataW.trod] at h
  | succ n ih =>
    intro t cs x ht h hw
    have hc := List.all_eq_true.1 hcl t ht
    cases hu : P.underlying t with
    | none => simp [hu] at hc
    | some u =>
      rw [hu] at hc
      cases u with
      | bool =>
        obtain ⟨b, rfl, rfl⟩ := DataW.trod_bool hu h
        exact ⟨[.v (.bool b)], RdL.cons (by simp [Rd, Value.oneCell']) (RdL.nil _), by simp [WT, hu], hbk.lit _⟩
      | int k =>
        obtain ⟨z, rfl, rfl, hz⟩ := DataW.trod_int hu h
        exact ⟨[.v (.int k z)], RdL.cons (by simp [Rd, Value.oneCell']) (RdL.nil _), by simp [WT, hu, hz], hbk.lit _⟩
      | string =>
        obtain ⟨s, rfl, rfl, hs⟩ := DataW.trod_string hu h
        refine ⟨[.v (.string s)], RdL.cons (by simp [Rd, Value.oneCell']) (RdL.nil _), ?_, hbk.lit _⟩
        have := hw s.data.toList.length (by rw [DataW.weights]; exact List.mem_singleton.2 rfl)
        have h5 := reachBytes_lt
        have hsz : s.data.toList.length = s.size := by rw [Array.length_toList]; rfl
        simp only [WT, hu]
        exact ⟨s, rfl, by unfold lim; omega⟩
      | slice e =>
        simp only [Bool.and_eq_true, List.contains_iff_mem] at hc
        obtain ⟨he, hb⟩ := hc
        have hb : 0 < P.bytesOf e := by simpa [Nat.blt_eq] using hb
        rcases DataW.trod_slice hu h with ⟨rfl, rfl⟩ | ⟨a, len, cap, elems, rest, n', hn, rfl, rfl, _, hl, hm, hlen, hel, _, _⟩
        · refine ⟨[.sl 0 (P.cellsOf e) []], RdL.cons Rd.nilS (RdL.nil _), ?_, hbk.nil⟩
          simp only [WT, hu]
          exact ⟨[], rfl, Nat.zero_le _, fun x hx => by simp at hx⟩
        · obtain rfl : n' = n := by omega
          have hwl : len ≤ lim := by
            have := hw ((elems.map (·.1)).length + (rest.map (·.1)).length |> (· * P.bytesOf e)) (by simp [DataW.weights, hu])
            have h5 := reachBytes_lt
            have h6 : len ≤ ((elems.map (·.1)).length + (rest.map (·.1)).length) * P.bytesOf e := Nat.le_trans (by simp [hlen]) (Nat.le_mul_of_pos_right _ hb)
            simp only at this
            unfold lim; omega
          have each : ∀ i, (hi : i < len) → ∃ cs' ds, W.cells? 0 (a.add (i * P.cellsOf e)) (P.cellsOf e) = some cs' ∧ RdL (memOf W) ds cs' ∧ WT P n' e ds ∧ bulkDs ds ≤ bulk (elems[i]'(by omega)).1 := fun i hi => by
            have h1 := hel i hi
            have h2 : i < elems.length := by omega
            rw [List.getElem?_eq_getElem h2, Option.bind_eq_some_iff] at h1
            obtain ⟨cs', h3, h4⟩ := h1
            obtain ⟨ds, h5, h6, h7⟩ := ih e cs' _ he h4 fun k hk => hw k (by
              simp only [DataW.weights, hu, List.mem_cons, List.mem_append]
              exact .inr (.inl (weightsAll_mem (List.mem_map.2 ⟨_, List.getElem_mem h2, rfl⟩) k hk)))
            exact ⟨cs', ds, h3, h5, h6, h7⟩
          have hcell : ∀ q, q < len * P.cellsOf e → ∃ u, W.cell? (a.add q) = some u := fun q hq => by
            have hp : 0 < P.cellsOf e := by
              rcases Nat.eq_zero_or_pos (P.cellsOf e) with h | h
              · rw [h] at hq; omega
              · exact h
            have hi : q / P.cellsOf e < len := Nat.div_lt_of_lt_mul (by rw [Nat.mul_comm]; exact hq)
            obtain ⟨cs', ds, h1, _, _, _⟩ := each _ hi
            obtain ⟨_, h2, h3⟩ := World.cells?_some h1
            have hr : q % P.cellsOf e < P.cellsOf e := Nat.mod_lt _ hp
            have h4 := h3 _ hr
            rw [show (a.add (q / P.cellsOf e * P.cellsOf e)).add (q % P.cellsOf e) = a.add q from by
              have e1 : q / P.cellsOf e * P.cellsOf e + q % P.cellsOf e = q := by rw [Nat.mul_comm]; exact Nat.div_add_mod q _
              have := adr_add (some a) (q / P.cellsOf e * P.cellsOf e) (q % P.cellsOf e)
              rw [e1] at this
              exact this, List.getElem?_eq_getElem (by omega)] at h4
            exact ⟨_, h4⟩
          -- the cells as one list
          obtain ⟨row, hrl, hrow⟩ : ∃ row : List Value, row.length = len * P.cellsOf e ∧ ∀ q, q < len * P.cellsOf e → W.cell? (a.add q) = row[q]? := by
            refine ⟨(List.range (len * P.cellsOf e)).map fun q => (W.cell? (a.add q)).getD default, by simp, fun q hq => ?_⟩
            obtain ⟨u, hu'⟩ := hcell q hq
            simp [hq, hu']
          obtain ⟨els, k1, k2, k3, k4, k5⟩ := glue (M := memOf W) (P.cellsOf e) (WT P n' e) ((elems.map (·.1)).map bulk) row (by rw [hrl, List.length_map, List.length_map, hlen]) fun i b hbi => by
            obtain ⟨hi0, hb0⟩ := List.getElem?_eq_some_iff.1 hbi
            have hi : i < len := by simp at hi0; omega
            obtain ⟨cs', ds, h1, h2, h3, h7⟩ := each i hi
            have hb1 : bulk (elems[i]'(by omega)).1 = b := by rw [← hb0]; simp
            rw [hb1] at h7
            obtain ⟨_, h4, h5⟩ := World.cells?_some h1
            refine ⟨ds, ?_, h3, h7⟩
            have : (row.drop (i * P.cellsOf e)).take (P.cellsOf e) = cs' := by
              apply List.ext_getElem?
              intro j
              by_cases hj : j < P.cellsOf e
              · rw [List.getElem?_take_of_lt hj, List.getElem?_drop, ← h5 j hj]
                have hlt : i * P.cellsOf e + j < len * P.cellsOf e := by
                  have : (i + 1) * P.cellsOf e ≤ len * P.cellsOf e := Nat.mul_le_mul_right _ hi
                  rw [Nat.succ_mul] at this; omega
                rw [← hrow _ hlt]
                have := adr_add (some a) (i * P.cellsOf e) j
                show W.cell? (adr (some a) _) = _
                rw [← this]; rfl
              · rw [List.getElem?_eq_none (by simp; omega), List.getElem?_eq_none (by omega)]
            rw [this]; exact h2
          rw [List.length_map, List.length_map, hlen] at k1
          refine ⟨[.sl els.length (P.cellsOf e) els.flatten], RdL.cons ?_ (RdL.nil _), ?_, ?_⟩
          · simp only [Rd]
            refine ⟨some a, cap, by rw [k1], by omega, hm, by omega, flatten_len k4, fun _ => rfl, RdC.mk _ 0 fun k d hk => ?_⟩
            have hlt : k < row.length := by
              rw [k2.1]
              rcases Nat.lt_or_ge k els.flatten.length with h | h
              · exact h
              · rw [List.getElem?_eq_none h] at hk; cases hk
            refine ⟨row[k], ?_, k2.2 k d _ hk (List.getElem?_eq_getElem hlt)⟩
            rw [cellM_memOf, Nat.zero_add]
            exact (hrow k (by omega)).trans (List.getElem?_eq_getElem hlt)
          · simp only [WT, hu]
            exact ⟨els, rfl, by omega, k3⟩
          · have := hbk.slice (elems.map (·.1)) (rest.map (·.1))
            simp only [bulkDs, bulkD] at k5 ⊢
            omega
      | struct fs =>
        obtain ⟨xs, n', hn, rfl, hl, hxl, hf⟩ := DataW.trod_struct hu h
        obtain rfl : n' = n := by omega
        rw [Bool.and_eq_true] at hc
        have hca : ∀ f ∈ fs.toList, f.type ∈ ts := fun f hf => by
          have := List.all_eq_true.1 hc.2 f hf
          simpa using this
        have hwe : ∀ (l : List Field) (ys : List (DataW H)) (i : Nat) (f : Field) (d : DataW H), l[i]? = some f → ys[i]? = some d → ∀ k ∈ d.weights P f.type, k ∈ DataW.weightsEach P (l.map (·.type)) ys := by
          intro l
          induction l with
          | nil => intro ys i f d h1; simp at h1
          | cons g l ihl =>
            intro ys i f d h1 h2 k hk
            cases ys with
            | nil => simp at h2
            | cons y ys =>
              rw [List.map_cons, DataW.weightsEach, List.mem_append]
              cases i with
              | zero =>
                simp only [List.getElem?_cons_zero, Option.some.injEq] at h1 h2
                subst h1 h2; exact .inl hk
              | succ i => exact .inr (ihl ys i f d (by simpa using h1) (by simpa using h2) k hk)
        have each : ∀ (i : Nat) (f : Field) (b : Nat), fs.toList[i]? = some f → ((xs.map (·.1)).map bulk)[i]? = some b → ∃ ds, RdL (memOf W) ds ((cs.drop f.offset).take (P.cellsOf f.type)) ∧ WT P n' f.type ds ∧ bulkDs ds ≤ b := fun i f b hi hbi => by
          have hfm := List.mem_of_getElem? hi
          have h1 := hf i f (by simpa using hi)
          have hix : i < xs.length := by
            have := (List.getElem?_eq_some_iff.1 hi).1
            simp at this; omega
          rw [List.getElem?_eq_getElem hix] at h1
          have hb1 : bulk (xs[i]).1 = b := by
            have : ((xs.map (·.1)).map bulk)[i]? = some (bulk (xs[i]).1) := by simp [hix]
            rw [this] at hbi
            exact Option.some.inj hbi
          rw [← hb1]
          exact ih f.type _ _ (hca f hfm) h1 fun k hk => hw k (by
            simp only [DataW.weights, hu]
            exact hwe _ _ i f _ hi (by simp [hix]) k hk)
        obtain ⟨ds, k1, k2, k3⟩ := glueF (M := memOf W) (P := P) (fun f ds => WT P n' f.type ds) fs.toList ((xs.map (·.1)).map bulk) 0 cs (by rw [Nat.zero_add, hl]; exact hc.1) (by simp [hxl]) fun i f b hi hbi => by simpa using each i f b hi hbi
        refine ⟨ds, k1, ?_, Nat.le_trans k3 (hbk.agg _)⟩
        simp only [WT, hu]
        exact ⟨by rw [← k1.1]; exact hl, fun f hf => by simpa using k2 f hf⟩
      | array m e =>
        simp only [Bool.and_eq_true, List.contains_iff_mem] at hc
        obtain ⟨hc0, hc⟩ := hc
        have hc0 := Nat.eq_of_beq_eq_true hc0
        obtain ⟨xs, n', hn, rfl, hl, hxl, hf⟩ := DataW.trod_array hu h
        obtain rfl : n' = n := by omega
        have each : ∀ (i b : Nat), ((xs.map (·.1)).map bulk)[i]? = some b → ∃ ds, RdL (memOf W) ds ((cs.drop (i * P.cellsOf e)).take (P.cellsOf e)) ∧ WT P n' e ds ∧ bulkDs ds ≤ b := fun i b hbi => by
          obtain ⟨hi0, hb0⟩ := List.getElem?_eq_some_iff.1 hbi
          have hix : i < xs.length := by simpa using hi0
          have h1 := hf i (by omega)
          have hb1 : bulk (xs[i]).1 = b := by rw [← hb0]; simp
          rw [← hb1]
          rw [List.getElem?_eq_getElem hix] at h1
          exact ih e _ _ hc h1 fun k hk => hw k (by
            simp only [DataW.weights, hu]
            exact weightsAll_mem (List.mem_map.2 ⟨_, List.getElem_mem hix, rfl⟩) k hk)
        obtain ⟨els, k1, k2, k3, k4, k5⟩ := glue (M := memOf W) (P.cellsOf e) (WT P n' e) ((xs.map (·.1)).map bulk) cs (by rw [hl, hc0, List.length_map, List.length_map, hxl]) each
        rw [List.length_map, List.length_map, hxl] at k1
        refine ⟨els.flatten, k2, ?_, Nat.le_trans k5 (hbk.agg _)⟩
        simp only [WT, hu]
        refine ⟨by rw [← k2.1]; exact hl, fun i hi => ?_⟩
        have hi' : i < els.length := by omega
        have e2 : ∀ (l : List (List D)) (sz i : Nat) (hi : i < l.length), (∀ x ∈ l, x.length = sz) → ((l.flatten.drop (i * sz)).take sz) = l[i] := fun l sz i hi hall => by
          have := flat_takeF l sz i hi hall
          exact this
        rw [e2 els _ i hi' k4]
        exact k3 _ (List.getElem_mem hi')
      | _ => simp at hc
end

/-! ### Arguments of a law -/
/-- The cells of a value that is no array's, no struct's element: as it stands in a slot. -/
def SlotOf (P : Program) (t : TypeId) (us : List Value) (v : Value) : Prop := match P.underlying t with
  | some (.struct _) => v = .agg us.toArray
  | some (.array ..) => v = .agg us.toArray
  | _ => us = [v]

/-- .. each of so many cells at the most. -/
inductive ArgsB (P : Program) (M : Mem) (b : Nat) : List TypeId → List Value → Prop
  | nil : ArgsB P M b [] []
  | cons {t : TypeId} {ts : List TypeId} {v : Value} {vs : List Value} (n : Nat) (ds : List D) (us : List Value) : RdL M ds us → WT P n t ds → SlotOf P t us v → bulkDs ds ≤ b → ArgsB P M b ts vs → ArgsB P M b (t :: ts) (v :: vs)
theorem ArgsB.inv {P : Program} {M : Mem} {b : Nat} {t : TypeId} {ts : List TypeId} {vs : List Value} (h : ArgsB P M b (t :: ts) vs) :
    ∃ n ds us v vs', vs = v :: vs' ∧ RdL M ds us ∧ WT P n t ds ∧ SlotOf P t us v ∧ bulkDs ds ≤ b ∧ ArgsB P M b ts vs' := by
  cases h with
  | cons n ds us h1 h2 h3 h4 h5 => exact ⟨n, ds, us, _, _, rfl, h1, h2, h3, h4, h5⟩
theorem ArgsB.nil_inv {P : Program} {M : Mem} {b : Nat} {vs : List Value} (h : ArgsB P M b [] vs) : vs = [] := by cases h; rfl
inductive ArgsW (P : Program) (M : Mem) : List TypeId → List Value → Prop
  | nil : ArgsW P M [] []
  | cons {t : TypeId} {ts : List TypeId} {v : Value} {vs : List Value} (n : Nat) (ds : List D) (us : List Value) : RdL M ds us → WT P n t ds → SlotOf P t us v → ArgsW P M ts vs → ArgsW P M (t :: ts) (v :: vs)

theorem ArgsW.inv {P : Program} {M : Mem} {t : TypeId} {ts : List TypeId} {vs : List Value} (h : ArgsW P M (t :: ts) vs) :
    ∃ n ds us v vs', vs = v :: vs' ∧ RdL M ds us ∧ WT P n t ds ∧ SlotOf P t us v ∧ ArgsW P M ts vs' := by
  cases h with
  | cons n ds us h1 h2 h3 h4 => exact ⟨n, ds, us, _, _, rfl, h1, h2, h3, h4⟩
theorem ArgsB.toW {P : Program} {M : Mem} {b : Nat} {ts : List TypeId} {vs : List Value} (h : ArgsB P M b ts vs) : ArgsW P M ts vs := by
  induction h with
  | nil => exact .nil
  | cons n ds us h1 h2 h3 _ _ ih => exact .cons n ds us h1 h2 h3 ih
theorem ArgsW.nil_inv {P : Program} {M : Mem} {vs : List Value} (h : ArgsW P M [] vs) : vs = [] := by cases h; rfl

section
variable {H : Type} {enc : TypeId × Value → H} {P : Program} {W : World}
theorem cells_one {v : Value} (h : v.oneCell' = true) : v.cells = #[v] := by cases v <;> first | rfl | simp [Value.oneCell'] at h
theorem argsB_of {ts0 : List TypeId} {bulk : DataW H → Nat} (hbk : BulkOk bulk) (bd : Nat) (hcl : closedB P ts0 = true) (hl : laidOutB P = true) :
    ∀ (ts : List TypeId) (vs : List Value) (ds : List (DataW H)) (p : List MemPlace), DataW.TrodAll enc P W 0 (fun _ => true) true ts vs ds p → (∀ t ∈ ts, t ∈ ts0 ∧ P.readableRec t = true ∧ t < P.types.size) →
    (∀ (j : Nat) t v, ts[j]? = some t → vs[j]? = some v → ∃ b, Value.okWide P W .any b t v) → (∀ k ∈ DataW.weightsEach P ts ds, k ≤ reachBytes) → (∀ d ∈ ds, bulk d ≤ bd) →
    ArgsB P (memOf W) bd ts vs ∧ ∀ (W' : World) (sp : Nat → Bool), Below W.heap.size W W' → (∀ q ∈ p, q.block < W.heap.size) → (∀ q ∈ p, sp q.block = true) → DataW.TrodAll enc P W' 0 sp true ts vs ds p
  | [], vs, ds, p, h, _, _, _, _ => by
    obtain ⟨rfl, rfl, rfl⟩ := trodAll_nil h
    exact ⟨.nil, fun _ _ _ _ _ => rfl⟩
  | t :: ts, vs, ds, p, h, hts, hval, hsz, hbd => by
    obtain ⟨v, vs1, d, ds1, pa, pb, rfl, rfl, rfl, h1, h2⟩ := trodAll_cons h
    rw [DataW.weightsEach] at hsz
    obtain ⟨h3, h4⟩ := argsB_of hbk bd hcl hl ts vs1 ds1 pb h2 (fun x hx => hts x (List.mem_cons_of_mem _ hx)) (fun j x y hx hy => hval (j + 1) x y (by simpa using hx) (by simpa using hy)) (fun k hk => hsz k (List.mem_append_right _ hk)) (fun x hx => hbd x (List.mem_cons_of_mem _ hx))
    obtain ⟨b, hv⟩ := hval 0 t v rfl rfl
    obtain ⟨ht0, hr, hrow⟩ := hts t (List.mem_cons_self ..)
    obtain ⟨n, hn⟩ := h1
    obtain ⟨es, k1, k2, k3⟩ := open_cellsB hbk hcl n t _ _ ht0 hn fun k hk => hsz k (List.mem_append_left _ hk)
    refine ⟨.cons n es v.cells.toList k1 k2 ?_ (Nat.le_trans k3 (hbd _ (List.mem_cons_self ..))) h3, fun W' sp hB hlt hq => ⟨pa, pb, WideElems.Trod_stays hl hr hrow ⟨n, hn⟩ (fun x hx => hB.same (hlt x (List.mem_append_left _ hx))) (fun x hx => hq x (List.mem_append_left _ hx)),
      h4 W' sp hB (fun x hx => hlt x (List.mem_append_right _ hx)) (fun x hx => hq x (List.mem_append_right _ hx)), rfl⟩⟩
    have hc := List.all_eq_true.1 hcl t ht0
    unfold SlotOf
    cases hu : P.underlying t with
    | none => simp [hu] at hc
    | some u =>
      rw [hu] at hc
      cases u with
      | bool => obtain ⟨b, rfl⟩ := okWide_bool hu hv; rfl
      | int k => obtain ⟨z, rfl⟩ := okWide_int hu hv; rfl
      | string => obtain ⟨s, rfl⟩ := okWide_string hu hv; rfl
      | slice e => obtain ⟨a, n, c, rfl⟩ := okWide_slice hu hv; rfl
      | struct fs => obtain ⟨cs, rfl, _⟩ := okWide_struct hu hv; simp [Value.cells]
      | array m e =>
        simp only [Value.okWide, hu] at hv
        obtain ⟨cs, rfl, _⟩ := hv
        simp [Value.cells]
      | _ => simp at hc
end

/-- A law's call, its arguments of so many cells at the most. -/
theorem law_core {H : Type} {enc : TypeId × Value → H} {C : Checked} {f : FuncId} {fn : Func} {s : ChangeSpec} {tb : TypeId} {fresh handsOn again : Bool} {bulk : DataW H → Nat} (hbk : BulkOk bulk) (bd : Nat) (ts0 : List TypeId)
    (hcl : closedB C.prog ts0 = true) (hl : laidOutB C.prog = true) (htb : C.prog.underlying tb = some .bool)
    (hts : (fn.params.toList.all fun t => ts0.contains t && C.prog.readableRec t && Nat.blt t C.prog.types.size) = true) (hres : fn.resultTypes = #[tb]) (hvars : s.vars = []) (hspec : ∀ ds : List (DataW H), ds.length = fn.params.toList.length → s.fn H ds = { results := [.lit (.bool true)], args := ds, vars := [] })
    {W : World} {base : Nat} {args : Array Value} {ds gs : List (DataW H)} {before : List MemPlace} (hval : ∀ (j : Nat) t v, fn.params[j]? = some t → args[j]? = some v → Value.okWide C.prog W .any base t v)
    (hW : DataW.Whole enc C.prog fn.params.toList s.vars false W args.toList ds gs before) (hsz : (DataW.weightsEach C.prog (fn.params.toList ++ s.plain.varTypes C.prog) (ds ++ gs)).all (· ≤ reachBytes) = true) (hbd : ∀ d ∈ ds, bulk d ≤ bd)
    (contract : ∀ vs : List Value, ArgsB C.prog (memOf W) bd fn.params.toList vs → CallOk C.prog W (memOf W) [] f vs.toArray (Is (memOf W) [] (.bool true))) :
    Calls C.prog f args W fun e W' => ∃ v, e = .returned v ∧ s.post enc C.prog fn false fresh handsOn again W args v W' := by
  have hW' := hW
  obtain ⟨p, q, hA, hV, hb, hfz, hnd⟩ := hW
  rw [hvars] at hV
  obtain ⟨rfl, rfl⟩ := trodVars_none hV
  have hvt : s.plain.varTypes C.prog = [] := by
    have : s.plain.vars = [] := hvars
    unfold DataSpec.varTypes
    rw [this]; rfl
  rw [hvt, List.append_nil, List.append_nil] at hsz
  have hts' : ∀ t ∈ fn.params.toList, t ∈ ts0 ∧ C.prog.readableRec t = true ∧ t < C.prog.types.size := fun t ht => by
    have := List.all_eq_true.1 hts t ht
    simp only [Bool.and_eq_true, List.contains_iff_mem] at this
    exact ⟨this.1.1, this.1.2, by simpa [Nat.blt_eq] using this.2⟩
  obtain ⟨h1, h2⟩ := argsB_of (enc := enc) hbk bd hcl hl fn.params.toList args.toList ds p hA hts' (fun j t v ht hv => ⟨base, hval j t v (by simpa using ht) (by simpa using hv)⟩) (fun k hk => by
    have := List.all_eq_true.1 hsz k hk
    simpa using this) hbd
  have hlen : ds.length = fn.params.toList.length := by
    have : ∀ (ts : List TypeId) (vs : List Value) (ds : List (DataW H)) (p : List MemPlace), DataW.TrodAll enc C.prog W 0 (fun _ => true) true ts vs ds p → ds.length = ts.length := by
      intro ts
      induction ts with
      | nil => intro vs ds p h; obtain ⟨_, rfl, _⟩ := trodAll_nil h; rfl
      | cons t ts ih =>
        intro vs ds p h
        obtain ⟨v, vs1, d, ds1, a, b, rfl, rfl, rfl, _, h2⟩ := trodAll_cons h
        simp [ih _ _ _ h2]
    exact this _ _ _ _ hA
  refine (contract args.toList h1 W (st_start W)).mono ?_
  rintro e' W' ⟨v, M', Γ', rfl, ⟨rfl, rfl, rfl⟩, hw'⟩
  refine ⟨_, rfl, ?_⟩
  have hB := below_of hw'
  have hfn' := hspec ds hlen
  have hlt : ∀ x ∈ p, x.block < W.heap.size := fun x hx => hW'.lt x (by rw [hb]; exact List.mem_append_left _ hx)
  refine post_below (pa := p) (pv := []) hW' (fun b sp hd => ?_) (fun sp hsp => ?_) (fun sp _ => ?_) (by rw [hb]) hB (fun j t r hj hr => ?_)
  · rw [List.append_nil, hfn', hres]
    exact trodAll_mk1 (shut_bool htb true)
  · rw [List.append_nil, hfn']
    exact h2 W' sp hB hlt fun q hq => hsp q (by rw [hb, List.append_nil]; exact hq)
  · rw [List.append_nil, hfn', hvars]
    rfl
  · rw [hres] at hj hr
    have hj0 : j = 0 := by
      rcases Nat.eq_zero_or_pos j with h | h
      · exact h
      · rw [Array.getElem?_eq_none (by simp; omega)] at hj; cases hj
    subst hj0
    simp [Value.resultList] at hj hr
    subst hj hr
    exact okWide_bool_mk htb true
theorem sizeOf_sum {H : Type} : ∀ l : List (DataW H), (l.map SizeOf.sizeOf).sum + 1 ≤ SizeOf.sizeOf l
  | [] => by simp
  | x :: xs => by have := sizeOf_sum xs; simp only [List.map_cons, List.sum_cons, List.cons.sizeOf_spec]; omega
theorem bulk_sizeOf {H : Type} : BulkOk (H := H) SizeOf.sizeOf := ⟨fun l => by simp, by simp, fun els sp => by have := sizeOf_sum els; simp only [DataW.slice.sizeOf_spec]; omega, fun ps => by have := sizeOf_sum ps; simp only [DataW.agg.sizeOf_spec]; omega⟩
theorem le_sum {α : Type} (g : α → Nat) : ∀ {l : List α} {x : α}, x ∈ l → g x ≤ (l.map g).sum
  | y :: ys, x, h => by
    rw [List.map_cons, List.sum_cons]
    rcases List.mem_cons.1 h with rfl | h
    · omega
    · have := le_sum g h; omega
/-- A law over any such arguments, out of its walk. -/
theorem law_liftedW {H : Type} {enc : TypeId × Value → H} {C : Checked} {os : Os} {f : FuncId} {fn : Func} {s : ChangeSpec} {tb : TypeId} {fresh handsOn again : Bool} (ts0 : List TypeId) (own : ownKnob C.prog.godebug = none) (started : os.Started) (noInit : C.prog.inits.idxOf? f = none) (hfn : C.prog.funcs[f]? = some fn)
    (hcl : closedB C.prog ts0 = true) (hl : laidOutB C.prog = true) (htb : C.prog.underlying tb = some .bool)
    (hts : (fn.params.toList.all fun t => ts0.contains t && C.prog.readableRec t && Nat.blt t C.prog.types.size) = true) (hres : fn.resultTypes = #[tb]) (hvars : s.vars = []) (hspec : ∀ ds : List (DataW H), ds.length = fn.params.toList.length → s.fn H ds = { results := [.lit (.bool true)], args := ds, vars := [] })
    (witness : ∃ (w : World) (tape : Tape) (i : Input), w.os = os ∧ (w.forCall tape i).Shaped C.prog ∧ i.vars = [] ∧ Input.okWide C.prog (w.forCall tape i) .any w.heap.size f i ∧
      s.pre6 enc C.prog fn [] false (w.forCall tape i).memory i.args ∧ Assume.holds {} C.prog (lone (Frame.enter C.prog f i.args .normal) [] (w.forCall tape i)))
    (contract : ∀ (W : World) (vs : List Value), ArgsW C.prog (memOf W) fn.params.toList vs → CallOk C.prog W (memOf W) [] f vs.toArray (Is (memOf W) [] (.bool true))) :
    ReturnsInHanded {} C os f .any (s.pre6 enc C.prog fn [] false) (s.post enc C.prog fn false fresh handsOn again) := by
  refine returnsInHanded_of_change_sized own started noInit hfn witness ?_
  intro W base args ds gs before hval hW _ hsz _
  exact law_core bulk_sizeOf (ds.map SizeOf.sizeOf).sum ts0 hcl hl htb hts hres hvars hspec hval hW hsz (fun d hd => le_sum SizeOf.sizeOf hd) fun vs h => contract W vs h.toW
/-- .. where the arguments are of so many cells at the most. -/
theorem law_liftedU {H : Type} {enc : TypeId × Value → H} {C : Checked} {os : Os} {f : FuncId} {fn : Func} {s : ChangeSpec} {tb : TypeId} {fresh handsOn again : Bool} {k : (H : Type) → List (DataW H) → Bool} {bulk : DataW H → Nat} (hbk : BulkOk bulk) (bd : Nat) (hkb : ∀ ds : List (DataW H), k H ds = true → ∀ d ∈ ds, bulk d ≤ bd) {F : Stop.Interp} (ts0 : List TypeId) (own : ownKnob C.prog.godebug = none) (started : os.Started) (noInit : C.prog.inits.idxOf? f = none) (hfn : C.prog.funcs[f]? = some fn)
    (hcl : closedB C.prog ts0 = true) (hl : laidOutB C.prog = true) (htb : C.prog.underlying tb = some .bool)
    (hts : (fn.params.toList.all fun t => ts0.contains t && C.prog.readableRec t && Nat.blt t C.prog.types.size) = true) (hres : fn.resultTypes = #[tb]) (hvars : s.vars = []) (hspec : ∀ ds : List (DataW H), ds.length = fn.params.toList.length → s.fn H ds = { results := [.lit (.bool true)], args := ds, vars := [] })
    (witness : ∃ (w : World) (tape : Tape) (i : Input), w.os = os ∧ (w.forCall tape i).Shaped C.prog ∧ i.vars = [] ∧ Input.okWide C.prog (w.forCall tape i) .any w.heap.size f i ∧
      ({ OpenSpec.ofChange s with cond := some k } : OpenSpec).pre6 enc C.prog fn [] false (w.forCall tape i).memory i.args ∧ Assume.holds {} C.prog (lone (Frame.enter C.prog f i.args .normal) [] (w.forCall tape i)))
    (contract : ∀ (W : World) (vs : List Value), ArgsB C.prog (memOf W) bd fn.params.toList vs → CallOk C.prog W (memOf W) [] f vs.toArray (Is (memOf W) [] (.bool true))) :
    ReturnsInHanded {} C os f .any (({ OpenSpec.ofChange s with cond := some k } : OpenSpec).pre6 enc C.prog fn [] false) ((({ OpenSpec.ofChange s with cond := some k } : OpenSpec).at F).post enc C.prog fn false fresh handsOn again) := by
  refine returnsInHanded_of_cond_sized (k := k) rfl own started noInit hfn witness ?_
  intro W base args ds gs before hval hW _ hk hsz _
  exact law_core hbk bd ts0 hcl hl htb hts hres hvars hspec hval hW hsz (fun d hd => hkb _ hk d (List.mem_append_left _ hd)) fun vs h => contract W vs h
end Xe

/-
  THE ENGINE, PART R: facts found in what is known of the state; sums that may run over. No program in sight.
-/
namespace Xe
open Go

/-- What holds in whatever such state. -/
def Kn (w0 : World) (M : Mem) (Γ : List As) (F : Prop) : Prop := ∀ w, St w0 M Γ w → F
section
variable {P : Program} {w0 : World} {M : Mem} {Γ : List As} {F : Prop}
theorem Kn.rds {ds : List D} {us : List Value} (h : As.rds ds us ∈ Γ) : Kn w0 M Γ (RdL M ds us) := fun _ hw => hw.all _ h
theorem Kn.rd {d : D} {u : Value} (h : As.rd d u ∈ Γ) : Kn w0 M Γ (Rd M d u) := fun _ hw => hw.all _ h
theorem Kn.via {Γ' : List As} (hC : ∀ w, St w0 M Γ' w → St w0 M Γ w) (h : Kn w0 M Γ F) : Kn w0 M Γ' F := fun w hw => h w (hC w hw)
theorem Kn.of (h : F) : Kn w0 M Γ F := fun _ _ => h
theorem CallOk.kn {f : FuncId} {args : Array Value} {R : Post} (h : Kn w0 M Γ F) (k : F → CallOk P w0 M Γ f args R) : CallOk P w0 M Γ f args R := fun w hw => k (h w hw) w hw
theorem CallOk.perm {Γ' : List As} {f : FuncId} {args : Array Value} {R : Post} (hp : List.Perm Γ Γ') (h : CallOk P w0 M Γ' f args R) : CallOk P w0 M Γ f args R := fun w hw => h w (hw.perm hp)
theorem CW.kn {n : Nat} {c : Code} {X : Pst} {L : Lm} (h : Kn w0 M Γ F) (k : F → CW P n w0 c X L M Γ) : CW P n w0 c X L M Γ := CW.know h k
theorem RL.kn {n : Nat} {ops : Array Oper} {rest : List Oper} {L : Lm} {K : Lm → Mem → List As → Prop} (h : Kn w0 M Γ F) (k : F → RL P n w0 ops rest L M Γ K) : RL P n w0 ops rest L M Γ K := RL.know h k
theorem QL.kn {n : Nat} {ops : Array Oper} {C0 : List As} {rest : List Oper} {L : Lm} {K : Lm → List As → Prop} (h : Kn w0 M Γ F) (k : F → QL P n w0 ops C0 M rest L Γ K) : QL P n w0 ops C0 M rest L Γ K := QL.know h k
theorem RL.addRds {n : Nat} {ops : Array Oper} {rest : List Oper} {L : Lm} {K : Lm → Mem → List As → Prop} {es : List D} {us : List Value} (hr : RdL M es us) (h : RL P n w0 ops rest L M (.rds es us :: Γ) K) : RL P n w0 ops rest L M Γ K :=
  h.pre (fun _ _ h => h) fun _ hw => hw.add (x := .rds es us) hr rfl
theorem Turn.addRds {G : Mem → List As → Prop} {es : List D} {us : List Value} (hr : RdL M es us) (h : Turn w0 M (.rds es us :: Γ) G) : Turn w0 M Γ G := fun w hw => h w (hw.add (x := .rds es us) hr rfl)
theorem Turn.kn {G : Mem → List As → Prop} (h : Kn w0 M Γ F) (k : F → Turn w0 M Γ G) : Turn w0 M Γ G := fun w hw => k (h w hw) w hw
/-- A struct that is known by what it reads as, into a block of its own. -/
theorem RL.storeRds {n : Nat} {ops : Array Oper} {rest : List Oper} {L : Lm} {K : Lm → Mem → List As → Prop} {ty : TypeId} {pos : String} {af : Array Edge} {t : TypeId} {x y : Operand} {b e : Nat} {cs vs : List Value} {ds : List D} {Γ' : List As} (sz : Nat) (hx : evL L x = some (.pointer (some (adr (some ⟨b, 0, none⟩) 0)))) (hy : evL L y = some (.agg vs.toArray))
    (hr : Repl (.own b e cs) (.own b e vs) Γ Γ') (hm : As.rds ds vs ∈ Γ) (hd : ds.length = sz) (hc : Kn w0 M Γ (cs.length = sz)) (ht : sizeB P t sz = true)
    (h : RL P n w0 ops rest L M Γ' K) : RL P n w0 ops (⟨none, .store t x y, ty, pos, af, none⟩ :: rest) L M Γ K := by
  refine RL.kn (Kn.rds hm) fun hv => RL.kn hc fun hcs => ?_
  have hl : vs.length = sz := by rw [hv.1, hd]
  exact RL.storeAgg vs hx hy hr (by simp [hl, hcs]) (by omega) (fun _ _ => hv.one) (by rw [hl]; exact ht) h
theorem Kn.lenRds {ds : List D} {us : List Value} {sz : Nat} (h : As.rds ds us ∈ Γ) (hd : ds.length = sz) : Kn w0 M Γ (us.length = sz) := fun _ hw => by
  have := (hw.all _ h : RdL M ds us).1
  rw [this, hd]
theorem Kn.lenLit {us : List Value} {sz : Nat} (h : us.length = sz) : Kn w0 M Γ (us.length = sz) := fun _ _ => h
end

theorem wanted_undef {n : Nat} {L : Lm} {a : Act} {ops : Array Oper} {op : Op} {ty : TypeId} {pos : String} {after : Array Edge} {j : Nat} {want : Bool} {d : Option Nat} {t : Nat} (ha : Sat n L a) (ht : (ops[j]?).bind (·.dst) = some t) (hu : getL L t = some undef) : Region.wanted (⟨d, op, ty, pos, after, some (j, want)⟩ : Oper) (yielded ops a.tmps) = false := by
  have := ha.get t _ hu
  simp only [Region.wanted, yielded, ht, Option.bind_some, this]
  rfl
theorem RL_noU {P : Program} {n : Nat} {w0 : World} {ops : Array Oper} {rest : List Oper} {L : Lm} {M : Mem} {Γ : List As} {K : Lm → Mem → List As → Prop} {op : Op} {ty : TypeId} {pos : String} {after : Array Edge} {j : Nat} {want : Bool} {d t : Nat} (ht : (ops[j]?).bind (·.dst) = some t) (hu : getL L t = some undef) (hd : Nat.blt d n = true)
    (h : RL P n w0 ops rest ((d, undef) :: L) M Γ K) : RL P n w0 ops (⟨some d, op, ty, pos, after, some (j, want)⟩ :: rest) L M Γ K := by
  intro R hR a w ha hw
  have hn := wanted_undef (op := op) (ty := ty) (pos := pos) (after := after) (want := want) (d := some d) ha ht hu
  unfold wpList
  rw [if_neg (by rw [hn]; simp)]
  exact h R hR _ _ (ha.put hd) hw
theorem QL_noU {P : Program} {n : Nat} {w0 : World} {ops : Array Oper} {C0 : List As} {rest : List Oper} {L : Lm} {M : Mem} {Γ : List As} {K : Lm → List As → Prop} {op : Op} {ty : TypeId} {pos : String} {after : Array Edge} {j : Nat} {want : Bool} {d t : Nat} (ht : (ops[j]?).bind (·.dst) = some t) (hu : getL L t = some undef) (hd : Nat.blt d n = true)
    (h : QL P n w0 ops C0 M rest ((d, undef) :: L) Γ K) : QL P n w0 ops C0 M (⟨some d, op, ty, pos, after, some (j, want)⟩ :: rest) L Γ K := by
  intro hex hC R hR a ha
  have hn := wanted_undef (op := op) (ty := ty) (pos := pos) (after := after) (want := want) (d := some d) ha ht hu
  unfold wpQuiet
  rw [if_neg (by rw [hn]; simp)]
  exact h hex hC R hR _ (ha.put hd)

/-- Cells that are known in whatever such state. -/
def CellsK (w0 : World) (M : Mem) (Γ : List As) (p : Addr) (vs : List Value) : Prop := ∀ w, St w0 M Γ w → ∀ j v, vs[j]? = some v → w.cell? (p.add j) = some v
theorem CellsK.own {w0 : World} {M : Mem} {Γ : List As} {b e : Nat} {vs : List Value} (h : As.own b e vs ∈ Γ) : CellsK w0 M Γ (adr (some ⟨b, 0, none⟩) 0) vs := fun w hw j v hj => by
  rw [adr_add]
  have := hw.own_cell h hj
  simpa using this
theorem CellsK.mono {w0 : World} {M : Mem} {Γ Γ' : List As} {p : Addr} {vs : List Value} (h : CellsK w0 M Γ p vs) (hs : ∀ w, St w0 M Γ' w → St w0 M Γ w) : CellsK w0 M Γ' p vs := fun w hw => h w (hs w hw)
theorem Y.loadK {P : Program} {w0 : World} {L : Lm} {M : Mem} {Γ : List As} {d : Option Nat} {ty : TypeId} {pos : String} {af : Array Edge} {g : Option (Nat × Bool)} {x : Operand} {t : TypeId} {p : Addr} {vs : List Value} (hx : evL L x = some (.pointer (some p))) (hc : CellsK w0 M Γ p vs) (hf : aggB P t vs.length = true) :
    Yq P w0 L M Γ ⟨d, .load t x, ty, pos, af, g⟩ (.agg vs.toArray) := Y.loadAgg hx hf hc

/-- A beginning of a slice that is only read. -/
theorem Rd.takeN {M : Mem} {α : Type} {enc : α → List D} {sz : Nat} (he : ∀ x, (enc x).length = sz) {l : List α} {a : Option Addr} {c : Nat} (hr : Rd M (.sl l.length sz (l.flatMap enc)) (.slice a l.length c)) (k : Nat) (hk : k ≤ l.length) :
    Rd M (.sl (l.take k).length sz ((l.take k).flatMap enc)) (.slice a (l.take k).length c) := by
  have hc : l.length ≤ c := by obtain ⟨a', c', h1, h2, _⟩ := hr.slice; simp only [Value.slice.injEq] at h1; omega
  have h := Rd.cut hr 0 k c (Nat.zero_le _) (by omega) (Nat.le_refl _) hk
  rw [cut0, Nat.zero_mul, List.drop_zero, Nat.sub_zero] at h
  have hl : (l.take k).length = k := by rw [List.length_take]; omega
  rw [flat_takeN he] at h
  rw [hl]
  exact h

theorem enterCell3 {P : Program} {f : FuncId} {fn : Func} {c : Code} {args : List Value} {w0 : World} {M : Mem} {Γ : List As} {R : Post} {r s1 s2 n : Nat} {t : TypeId}
    (hf : P.funcs[f]? = some fn) (hb : fn.body = some c) (hn : fn.ntmps = n) (hr : fn.results = #[.cell r t, .tmp s1, .tmp s2]) (ha : Nat.ble args.length n = true)
    (h : ∀ w1, St w0 M Γ w1 → CW P n w0 c (fun e L M Γ => match e with
      | .ret | .normal => ∃ v1 v2, getL L s1 = some v1 ∧ getL L s2 = some v2 ∧ CellAt P w0 r t L M Γ (fun u => R (.tuple #[u, v1, v2]))
      | _ => False) (slotsOf 0 args) M Γ) : CallOk P w0 M Γ f args.toArray R := by
  intro w hw
  refine calls_of_wp hf hb ?_
  rw [hn]
  refine wp_mono (h w hw _ w (sat_start n args ha) hw) ?_
  rintro e a w' ⟨L, M1, Γ1, hX, h1, h2⟩
  cases e with
  | normal | ret =>
    obtain ⟨v1, v2, hs1, hs2, b, e, cs, hv, hm, hag, hi⟩ := hX
    obtain ⟨M', Γ', hR, hw'⟩ := hi w' h2
    refine ⟨h1.defers, .tuple #[.agg cs.toArray, v1, v2], ?_, _, M', Γ', rfl, hR, hw'⟩
    have e1 := h1.get r _ hv
    have f1 := h1.get s1 _ hs1
    have f2 := h1.get s2 _ hs2
    simp [results, hr, e1, f1, f2, asAddr, run_loadOwn h2 hm hag]
  | _ => exact hX.elim
theorem enterCell4 {P : Program} {f : FuncId} {fn : Func} {c : Code} {args : List Value} {w0 : World} {M : Mem} {Γ : List As} {R : Post} {r s1 s2 s3 n : Nat} {t : TypeId}
    (hf : P.funcs[f]? = some fn) (hb : fn.body = some c) (hn : fn.ntmps = n) (hr : fn.results = #[.cell r t, .tmp s1, .tmp s2, .tmp s3]) (ha : Nat.ble args.length n = true)
    (h : ∀ w1, St w0 M Γ w1 → CW P n w0 c (fun e L M Γ => match e with
      | .ret | .normal => ∃ v1 v2 v3, getL L s1 = some v1 ∧ getL L s2 = some v2 ∧ getL L s3 = some v3 ∧ CellAt P w0 r t L M Γ (fun u => R (.tuple #[u, v1, v2, v3]))
      | _ => False) (slotsOf 0 args) M Γ) : CallOk P w0 M Γ f args.toArray R := by
  intro w hw
  refine calls_of_wp hf hb ?_
  rw [hn]
  refine wp_mono (h w hw _ w (sat_start n args ha) hw) ?_
  rintro e a w' ⟨L, M1, Γ1, hX, h1, h2⟩
  cases e with
  | normal | ret =>
    obtain ⟨v1, v2, v3, hs1, hs2, hs3, b, e, cs, hv, hm, hag, hi⟩ := hX
    obtain ⟨M', Γ', hR, hw'⟩ := hi w' h2
    refine ⟨h1.defers, .tuple #[.agg cs.toArray, v1, v2, v3], ?_, _, M', Γ', rfl, hR, hw'⟩
    have e1 := h1.get r _ hv
    have f1 := h1.get s1 _ hs1
    have f2 := h1.get s2 _ hs2
    have f3 := h1.get s3 _ hs3
    simp [results, hr, e1, f1, f2, f3, asAddr, run_loadOwn h2 hm hag]
  | _ => exact hX.elim

/-! ### Sums that may run over -/
def w64 (z : Int) : Int := IntKind.i64.wrap z
theorem w64_eq (z : Int) : w64 z = (z + 9223372036854775808) % 18446744073709551616 - 9223372036854775808 := by
  unfold w64 IntKind.wrap
  simp only [IntKind.signed, IntKind.bits]
  simp
  split <;> omega
theorem w64_add (a b : Int) : w64 (w64 a + b) = w64 (a + b) := by simp only [w64_eq]; omega
theorem w64_add2 (a b : Int) : w64 (a + w64 b) = w64 (a + b) := by simp only [w64_eq]; omega
theorem w64_in {z : Int} (h : -9223372036854775808 ≤ z ∧ z ≤ 9223372036854775807) : w64 z = z := by rw [w64_eq]; omega
theorem w64_inI (z : Int) : InI (w64 z) := by unfold InI; rw [w64_eq]; omega
section
variable {P : Program} {w0 : World} {L : Lm} {M : Mem} {Γ : List As} {d : Option Nat} {ty : TypeId} {pos : String} {af : Array Edge} {g : Option (Nat × Bool)}
namespace Y
/-- The whole of a block of the call's own, known by what it reads as. -/
theorem loadAllR {x : Operand} {t : TypeId} {b e : Nat} {us : List Value} {ds : List D} {sz : Nat} (hx : evL L x = some (.pointer (some (adr (some ⟨b, 0, none⟩) 0)))) (hm : As.own b e us ∈ Γ) (hr : As.rds ds us ∈ Γ) (hl : ds.length = sz) (hf : aggB P t sz = true) :
    Yq P w0 L M Γ ⟨d, .load t x, ty, pos, af, g⟩ (.agg us.toArray) := fun n a w ha hw => by
  have h1 : RdL M ds us := hw.all _ hr
  exact Y.loadAll (sz := sz) hx hm (by rw [h1.1, hl]) hf n a w ha hw
theorem addW {x y : Operand} {m k : Int} {t : TypeId} (hx : evL L x = some (.int .i64 m)) (hy : evL L y = some (.int .i64 k)) :
    Yq P w0 L M Γ ⟨d, .binOp .add t x y t, ty, pos, af, g⟩ (.int .i64 (w64 (m + k))) := fun n a w ha _ => by
  simp [execOp, ha.ev hx, ha.ev hy, eqGuard, Go.binOp, Op.intArith, w64]
theorem subW {x y : Operand} {m k : Int} {t : TypeId} (hx : evL L x = some (.int .i64 m)) (hy : evL L y = some (.int .i64 k)) :
    Yq P w0 L M Γ ⟨d, .binOp .sub t x y t, ty, pos, af, g⟩ (.int .i64 (w64 (m - k))) := fun n a w ha _ => by
  simp [execOp, ha.ev hx, ha.ev hy, eqGuard, Go.binOp, Op.intArith, w64]
theorem negW {x : Operand} {m : Int} {t : TypeId} (hx : evL L x = some (.int .i64 m)) :
    Yq P w0 L M Γ ⟨d, .unOp .neg t x, ty, pos, af, g⟩ (.int .i64 (w64 (-m))) := fun n a w ha _ => by
  simp only [execOp, ha.ev hx, Op.unary, Op.intArith, w64]
  simp
end Y
end
/-! ### Short names of searches -/
theorem MM {α : Type} {x : α} {l : List α} (h : x ∈ l := by first | ((repeat (first | exact List.Mem.head _ | apply List.Mem.tail | apply List.mem_append_right)); done) | fail) : x ∈ l := h
theorem RP {x x' : As} {l l' : List As} (h : Repl x x' l l' := by first | ((repeat (first | exact Repl.here _ | apply Repl.there)); done) | fail) : Repl x x' l l' := h
theorem PK {x : As} {l l' : List As} (h : Pick x l l' := by first | ((repeat (first | exact Pick.here _ | apply Pick.there)); done) | fail) : Pick x l l' := h
theorem SB {l l' : List As} (h : List.Sublist l l' := by first | ((repeat (first | exact List.Sublist.refl _ | apply List.Sublist.cons_cons | apply List.Sublist.cons)); done) | fail) : List.Sublist l l' := h
theorem KR {p : Prop} (h : p := by kernel_rfl) : p := h
theorem WG {ops : Array Oper} {L : Lm} {o : Oper} {b : Bool} (h : Want ops L o b := by exact ⟨_, _, rfl, rfl, rfl⟩) : Want ops L o b := h
theorem AO {p : Prop} (h : p := by first | assumption | omega) : p := h
theorem OM {p : Prop} (h : p := by omega) : p := h
theorem SM {w0 : World} {M : Mem} {Γ : List As} {a : Option Addr} (h : ∀ w, St w0 M Γ w → a.isSome = true := by first | exact fun _ hw => hw.rd_some MM (by omega) | exact fun _ hw => (hw.acc_cell MM (by assumption)).1 | exact fun _ _ => rfl) : ∀ w, St w0 M Γ w → a.isSome = true := h
/-- Such slots, by their numbers. -/
def selL (L : Lm) : List Nat → Option Lm
  | [] => some []
  | k :: ks => match getL L k with
    | some v => match selL L ks with
      | some r => some ((k, v) :: r)
      | none => none
    | none => none
theorem Keep.sel {L : Lm} : ∀ {ks : List Nat} {L' : Lm}, selL L ks = some L' → Keep L L'
  | [], L', h => by simp only [selL, Option.some.injEq] at h; subst h; exact Keep.nil L
  | k :: ks, L', h => by
    simp only [selL] at h
    cases hv : getL L k with
    | none => rw [hv] at h; cases h
    | some v =>
      rw [hv] at h
      cases hr : selL L ks with
      | none => rw [hr] at h; cases h
      | some r =>
        rw [hr] at h
        obtain rfl := Option.some.inj h
        exact Keep.cons k hv (Keep.sel hr)
theorem CW.kp {P : Program} {n : Nat} {w0 : World} {c : Code} {X : Pst} {L L' : Lm} {M : Mem} {Γ : List As} (ks : List Nat) (hs : selL L ks = some L') (h : CW P n w0 c X L' M Γ) : CW P n w0 c X L M Γ := CW.keep (Keep.sel hs) h
theorem KP {L L' : Lm} (ks : List Nat) (hs : selL L ks = some L' := by rfl) : Keep L L' := Keep.sel hs
end Xe

/-
  THE ENGINE, PART S: bytes and words, labels without a jump, room that is asked for. No program in sight.
-/
namespace Xe
open Go

/-! ### Labels -/
def noGotoX (X : Pst) : Pst
  | .goto _, _, _, _ => False
  | e, L, M, Γ => X e L M Γ
theorem CW.scope {P : Program} {n : Nat} {w0 : World} {X : Pst} {L : Lm} {M : Mem} {Γ : List As} {c : Code} (h : CW P n w0 c (noGotoX X) L M Γ) : CW P n w0 (.scope c) X L M Γ := by
  intro a w ha hw
  refine wp_scope_straight (wp_mono (h a w ha hw) ?_)
  rintro e a w ⟨L, M, Γ, hX, h1, h2⟩
  cases e <;> first | exact hX.elim | exact ⟨L, M, Γ, hX, h1, h2⟩

/-- A region that turns two blocks. -/
theorem CW.regionHP2 {P : Program} {n : Nat} {w0 : World} {L : Lm} {M : Mem} {Γ : List As} {id : Nat} {X : Pst} {l : List Oper} {x y : As} {R R2 : List As} (hm : P.follows .mixedOrders = true) (hp : Pick x Γ R) (hp2 : Pick y R R2)
    (h : HL P n w0 l.toArray M R2 l.length (Array.replicate l.length false) L M Γ (X .normal)) : CW P n w0 (.region id l.toArray true) X L M Γ :=
  CW.regionH hm M R2 (fun _ hw => (((hw.perm hp.perm).sub (List.sublist_cons_self _ _)).perm hp2.perm).sub (List.sublist_cons_self _ _)) h

/-! ### Numbers of any kind -/
section
variable {P : Program} {w0 : World} {L : Lm} {M : Mem} {Γ : List As} {d : Option Nat} {ty : TypeId} {pos : String} {af : Array Edge} {g : Option (Nat × Bool)}
namespace Y
theorem lssK {ik : IntKind} {x y : Operand} {m k : Int} {t : TypeId} (hx : evL L x = some (.int ik m)) (hy : evL L y = some (.int ik k)) :
    Yq P w0 L M Γ ⟨d, .binOp .lss t x y t, ty, pos, af, g⟩ (.bool (decide (m < k))) := fun n a w ha _ => by
  simp [execOp, ha.ev hx, ha.ev hy, eqGuard, Go.binOp, Op.intCmp]
theorem gtrK {ik : IntKind} {x y : Operand} {m k : Int} {t : TypeId} (hx : evL L x = some (.int ik m)) (hy : evL L y = some (.int ik k)) :
    Yq P w0 L M Γ ⟨d, .binOp .gtr t x y t, ty, pos, af, g⟩ (.bool (decide (k < m))) := fun n a w ha _ => by
  simp [execOp, ha.ev hx, ha.ev hy, eqGuard, Go.binOp, Op.intCmp]
theorem eqlK {ik : IntKind} {x y : Operand} {m k : Int} {t : TypeId} (hx : evL L x = some (.int ik m)) (hy : evL L y = some (.int ik k)) :
    Yq P w0 L M Γ ⟨d, .binOp .eql t x y t, ty, pos, af, g⟩ (.bool (decide (m = k))) := fun n a w ha _ => by
  simp [execOp, ha.ev hx, ha.ev hy, eqGuard, Go.binOp, Op.intCmp]
  by_cases h : m = k <;> simp [h]
theorem neqK {ik : IntKind} {x y : Operand} {m k : Int} {t : TypeId} (hx : evL L x = some (.int ik m)) (hy : evL L y = some (.int ik k)) :
    Yq P w0 L M Γ ⟨d, .binOp .neq t x y t, ty, pos, af, g⟩ (.bool (decide (m ≠ k))) := fun n a w ha _ => by
  simp [execOp, ha.ev hx, ha.ev hy, eqGuard, Go.binOp, Op.intCmp]
  by_cases h : m = k <;> simp [h]
def intB (P : Program) (t : TypeId) (k : IntKind) : Bool := match P.underlying t with
  | some (.int k') => decide (k' = k)
  | _ => false
theorem intB_spec {t : TypeId} {k : IntKind} (h : intB P t k = true) : P.underlying t = some (.int k) := by
  unfold intB at h
  cases hu : P.underlying t with
  | none => simp [hu] at h
  | some dd =>
    rw [hu] at h
    cases dd <;> simp at h
    rw [h]
theorem convK {ik ik' : IntKind} {x : Operand} {m : Int} {s t : TypeId} (hs : intB P s ik = true) (ht : intB P t ik' = true) (hx : evL L x = some (.int ik m)) :
    Yq P w0 L M Γ ⟨d, .convert s t x, ty, pos, af, g⟩ (.int ik' (ik'.wrap m)) := fun n a w ha _ => by
  simp [execOp, ha.ev hx, Go.convert, run_underlying (intB_spec hs), run_underlying (intB_spec ht), Conv.intToInt]
theorem convTo {ik ik' : IntKind} {x : Operand} {m r : Int} {s t : TypeId} (hs : intB P s ik = true) (ht : intB P t ik' = true) (hx : evL L x = some (.int ik m)) (h : ik'.wrap m = r) :
    Yq P w0 L M Γ ⟨d, .convert s t x, ty, pos, af, g⟩ (.int ik' r) := h ▸ convK hs ht hx
end Y
end
theorem wrap_u8 (n : Int) : IntKind.u8.wrap n = n % 256 := by simp [IntKind.wrap, IntKind.bits, IntKind.signed]
theorem wrap_u64' (n : Int) : IntKind.u64.wrap n = n % 18446744073709551616 := IntKind.wrap_u64 n

/-! ### Bytes -/
abbrev vbyte (n : Nat) : Value := .int .u8 (n : Int)
abbrev dbyte (n : Nat) : D := .v (.int .u8 (n : Int))
abbrev vword (n : Nat) : Value := .int .u64 (n : Int)
abbrev byteV (l : List Nat) : List Value := l.map vbyte
def dbytes (l : List Nat) : D := .sl l.length 1 (l.map dbyte)
theorem dbyte_get {l : List Nat} {k : Nat} {n : Nat} (h : l[k]? = some n) : (l.map dbyte)[k * 1]? = some (dbyte n) := by simp [h]
theorem bytes_rd {M : Mem} (l : List Nat) : RdL M (l.map dbyte) (byteV l) := by
  have := RdL.vals (M := M) (vs := byteV l) (by
    intro v hv
    obtain ⟨z, _, rfl⟩ := List.mem_map.1 hv
    rfl)
  rw [byteV, List.map_map] at this
  exact this
theorem bytes_of_rd {M : Mem} : ∀ {l : List Nat} {us : List Value}, RdL M (l.map dbyte) us → us = byteV l
  | [], us, h => by have := h.1; exact List.eq_nil_of_length_eq_zero (by simpa using this)
  | n :: l, us, h => by
    cases us with
    | nil => have := h.1; simp at this
    | cons u us =>
      have h0 := h.2 0 (dbyte n) u rfl rfl
      simp only [Rd] at h0
      have h1 : RdL M (l.map dbyte) us := ⟨by have := h.1; simpa using this, fun k e x h1 h2 => h.2 (k + 1) e x (by simpa using h1) (by simpa using h2)⟩
      rw [bytes_of_rd h1, h0.1]; rfl
theorem bytes_one (l : List Nat) : ∀ u ∈ byteV l, u.oneCell' = true := fun u hu => by
  obtain ⟨z, _, rfl⟩ := List.mem_map.1 hu
  rfl
/-- A byte, or what is left to 255. -/
def flip8 (f a : Nat) : Nat := if f = 0 then a else 255 - a
theorem xor8_0 : ∀ n : Fin 256, bits .xor .u8 (n.val : Int) 0 = (n.val : Int) := by decide +kernel
theorem xor8_255 : ∀ n : Fin 256, bits .xor .u8 (n.val : Int) 255 = ((255 - n.val : Nat) : Int) := by decide +kernel
theorem flip8_lt {f a : Nat} (h : a < 256) : flip8 f a < 256 := by unfold flip8; split <;> omega
section
variable {P : Program} {w0 : World} {L : Lm} {M : Mem} {Γ : List As} {d : Option Nat} {ty : TypeId} {pos : String} {af : Array Edge} {g : Option (Nat × Bool)}
namespace Y
theorem xor8 {x y : Operand} {m f : Nat} {t : TypeId} (hx : evL L x = some (vbyte m)) (hy : evL L y = some (vbyte f)) (hm : m < 256) (hf : f = 0 ∨ f = 255) :
    Yq P w0 L M Γ ⟨d, .binOp .xor t x y t, ty, pos, af, g⟩ (vbyte (flip8 f m)) := fun n a w ha _ => by
  have e : bits .xor .u8 (m : Int) (f : Int) = ((flip8 f m : Nat) : Int) := by
    rcases hf with rfl | rfl
    · exact xor8_0 ⟨m, hm⟩
    · exact xor8_255 ⟨m, hm⟩
  simp only [execOp, ha.ev hx, ha.ev hy]
  simp [eqGuard, Go.binOp]
  rw [intBits_xor, e]
  simp
theorem not64 {x : Operand} {m : Nat} {t : TypeId} (hx : evL L x = some (vword m)) (hm : m < 18446744073709551616) :
    Yq P w0 L M Γ ⟨d, .unOp .xor t x, ty, pos, af, g⟩ (vword (18446744073709551615 - m)) := fun n a w ha _ => by
  have e : bits .xor .u64 (18446744073709551615 : Int) (m : Int) = ((18446744073709551615 - m : Nat) : Int) := by
    have h := bits_xor_u64_nat 18446744073709551615 m (by omega) hm
    have h2 : 18446744073709551615 ^^^ m = 18446744073709551615 - m := by
      have h3 : (BitVec.allOnes 64 ^^^ BitVec.ofNat 64 m).toNat = (~~~ BitVec.ofNat 64 m).toNat := by rw [BitVec.allOnes_xor]
      rw [BitVec.toNat_xor, BitVec.toNat_not, BitVec.toNat_allOnes, BitVec.toNat_ofNat, Nat.mod_eq_of_lt (by simpa using hm)] at h3
      simpa using h3
    rw [h2] at h
    exact h
  have hu : Op.unary .xor (.int .u64 (m : Int)) = Op.intBits .xor .u64 18446744073709551615 (m : Int) := rfl
  simp only [execOp, ha.ev hx, hu, intBits_xor, e]
  simp
theorem shl8 {x y : Operand} {m : Nat} {t t' : TypeId} (hx : evL L x = some (vword m)) (hy : evL L y = some (.int .u64 8)) :
    Yq P w0 L M Γ ⟨d, .binOp .shl t x y t', ty, pos, af, g⟩ (vword (m * 256 % 18446744073709551616)) := fun n a w ha _ => by
  have e : IntKind.u64.wrap ((m : Int) * 2 ^ (8 : Int).toNat) = ((m * 256 % 18446744073709551616 : Nat) : Int) := by
    rw [wrap_u64']; show ((m : Int) * 256) % _ = _; omega
  simp only [execOp, ha.ev hx, ha.ev hy]
  simp [eqGuard, Go.binOp]
  rw [shift_shl .u64 .u64 (m : Int) 8 (by decide) (by decide), e]
  simp
theorem shrN {ik : IntKind} {x y : Operand} {m : Nat} {s : Int} {t t' : TypeId} (j : Nat) (hx : evL L x = some (vword m)) (hy : evL L y = some (.int ik s)) (hs : s = (j : Int)) (hj : j ≤ 64) :
    Yq P w0 L M Γ ⟨d, .binOp .shr t x y t', ty, pos, af, g⟩ (vword (m / 2 ^ j)) := fun n a w ha _ => by
  subst hs
  have e : ((m : Int) / 2 ^ ((j : Int)).toNat) = ((m / 2 ^ j : Nat) : Int) := by
    rw [Int.toNat_natCast, Int.natCast_ediv]; congr 1 <;> simp
  simp only [execOp, ha.ev hx, ha.ev hy]
  simp [eqGuard, Go.binOp] <;> rw [shift_shr .u64 ik (m : Int) (j : Int) (by omega) (by simpa [IntKind.bits] using hj), e] <;> simp
theorem or8 {x y : Operand} {m c : Nat} {t : TypeId} (hx : evL L x = some (vword m)) (hy : evL L y = some (vword c)) (hm : m < 18446744073709551616) (h0 : m % 256 = 0) (hc : c < 256) :
    Yq P w0 L M Γ ⟨d, .binOp .or t x y t, ty, pos, af, g⟩ (vword (m + c)) := fun n a w ha _ => by
  have e : bits .or .u64 (m : Int) (c : Int) = ((m + c : Nat) : Int) := by
    rw [bits_or_u64_nat m c hm (by omega)]
    congr 1
    have h1 : m = (m / 256) <<< 8 := by rw [Nat.shiftLeft_eq]; omega
    rw [h1, ← Nat.shiftLeft_add_eq_or_of_lt (by simpa using hc)]
  simp only [execOp, ha.ev hx, ha.ev hy]
  simp [eqGuard, Go.binOp]
  rw [intBits_or, e]
  simp
end Y
end

/-! ### Room -/
theorem append_zeros {P : Program} {w0 w : World} {M : Mem} {Γ : List As} {t tn ty e sz bytes n : Nat} {kn : IntKind} (hE : ElemOk P t e sz bytes) (htn : P.underlying tn = some (.int kn)) (hw : St w0 M Γ w) (h0 : 0 < n) (hb : n * bytes ≤ 140737488355328) (hm : n ≤ lim) :
    ∃ b c us w', (Builtin.append_ #[t, tn] ty #[.slice none 0 0, .int .i64 n]).run P w = .ok (.slice (some ⟨b, 0, none⟩) n c) w' ∧ us.length = n * sz ∧ n ≤ c ∧ St w0 M (.acc (.slice (some ⟨b, 0, none⟩) n c) e sz n us :: Γ) w' := by
  obtain ⟨ht, ⟨i, z, hi, hz, hsize, hby, hzs⟩, hpos⟩ := hE
  subst hsize hby
  have hlm : lim = 140737488355328 := rfl
  have hr := Lib.run_append_nil_zeros (P := P) w t tn ty e i z .i64 kn ht htn hi hz n h0 hpos (by omega) (by omega)
  have hc1 := grownCap_ge w n 0 e
  have hc2 := grownCap_le_maxLen w n 0 e (by unfold maxLen; omega)
  refine ⟨w.heap.size, grownCap w n 0 e, (Builtin.zeroCells z.cells n).toList, _, hr, by rw [Array.length_toList, size_zeroCells, hzs], hc1, ?_⟩
  have h5 := (hw.draw (w.drawn + 1)).alloc e (Builtin.zeroCells z.cells n ++ Builtin.zeroCells z.cells (grownCap w n 0 e - n)).toList
  have h6 : St w0 M (.own w.heap.size e (Builtin.zeroCells z.cells n ++ Builtin.zeroCells z.cells (grownCap w n 0 e - n)).toList :: Γ) (w.drew.alloc (.cells (Builtin.zeroCells z.cells n ++ Builtin.zeroCells z.cells (grownCap w n 0 e - n)) e (0, 0))) := by
    have : (Builtin.zeroCells z.cells n ++ Builtin.zeroCells z.cells (grownCap w n 0 e - n)).toList.toArray = (Builtin.zeroCells z.cells n ++ Builtin.zeroCells z.cells (grownCap w n 0 e - n)) := by simp
    rw [this] at h5
    exact h5
  refine St.own_acc2 h6 (by rw [Array.length_toList, size_zeroCells, hzs]) ?_ ?_ hc1 hc2
  · rw [Array.toList_append, List.length_append, Array.length_toList, Array.length_toList, size_zeroCells, size_zeroCells, hzs, ← Nat.add_mul]
    congr 1
    omega
  · rw [Array.toList_append, List.take_append_of_le_length (by rw [Array.length_toList, size_zeroCells, hzs]; exact Nat.le_refl _), List.take_of_length_le (by rw [Array.length_toList, size_zeroCells, hzs]; exact Nat.le_refl _)]
theorem RL.appendZeros {P : Program} {n : Nat} {w0 : World} {ops : Array Oper} {rest : List Oper} {L : Lm} {M : Mem} {Γ : List As} {K : Lm → Mem → List As → Prop} {ty : TypeId} {pos : String} {af : Array Edge} {d : Nat} {t tn e sz bytes : Nat} {kn : IntKind} {x y : Operand} {z : Int} (k : Nat)
    (hE : ElemOk P t e sz bytes) (htn : P.underlying tn = some (.int kn)) (hx : evL L x = some (.slice none 0 0)) (hy : evL L y = some (.int .i64 z)) (hz : z = (k : Int)) (h0 : 0 < k) (hb : k * bytes ≤ 140737488355328) (hm : k ≤ lim) (hd : Nat.blt d n = true)
    (h : ∀ b c us, us.length = k * sz → k ≤ c → RL P n w0 ops rest ((d, .slice (some ⟨b, 0, none⟩) k c) :: L) M (.acc (.slice (some ⟨b, 0, none⟩) k c) e sz k us :: Γ) K) : RL P n w0 ops (⟨some d, .call ⟨.builtin .append, #[x, y], #[t, tn]⟩, ty, pos, af, none⟩ :: rest) L M Γ K := by
  subst hz
  refine RL.e (fun v M' Γ' => ∃ b c us, v = .slice (some ⟨b, 0, none⟩) k c ∧ us.length = k * sz ∧ k ≤ c ∧ M' = M ∧ Γ' = .acc v e sz k us :: Γ) (fun n a w ha hw => ?_) hd ?_
  · obtain ⟨b, c, us, w', h1, h2, h3, h4⟩ := append_zeros (P := P) (ty := ty) hE htn hw h0 hb hm
    refine ⟨_, w', M, _, ?_, ⟨b, c, us, rfl, h2, h3, rfl, rfl⟩, h4⟩
    simp [execOp, resolve, invoke, Go.builtin, ha.ev hx, ha.ev hy, h1]
  · rintro v M' Γ' ⟨b, c, us, rfl, h2, h3, rfl, rfl⟩
    exact h b c us h2 h3
section
variable {P : Program} {w0 : World} {L : Lm} {M : Mem} {Γ : List As} {d : Option Nat} {ty : TypeId} {pos : String} {af : Array Edge} {g : Option (Nat × Bool)}
theorem Y.cap {x : Operand} {t : TypeId} {a : Option Addr} {k c : Nat} {e : Nat} (hx : evL L x = some (.slice a k c)) (ht : P.underlying t = some (.slice e)) :
    Yq P w0 L M Γ ⟨d, .call ⟨.builtin .cap, #[x], #[t]⟩, ty, pos, af, g⟩ (.int .i64 (c : Int)) := fun n a w ha _ => by
  simp [execOp, resolve, invoke, Go.builtin, Builtin.cap_, ha.ev hx, run_underlying ht, goInt]
end
end Xe

/-
  THE ENGINE, PART T: tests whose outcome is known; bytes as text; text compared. No program in sight.
-/
namespace Xe
open Go

section
variable {P : Program} {n : Nat} {w0 : World} {ops : Array Oper} {rest : List Oper} {L : Lm} {M : Mem} {Γ : List As}
theorem Y.litB (b : Bool) {o : Oper} {v : Value} (h : Yq P w0 L M Γ o v) (e : v = .bool b) : Yq P w0 L M Γ o (.bool b) := e ▸ h
theorem CallOk.val {f : FuncId} {args : Array Value} {v v' : Value} (h : CallOk P w0 M Γ f args (Is M Γ v)) (e : v = v') : CallOk P w0 M Γ f args (Is M Γ v') := e ▸ h
/-- An operation whose guard lets it run is the operation without a guard. -/
theorem RL.unguard {op : Op} {ty : TypeId} {pos : String} {after : Array Edge} {g : Nat × Bool} {d : Option Nat} {K : Lm → Mem → List As → Prop} (hg : Want ops L ⟨d, op, ty, pos, after, some g⟩ true)
    (h : RL P n w0 ops (⟨d, op, ty, pos, after, none⟩ :: rest) L M Γ K) : RL P n w0 ops (⟨d, op, ty, pos, after, some g⟩ :: rest) L M Γ K := by
  intro R hR a w ha hw
  have h1 := h R hR a w ha hw
  unfold wpList at h1 ⊢
  rw [if_pos (hg.spec ha)]
  rw [if_pos (by simp [Region.wanted])] at h1
  exact h1
end
def strOf (ns : List Nat) : ByteArray := (ns.map fun k : Nat => (k : Int)).foldl (fun r z => r.push (UInt8.ofNat z.toNat)) ByteArray.empty
def byteB (P : Program) (src dst : TypeId) : Bool := match P.underlying src, P.underlying dst with
  | some (.slice e), some .string => match P.underlying e with
    | some (.int .u8) => true
    | _ => false
  | _, _ => false
theorem byteB_spec {P : Program} {src dst : TypeId} (h : byteB P src dst = true) : ∃ e, P.underlying src = some (.slice e) ∧ P.underlying e = some (.int .u8) ∧ P.underlying dst = some .string := by
  unfold byteB at h
  split at h
  · rename_i e h1 h2
    split at h
    · rename_i h3
      exact ⟨e, h1, h3, h2⟩
    · cases h
  · cases h
section
variable {P : Program} {w0 : World} {L : Lm} {M : Mem} {Γ : List As} {d : Option Nat} {ty : TypeId} {pos : String} {af : Array Edge} {g : Option (Nat × Bool)}
theorem toList_ne {s t : ByteArray} (h : ¬ s = t) : ¬ s.toList = t.toList := fun e => h (by
  rw [ByteArray.toList_eq, ByteArray.toList_eq] at e
  exact ByteArray.ext (Array.toList_inj.mp e))
namespace Y
theorem convS {x : Operand} {src dst : TypeId} {a : Addr} {m c : Nat} (ns : List Nat) (hx : evL L x = some (.slice (some a) m c)) (hn : ns.length = m) (hb : byteB P src dst = true)
    (hc : ∀ w, St w0 M Γ w → ∀ j v, (byteV ns)[j]? = some v → w.cell? (a.add j) = some v) : Yq P w0 L M Γ ⟨d, .convert src dst x, ty, pos, af, g⟩ (.string (strOf ns)) := fun n ac w ha hw => by
  obtain ⟨e, h1, h2, h3⟩ := byteB_spec hb
  have r1 := run_convert_bytes_string (P := P) w src dst e (some a) m c h1 h2 h3
  have r2 := run_bytesToString (P := P) w a m c (ns.map fun k : Nat => (k : Int)) (by
    have h := run_loadCells_list (P := P) w a (byteV ns) (hc w hw)
    rw [show (byteV ns).length = m by simp [hn]] at h
    rw [h]
    simp [List.map_map, Function.comp_def])
  simp only [execOp, ha.ev hx]
  simp only [Sem.run_bind, r1, r2]
  rfl
theorem convSRd {x : Operand} {src dst : TypeId} {a : Addr} {c : Nat} (ns : List Nat) (hx : evL L x = some (.slice (some a) ns.length c)) (hm : As.rd (dbytes ns) (.slice (some a) ns.length c) ∈ Γ) (hb : byteB P src dst = true) :
    Yq P w0 L M Γ ⟨d, .convert src dst x, ty, pos, af, g⟩ (.string (strOf ns)) := convS ns hx rfl hb fun w hw j v hj => by
  obtain ⟨k, hk, rfl⟩ : ∃ k, ns[j]? = some k ∧ vbyte k = v := by simpa using hj
  obtain ⟨u, h1, h2⟩ := hw.rd_cell (q := j) (e := dbyte k) hm (by simp [hk])
  have h3 := hw.cell h1
  simp only [dbyte, Rd] at h2
  rw [h2.1] at h3
  exact h3
theorem convSOwn {x : Operand} {src dst : TypeId} {b e m c : Nat} (ns : List Nat) (hx : evL L x = some (.slice (some ⟨b, 0, none⟩) m c)) (hn : ns.length = m) (hm : As.own b e (byteV ns) ∈ Γ) (hb : byteB P src dst = true) :
    Yq P w0 L M Γ ⟨d, .convert src dst x, ty, pos, af, g⟩ (.string (strOf ns)) := convS ns hx hn hb fun w hw j v hj => by
  exact hw.own_cell hm hj
theorem eqlS {x y : Operand} {s t : ByteArray} {u : TypeId} (hx : evL L x = some (.string s)) (hy : evL L y = some (.string t)) :
    Yq P w0 L M Γ ⟨d, .binOp .eql u x y u, ty, pos, af, g⟩ (.bool (decide (s = t))) := fun n a w ha _ => by
  simp [execOp, ha.ev hx, ha.ev hy, eqGuard, Go.binOp, Op.stringOp]
  by_cases h : s = t
  · simp [h]
  · simp [h, toList_ne h]
theorem neqS {x y : Operand} {s t : ByteArray} {u : TypeId} (hx : evL L x = some (.string s)) (hy : evL L y = some (.string t)) :
    Yq P w0 L M Γ ⟨d, .binOp .neq u x y u, ty, pos, af, g⟩ (.bool (decide (s ≠ t))) := fun n a w ha _ => by
  simp [execOp, ha.ev hx, ha.ev hy, eqGuard, Go.binOp, Op.stringOp]
  by_cases h : s = t
  · simp [h]
  · simp [h, toList_ne h]
end Y
end
end Xe

/-
  THE ENGINE, PART U: regions that draw their order, whose last operation waits for all the others and may turn what the others read. No program in sight.
-/
namespace Xe
open Go

/-- Operation fin waits for operation i. -/
def waitB (md : Region.Mode) (ops : Array Oper) (fin i : Nat) : Bool := i != fin && match ops[fin]? with
  | some o => o.after.any fun e => Region.binds md e && e.on == i
  | none => false
theorem waitB_spec {md : Region.Mode} {ops : Array Oper} {fin i : Nat} (h : waitB md ops fin i = true) : i ≠ fin ∧ ∃ o, ops[fin]? = some o ∧ ∃ e ∈ o.after, Region.binds md e = true ∧ e.on = i := by
  unfold waitB at h
  rw [Bool.and_eq_true] at h
  obtain ⟨h1, h2⟩ := h
  refine ⟨by simpa using h1, ?_⟩
  split at h2
  · rename_i o ho
    rw [Array.any_eq_true'] at h2
    obtain ⟨e, he, h3⟩ := h2
    rw [Bool.and_eq_true] at h3
    exact ⟨o, ho, e, he, h3.1, by simpa using h3.2⟩
  · cases h2

/-- Whatever order is drawn: S holds behind each operation but the last. -/
def wpAnyG (P : Program) (md : Region.Mode) (ops : Array Oper) (fin : Nat) (Q : Exit → Act → World → Prop) (S : World → Prop) : Nat → Array Bool → Act → World → Prop
  | 0, listed, a, w => Region.ready md ops listed = [] ∧ Q .normal a w
  | fuel + 1, listed, a, w => (Region.ready md ops listed = [] → Q .normal a w) ∧
    ∀ i ∈ Region.ready md ops listed, wpOp P ops Q i (fun a' w' => (i = fin ∨ S w') ∧ wpAnyG P md ops fin Q S fuel (listed.setIfInBounds i true) a' w') a w
section
variable {P : Program} {ops : Array Oper} {Q : Exit → Act → World → Prop} {md : Region.Mode} {S : World → Prop} {fin : Nat}
theorem wpAny_of_G : ∀ (fuel : Nat) (listed : Array Bool) (a : Act) (w : World), wpAnyG P md ops fin Q S fuel listed a w → wpAny P md ops Q fuel listed a w
  | 0, _, _, _, h => h
  | fuel + 1, _, _, _, h => ⟨h.1, fun i hi => wpOp_mono (fun a' w' h' => wpAny_of_G fuel _ a' w' h'.2) (h.2 i hi)⟩
theorem wpAnyG_all {rs : List Nat} {fuel : Nat} {listed : Array Bool} {a : Act} {w : World} (hr : Region.ready md ops listed = rs) (hne : rs ≠ [])
    (h : ∀ i ∈ rs, wpOp P ops Q i (fun a' w' => (i = fin ∨ S w') ∧ wpAnyG P md ops fin Q S fuel (listed.setIfInBounds i true) a' w') a w) : wpAnyG P md ops fin Q S (fuel + 1) listed a w :=
  ⟨fun h0 => absurd (hr ▸ h0) hne, hr ▸ h⟩
/-- Who may come up while i has not does not wait for i. -/
theorem not_waits {i j : Nat} {oj : Oper} {listed : Array Bool} (hoj : ops[j]? = some oj) (hi : i ∈ Region.ready md ops listed) (hj : j ∈ Region.ready md ops listed) : ∀ e ∈ oj.after, Region.binds md e = true → e.on ≠ i := by
  rintro e he hb rfl
  obtain ⟨_, o, ho, hall⟩ := mem_ready.1 hj
  obtain rfl : o = oj := by rw [hoj] at ho; exact (Option.some.inj ho).symm
  have h0 := (mem_ready.1 hi).1
  have h1 := hall e he hb
  cases hx : listed[e.on]? with
  | none => simp [hx] at h1
  | some b => cases b <;> simp_all
/-- What is quiet may be taken first: the last operation never comes before it. -/
theorem wpAnyG_first {i : Nat} {oi : Oper} {v : Value} (hi : ops[i]? = some oi) (hs : Region.noSelect ops = true) (hQ : ∀ c a w, Q (.panic c) (a.put oi.dst v) w → Q (.panic c) a w) (hwt : waitB md ops fin i = true)
    (fuel : Nat) (listed : Array Bool) (a : Act) (w : World)
    (hap : ∀ j oj, ops[j]? = some oj → j ≠ i → listed.getD j true = false → (∀ e ∈ oj.after, Region.binds md e = true → e.on ≠ i) → oi.apart ops oj = true)
    (hr : i ∈ Region.ready md ops listed) (hy : YieldsIf P ops S oi v a) (hS : S w)
    (H : wpAnyG P md ops fin Q S fuel (listed.setIfInBounds i true) (a.put oi.dst v) w) : wpAnyG P md ops fin Q S (fuel + 1) listed a w := by
  have hsel := Region.noSelect_spec hs
  obtain ⟨_, ofin, hofin, efin, hein, hebin, heon⟩ := waitB_spec hwt
  induction fuel generalizing listed a w with
  | zero =>
    refine wpAnyG_all rfl (List.ne_nil_of_mem hr) fun j hj => ?_
    rcases Decidable.em (j = i) with rfl | hji
    · exact hy.wpOp hi hS ⟨.inr hS, H⟩
    · exact absurd (H.1 ▸ ready_mono hj hji) List.not_mem_nil
  | succ fuel ih =>
    refine wpAnyG_all rfl (List.ne_nil_of_mem hr) fun j hj => ?_
    rcases Decidable.em (j = i) with rfl | hji
    · exact hy.wpOp hi hS ⟨.inr hS, H⟩
    obtain ⟨hun, oj, hoj, _⟩ := mem_ready.1 hj
    have hnw := not_waits hoj hr hj
    have hjf : j ≠ fin := by
      rintro rfl
      rw [hofin] at hoj
      cases hoj
      exact hnw efin hein hebin heon
    have hone := wpOp_putIf hoj (hap j oj hoj hji hun hnw) (hsel i oi · · hi) (hsel j oj · · hoj) hQ hy (H.2 j (ready_mono hj hji))
    refine wpOp_mono (fun a' w' ⟨k1, k2, k3⟩ => ?_) hone
    have hS' := k2.resolve_left hjf
    refine ⟨.inr hS', ih _ a' w' (fun k ok hk hki hl hno => hap k ok hk hki ?_ hno) (ready_mono hr (Ne.symm hji)) k1 hS' ?_⟩
    · rcases Decidable.em (j = k) with rfl | hjk
      · exact hun
      · rwa [getD_set_ne true hjk] at hl
    · rwa [Array.setIfInBounds_comm _ _ hji]
theorem wpAnyG_take {i : Nat} {oi : Oper} {v : Value} {fuel : Nat} {listed : Array Bool} {a : Act} {w : World} (hi : ops[i]? = some oi)
    (hs : Region.noSelect ops = true) (hf : (Region.free md ops listed i && waitB md ops fin i) = true) (hr : (Region.ready md ops listed).contains i = true)
    (hQ : ∀ c a w, Q (.panic c) (a.put oi.dst v) w → Q (.panic c) a w) (hy : YieldsIf P ops S oi v a) (hS : S w)
    (h : wpAnyG P md ops fin Q S fuel (listed.setIfInBounds i true) (a.put oi.dst v) w) : wpAnyG P md ops fin Q S (fuel + 1) listed a w := by
  rw [Bool.and_eq_true] at hf
  exact wpAnyG_first hi hs hQ hf.2 fuel listed a w (Region.free_spec hi hf.1) (by simpa using hr) hy hS h
theorem wpAnyG_done {listed : Array Bool} {a : Act} {w : World} (hr : Region.ready md ops listed = []) (h : Q .normal a w) : ∀ fuel, wpAnyG P md ops fin Q S fuel listed a w
  | 0 => ⟨hr, h⟩
  | _ + 1 => ⟨fun _ => h, by rw [hr]; simp⟩
end
def HG (fin : Nat) (P : Program) (n : Nat) (w0 : World) (ops : Array Oper) (Mc : Mem) (Γc : List As) (fuel : Nat) (listed : Array Bool) (L : Lm) (M : Mem) (Γ : List As) (K : Lm → Mem → List As → Prop) : Prop :=
  (∃ w, St w0 Mc Γc w) → ∀ R : Act → World → Prop, (∀ L M Γ, K L M Γ → ∀ a w, Sat n L a → St w0 M Γ w → R a w) →
  ∀ a w, Sat n L a → St w0 M Γ w → St w0 Mc Γc w → wpAnyG P .any ops fin (Norm R) (St w0 Mc Γc) fuel listed a w

section
variable {fin : Nat} {P : Program} {n : Nat} {w0 : World} {ops : Array Oper} {Mc : Mem} {Γc : List As} {fuel : Nat} {listed : Array Bool} {L : Lm} {M : Mem} {Γ : List As} {K : Lm → Mem → List As → Prop}
theorem HG.done (hr : Region.ready .any ops listed = []) (h : K L M Γ) : HG fin P n w0 ops Mc Γc fuel listed L M Γ K :=
  fun _ _ hR a w ha hw _ => wpAnyG_done hr (hR L M Γ h a w ha hw) fuel

/-- A quiet operation is taken first. -/
theorem HG.take (i : Nat) {op : Op} {ty : TypeId} {pos : String} {after : Array Edge} {g : Option (Nat × Bool)} {d : Nat} {v : Value} (hi : ops[i]? = some ⟨some d, op, ty, pos, after, g⟩) (hs : Region.noSelect ops = true) (hf : (Region.free .any ops listed i && waitB .any ops fin i) = true)
    (hr : (Region.ready .any ops listed).contains i = true) (hg : Want ops L ⟨some d, op, ty, pos, after, g⟩ true) (hy : Yq P w0 L Mc Γc ⟨some d, op, ty, pos, after, g⟩ v) (hd : Nat.blt d n = true)
    (h : HG fin P n w0 ops Mc Γc fuel (listed.setIfInBounds i true) ((d, v) :: L) M Γ K) : HG fin P n w0 ops Mc Γc (fuel + 1) listed L M Γ K :=
  fun hex R hR a w ha hw hc => wpAnyG_take hi hs hf hr (fun _ _ _ h => h) (.inl ⟨hg.spec ha, fun w hw => hy n a w ha hw⟩) hc (h hex R hR _ w (ha.put hd) hw hc)

theorem HG.takeNo (i : Nat) {op : Op} {ty : TypeId} {pos : String} {after : Array Edge} {g : Option (Nat × Bool)} {d : Nat} (hi : ops[i]? = some ⟨some d, op, ty, pos, after, g⟩) (hs : Region.noSelect ops = true) (hf : (Region.free .any ops listed i && waitB .any ops fin i) = true)
    (hr : (Region.ready .any ops listed).contains i = true) (hg : Want ops L ⟨some d, op, ty, pos, after, g⟩ false) (hd : Nat.blt d n = true)
    (h : HG fin P n w0 ops Mc Γc fuel (listed.setIfInBounds i true) ((d, undef) :: L) M Γ K) : HG fin P n w0 ops Mc Γc (fuel + 1) listed L M Γ K :=
  fun hex R hR _ w ha hw hc => wpAnyG_take hi hs hf hr (fun _ _ _ h => h) (.inr ⟨hg.spec ha, rfl⟩) hc (h hex R hR _ w (ha.put hd) hw hc)

/-- What is known of the class may be used. -/
theorem HG.know {F : Prop} (hF : ∀ w, St w0 Mc Γc w → F) (h : F → HG fin P n w0 ops Mc Γc fuel listed L M Γ K) : HG fin P n w0 ops Mc Γc fuel listed L M Γ K :=
  fun hex => h (let ⟨w, hw⟩ := hex; hF w hw) hex

/-- The class with a fact more on what is sealed. -/
theorem HG.more {Γc' : List As} (h1 : ∀ w, St w0 Mc Γc w ↔ St w0 Mc Γc' w) (h : HG fin P n w0 ops Mc Γc' fuel listed L M Γ K) : HG fin P n w0 ops Mc Γc fuel listed L M Γ K := by
  have e : St w0 Mc Γc = St w0 Mc Γc' := funext fun w => propext (h1 w)
  unfold HG at h ⊢
  rw [e]
  exact h

/-- The one operation that may come up. -/
theorem HG.step (i : Nat) {o : Oper} (hi : ops[i]? = some o) (hr : Region.ready .any ops listed = [i])
    (h : RL P n w0 ops [o] L M Γ (fun L' M' Γ' => ((∃ w, St w0 Mc Γc w) → ∀ w, St w0 M' Γ' w → St w0 Mc Γc w) ∧ HG fin P n w0 ops Mc Γc fuel (listed.setIfInBounds i true) L' M' Γ' K)) : HG fin P n w0 ops Mc Γc (fuel + 1) listed L M Γ K := by
  intro hex R hR a w ha hw hc
  refine wpAnyG_all hr (by simp) fun j hj => ?_
  simp only [List.mem_singleton] at hj
  subst hj
  exact wpOp_of_RL hi h (fun L' M' Γ' hK a' w' ha' hw' => ⟨.inr (hK.1 hex w' hw'), hK.2 hex R hR a' w' ha' hw' (hK.1 hex w' hw')⟩) ha hw

/-- One of two. -/
theorem HG.step2 (i j : Nat) {o o' : Oper} (hi : ops[i]? = some o) (hj : ops[j]? = some o') (hr : Region.ready .any ops listed = [i, j])
    (h : RL P n w0 ops [o] L M Γ (fun L' M' Γ' => ((∃ w, St w0 Mc Γc w) → ∀ w, St w0 M' Γ' w → St w0 Mc Γc w) ∧ HG fin P n w0 ops Mc Γc fuel (listed.setIfInBounds i true) L' M' Γ' K))
    (h' : RL P n w0 ops [o'] L M Γ (fun L' M' Γ' => ((∃ w, St w0 Mc Γc w) → ∀ w, St w0 M' Γ' w → St w0 Mc Γc w) ∧ HG fin P n w0 ops Mc Γc fuel (listed.setIfInBounds j true) L' M' Γ' K)) : HG fin P n w0 ops Mc Γc (fuel + 1) listed L M Γ K := by
  intro hex R hR a w ha hw hc
  refine wpAnyG_all hr (by simp) fun k hk => ?_
  simp only [List.mem_cons, List.not_mem_nil, or_false] at hk
  rcases hk with rfl | rfl
  · exact wpOp_of_RL hi h (fun L' M' Γ' hK a' w' ha' hw' => ⟨.inr (hK.1 hex w' hw'), hK.2 hex R hR a' w' ha' hw' (hK.1 hex w' hw')⟩) ha hw
  · exact wpOp_of_RL hj h' (fun L' M' Γ' hK a' w' ha' hw' => ⟨.inr (hK.1 hex w' hw'), hK.2 hex R hR a' w' ha' hw' (hK.1 hex w' hw')⟩) ha hw

/-- A quiet operation whose value is known by what it reads as. -/
theorem HG.takeX (i : Nat) {op : Op} {ty : TypeId} {pos : String} {after : Array Edge} {g : Option (Nat × Bool)} {d : Nat} (hi : ops[i]? = some ⟨some d, op, ty, pos, after, g⟩) (hs : Region.noSelect ops = true) (hf : (Region.free .any ops listed i && waitB .any ops fin i) = true)
    (hr : (Region.ready .any ops listed).contains i = true) (hg : Want ops L ⟨some d, op, ty, pos, after, g⟩ true) (F : Value → As → Prop) (hex : ∀ w, St w0 M Γc w → ∃ v x, F v x)
    (hF : ∀ v x, F v x → Yq P w0 L M Γc ⟨some d, op, ty, pos, after, g⟩ v ∧ x.blk = none ∧ ∀ w, x.ok M w) (hd : Nat.blt d n = true)
    (h : ∀ v x, F v x → HG fin P n w0 ops M (x :: Γc) fuel (listed.setIfInBounds i true) ((d, v) :: L) M (x :: Γ) K) : HG fin P n w0 ops M Γc (fuel + 1) listed L M Γ K := by
  refine HG.know hex ?_
  rintro ⟨v, x, hv⟩
  obtain ⟨h1, h2, h3⟩ := hF v x hv
  refine HG.take i hi hs hf hr hg h1 hd ?_
  have h4 := h v x hv
  refine HG.more (pure_iff h2 h3) ?_
  exact fun hex R hR a w ha hw hc => h4 hex R hR a w ha (hw.add (h3 w) h2) hc

theorem HG.loadSl (i : Nat) {x : Operand} {t : TypeId} {ty : TypeId} {pos : String} {af : Array Edge} {g : Option (Nat × Bool)} {d : Nat} {a : Option Addr} {q n0 sz0 l c n1 sz1 : Nat} {cs cs1 : List D} (hi : ops[i]? = some ⟨some d, .load t x, ty, pos, af, g⟩) (hs : Region.noSelect ops = true) (hf : (Region.free .any ops listed i && waitB .any ops fin i) = true)
    (hr : (Region.ready .any ops listed).contains i = true) (hg : Want ops L ⟨some d, .load t x, ty, pos, af, g⟩ true)
    (hx : evL L x = some (.pointer (some (adr a q)))) (hm : As.rd (.sl n0 sz0 cs) (.slice a l c) ∈ Γc) (hq : cs[q]? = some (.sl n1 sz1 cs1)) (hfl : flatB P t = true) (hd : Nat.blt d n = true)
    (h : ∀ a1 c1, n1 ≤ c1 → n1 ≤ 140737488355328 → HG fin P n w0 ops M (.rd (.sl n1 sz1 cs1) (.slice a1 n1 c1) :: Γc) fuel (listed.setIfInBounds i true) ((d, .slice a1 n1 c1) :: L) M (.rd (.sl n1 sz1 cs1) (.slice a1 n1 c1) :: Γ) K) :
    HG fin P n w0 ops M Γc (fuel + 1) listed L M Γ K := by
  refine HG.takeX i hi hs hf hr hg (fun v x => cellM M (adr a q) = some v ∧ Rd M (.sl n1 sz1 cs1) v ∧ x = .rd (.sl n1 sz1 cs1) v) (fun w hw => ?_) ?_ hd ?_
  · obtain ⟨u, h1, h2⟩ := hw.rd_cell hm hq
    exact ⟨u, _, h1, h2, rfl⟩
  · rintro v _ ⟨h1, h2, rfl⟩
    exact ⟨Y.load hx hfl fun w hw => hw.cell h1, rfl, fun _ => h2⟩
  · rintro v _ ⟨h1, h2, rfl⟩
    have hr' := h2
    simp only [Rd] at hr'
    obtain ⟨a1, c1, rfl, h3, _, h4, _⟩ := hr'
    exact h a1 c1 h3 h4

theorem HG.loadOwnSl (i : Nat) {x : Operand} {t : TypeId} {ty : TypeId} {pos : String} {af : Array Edge} {g : Option (Nat × Bool)} {d b e : Nat} {q n1 sz1 : Nat} {us : List Value} {ds cs1 : List D} (hi : ops[i]? = some ⟨some d, .load t x, ty, pos, af, g⟩) (hs : Region.noSelect ops = true) (hf : (Region.free .any ops listed i && waitB .any ops fin i) = true)
    (hr : (Region.ready .any ops listed).contains i = true) (hg : Want ops L ⟨some d, .load t x, ty, pos, af, g⟩ true)
    (hx : evL L x = some (.pointer (some (adr (some ⟨b, 0, none⟩) q)))) (hm : As.own b e us ∈ Γc) (hrd : As.rds ds us ∈ Γc) (hq : ds[q]? = some (.sl n1 sz1 cs1)) (hfl : flatB P t = true) (hd : Nat.blt d n = true)
    (h : ∀ a1 c1, us[q]? = some (.slice a1 n1 c1) → n1 ≤ c1 → n1 ≤ 140737488355328 → HG fin P n w0 ops M (.rd (.sl n1 sz1 cs1) (.slice a1 n1 c1) :: Γc) fuel (listed.setIfInBounds i true) ((d, .slice a1 n1 c1) :: L) M (.rd (.sl n1 sz1 cs1) (.slice a1 n1 c1) :: Γ) K) :
    HG fin P n w0 ops M Γc (fuel + 1) listed L M Γ K := by
  refine HG.takeX i hi hs hf hr hg (fun v x => us[q]? = some v ∧ Rd M (.sl n1 sz1 cs1) v ∧ x = .rd (.sl n1 sz1 cs1) v) (fun w hw => ?_) ?_ hd ?_
  · obtain ⟨u, h1, h2⟩ := RdL.get (hw.all _ hrd) hq
    exact ⟨u, _, h1, h2, rfl⟩
  · rintro v _ ⟨h1, h2, rfl⟩
    exact ⟨Y.load hx hfl fun w hw => hw.own_cell hm h1, rfl, fun _ => h2⟩
  · rintro v _ ⟨h1, h2, rfl⟩
    have hr' := h2
    simp only [Rd] at hr'
    obtain ⟨a1, c1, rfl, h3, _, h4, _⟩ := hr'
    exact h a1 c1 h1 h3 h4

theorem HG.loadAgg (i : Nat) {x : Operand} {t : TypeId} {ty : TypeId} {pos : String} {af : Array Edge} {g : Option (Nat × Bool)} {d : Nat} {a : Option Addr} {q sz n0 sz0 l c : Nat} {cs ds : List D} (hi : ops[i]? = some ⟨some d, .load t x, ty, pos, af, g⟩) (hs : Region.noSelect ops = true) (hf : (Region.free .any ops listed i && waitB .any ops fin i) = true)
    (hr : (Region.ready .any ops listed).contains i = true) (hg : Want ops L ⟨some d, .load t x, ty, pos, af, g⟩ true)
    (hx : evL L x = some (.pointer (some (adr a q)))) (hm : As.rd (.sl n0 sz0 cs) (.slice a l c) ∈ Γc) (hq : (cs.drop q).take sz = ds) (hl : ds.length = sz) (hag : aggB P t sz = true) (hd : Nat.blt d n = true)
    (h : ∀ us, us.length = sz → RdL M ds us → HG fin P n w0 ops M (.rds ds us :: Γc) fuel (listed.setIfInBounds i true) ((d, .agg us.toArray) :: L) M (.rds ds us :: Γ) K) :
    HG fin P n w0 ops M Γc (fuel + 1) listed L M Γ K := by
  refine HG.takeX i hi hs hf hr hg (fun v x => ∃ us, v = .agg us.toArray ∧ x = .rds ds us ∧ RdL M ds us ∧ ∀ j v, us[j]? = some v → cellM M (adr a (q + j)) = some v) (fun w hw => ?_) ?_ hd ?_
  · obtain ⟨us, h1, h2⟩ := cells_of (M := M) (a := a) (q := q) (ds := ds) (fun j e hj => hw.rd_cell hm (sub_get hq hj))
    exact ⟨_, _, us, rfl, rfl, h1, h2⟩
  · rintro _ _ ⟨us, rfl, rfl, h1, h2⟩
    refine ⟨Y.loadAgg hx (by rw [h1.1, hl]; exact hag) fun w hw j v hj => ?_, rfl, fun _ => h1⟩
    rw [adr_add]
    exact hw.cell (h2 j v hj)
  · rintro _ _ ⟨us, rfl, rfl, h1, h2⟩
    exact h us (by rw [h1.1, hl]) h1

theorem HG.step3 (i j k : Nat) {oi oj ok : Oper} (hi : ops[i]? = some oi) (hj : ops[j]? = some oj) (hk : ops[k]? = some ok) (hr : Region.ready .any ops listed = [i, j, k])
    (gi : RL P n w0 ops [oi] L M Γ (fun L' M' Γ' => ((∃ w, St w0 Mc Γc w) → ∀ w, St w0 M' Γ' w → St w0 Mc Γc w) ∧ HG fin P n w0 ops Mc Γc fuel (listed.setIfInBounds i true) L' M' Γ' K))
    (gj : RL P n w0 ops [oj] L M Γ (fun L' M' Γ' => ((∃ w, St w0 Mc Γc w) → ∀ w, St w0 M' Γ' w → St w0 Mc Γc w) ∧ HG fin P n w0 ops Mc Γc fuel (listed.setIfInBounds j true) L' M' Γ' K))
    (gk : RL P n w0 ops [ok] L M Γ (fun L' M' Γ' => ((∃ w, St w0 Mc Γc w) → ∀ w, St w0 M' Γ' w → St w0 Mc Γc w) ∧ HG fin P n w0 ops Mc Γc fuel (listed.setIfInBounds k true) L' M' Γ' K)) : HG fin P n w0 ops Mc Γc (fuel + 1) listed L M Γ K := by
  intro hex R hR a w ha hw hc
  refine wpAnyG_all hr (by simp) fun x hx => ?_
  simp only [List.mem_cons, List.not_mem_nil, or_false] at hx
  rcases hx with rfl | rfl | rfl
  · exact wpOp_of_RL hi gi (fun L' M' Γ' hK a' w' ha' hw' => ⟨.inr (hK.1 hex w' hw'), hK.2 hex R hR a' w' ha' hw' (hK.1 hex w' hw')⟩) ha hw
  · exact wpOp_of_RL hj gj (fun L' M' Γ' hK a' w' ha' hw' => ⟨.inr (hK.1 hex w' hw'), hK.2 hex R hR a' w' ha' hw' (hK.1 hex w' hw')⟩) ha hw
  · exact wpOp_of_RL hk gk (fun L' M' Γ' hK a' w' ha' hw' => ⟨.inr (hK.1 hex w' hw'), hK.2 hex R hR a' w' ha' hw' (hK.1 hex w' hw')⟩) ha hw
theorem HG.step4 (i j k l : Nat) {oi oj ok ol : Oper} (hi : ops[i]? = some oi) (hj : ops[j]? = some oj) (hk : ops[k]? = some ok) (hl : ops[l]? = some ol) (hr : Region.ready .any ops listed = [i, j, k, l])
    (gi : RL P n w0 ops [oi] L M Γ (fun L' M' Γ' => ((∃ w, St w0 Mc Γc w) → ∀ w, St w0 M' Γ' w → St w0 Mc Γc w) ∧ HG fin P n w0 ops Mc Γc fuel (listed.setIfInBounds i true) L' M' Γ' K))
    (gj : RL P n w0 ops [oj] L M Γ (fun L' M' Γ' => ((∃ w, St w0 Mc Γc w) → ∀ w, St w0 M' Γ' w → St w0 Mc Γc w) ∧ HG fin P n w0 ops Mc Γc fuel (listed.setIfInBounds j true) L' M' Γ' K))
    (gk : RL P n w0 ops [ok] L M Γ (fun L' M' Γ' => ((∃ w, St w0 Mc Γc w) → ∀ w, St w0 M' Γ' w → St w0 Mc Γc w) ∧ HG fin P n w0 ops Mc Γc fuel (listed.setIfInBounds k true) L' M' Γ' K))
    (gl : RL P n w0 ops [ol] L M Γ (fun L' M' Γ' => ((∃ w, St w0 Mc Γc w) → ∀ w, St w0 M' Γ' w → St w0 Mc Γc w) ∧ HG fin P n w0 ops Mc Γc fuel (listed.setIfInBounds l true) L' M' Γ' K)) : HG fin P n w0 ops Mc Γc (fuel + 1) listed L M Γ K := by
  intro hex R hR a w ha hw hc
  refine wpAnyG_all hr (by simp) fun x hx => ?_
  simp only [List.mem_cons, List.not_mem_nil, or_false] at hx
  rcases hx with rfl | rfl | rfl | rfl
  · exact wpOp_of_RL hi gi (fun L' M' Γ' hK a' w' ha' hw' => ⟨.inr (hK.1 hex w' hw'), hK.2 hex R hR a' w' ha' hw' (hK.1 hex w' hw')⟩) ha hw
  · exact wpOp_of_RL hj gj (fun L' M' Γ' hK a' w' ha' hw' => ⟨.inr (hK.1 hex w' hw'), hK.2 hex R hR a' w' ha' hw' (hK.1 hex w' hw')⟩) ha hw
  · exact wpOp_of_RL hk gk (fun L' M' Γ' hK a' w' ha' hw' => ⟨.inr (hK.1 hex w' hw'), hK.2 hex R hR a' w' ha' hw' (hK.1 hex w' hw')⟩) ha hw
  · exact wpOp_of_RL hl gl (fun L' M' Γ' hK a' w' ha' hw' => ⟨.inr (hK.1 hex w' hw'), hK.2 hex R hR a' w' ha' hw' (hK.1 hex w' hw')⟩) ha hw
/-- The last operation. -/
theorem HG.last (i : Nat) {o : Oper} (hi : ops[i]? = some o) (hf : Region.ready .any ops listed = [i] ∧ i = fin) (hd : Region.ready .any ops (listed.setIfInBounds i true) = [])
    (h : RL P n w0 ops [o] L M Γ K) : HG fin P n w0 ops Mc Γc (fuel + 1) listed L M Γ K := by
  intro hex R hR a w ha hw hc
  refine wpAnyG_all hf.1 (by simp) fun j hj => ?_
  simp only [List.mem_singleton] at hj
  subst hj
  exact wpOp_of_RL hi h (fun L' M' Γ' hK a' w' ha' hw' => ⟨.inl hf.2, wpAnyG_done hd (hR L' M' Γ' hK a' w' ha' hw') fuel⟩) ha hw
theorem CW.regionG (fin : Nat) {id : Nat} {X : Pst} {l : List Oper} (hm : P.follows .mixedOrders = true) (Mc : Mem) (Γc : List As) (hc : ∀ w, St w0 M Γ w → St w0 Mc Γc w)
    (h : HG fin P n w0 l.toArray Mc Γc l.length (Array.replicate l.length false) L M Γ (X .normal)) : CW P n w0 (.region id l.toArray true) X L M Γ := by
  intro a w ha hw
  have hw' := hw.draw (w.drawn + 1)
  have h1 := h ⟨_, hc _ hw'⟩ (fun a w => Real n w0 X .normal a w) (fun L M Γ hX a w ha hw => ⟨L, M, Γ, hX, ha, hw⟩) a _ ha hw' (hc _ hw')
  have h2 : (Code.region id l.toArray true).wp P (Norm (fun a w => Real n w0 X .normal a w)) a w := wp_region_any hm (wpAny_of_G _ _ _ _ (by simpa using h1))
  refine wp_mono h2 fun e a w he => ?_
  cases e <;> first | exact he | exact he.elim
theorem CW.regionGP (fin : Nat) {id : Nat} {X : Pst} {l : List Oper} {x : As} {R : List As} (hm : P.follows .mixedOrders = true) (hp : Pick x Γ R)
    (h : HG fin P n w0 l.toArray M R l.length (Array.replicate l.length false) L M Γ (X .normal)) : CW P n w0 (.region id l.toArray true) X L M Γ :=
  CW.regionG fin hm M R (fun _ hw => (hw.perm hp.perm).sub (List.sublist_cons_self _ _)) h
end
end Xe

/-
  THE ENGINE, PART V: what values of a type read as, struct by struct. No program in sight.
-/
namespace Xe
open Go

/-- Readings of such types, one behind the other. -/
def WTs (P : Program) (n : Nat) : List TypeId → List D → Prop
  | [], ds => ds = []
  | t :: ts, ds => ∃ a b, ds = a ++ b ∧ WT P n t a ∧ WTs P n ts b
def strB (P : Program) (t : TypeId) (tys : List TypeId) : Bool := match P.underlying t with
  | some (.struct fs) => contigB P 0 fs.toList (P.cellsOf t) && decide (fs.toList.map (·.type) = tys)
  | _ => false
def slcB (P : Program) (t e sz : Nat) : Bool := match P.underlying t with
  | some (.slice e') => Nat.beq e' e && Nat.beq (P.cellsOf e) sz
  | _ => false
def txtB (P : Program) (t : TypeId) : Bool := match P.underlying t with
  | some .string => true
  | _ => false
theorem WTs.of_fields {P : Program} {n : Nat} : ∀ (fs : List Field) (off tot : Nat) (ds : List D), contigB P off fs tot = true → ds.length + off = tot →
    (∀ f ∈ fs, WT P n f.type ((ds.drop (f.offset - off)).take (P.cellsOf f.type))) → WTs P n (fs.map (·.type)) ds
  | [], off, tot, ds, h, hl, _ => by
    have := Nat.eq_of_beq_eq_true h
    exact List.eq_nil_of_length_eq_zero (by omega)
  | f :: fs, off, tot, ds, h, hl, hf => by
    simp only [contigB, Bool.and_eq_true] at h
    have h0 := Nat.eq_of_beq_eq_true h.1
    have hle := contig_le h.2
    have hs : P.cellsOf f.type ≤ ds.length := by omega
    refine ⟨ds.take (P.cellsOf f.type), ds.drop (P.cellsOf f.type), (List.take_append_drop _ _).symm, ?_, WTs.of_fields fs (off + P.cellsOf f.type) tot _ h.2 (by rw [List.length_drop]; omega) fun g hg => ?_⟩
    · have := hf f (List.mem_cons_self ..)
      rwa [h0, Nat.sub_self, List.drop_zero] at this
    · have h1 := hf g (List.mem_cons_of_mem _ hg)
      have h2 := hle.2 g hg
      rw [List.drop_drop, show P.cellsOf f.type + (g.offset - (off + P.cellsOf f.type)) = g.offset - off from by omega]
      exact h1
section
variable {P : Program} {n : Nat} {t : TypeId} {ds : List D}
theorem WT.fields {tys : List TypeId} (h : WT P n t ds) (hs : strB P t tys = true) : ∃ m, n = m + 1 ∧ WTs P m tys ds := by
  cases n with
  | zero => exact h.elim
  | succ m =>
    unfold strB at hs
    split at hs
    · rename_i fs hu
      rw [Bool.and_eq_true, decide_eq_true_eq] at hs
      simp only [WT, hu] at h
      obtain ⟨hc, rfl⟩ := hs
      exact ⟨m, rfl, WTs.of_fields fs.toList 0 _ ds hc (by rw [h.1]; rfl) fun f hf => by simpa using h.2 f hf⟩
    · cases hs
theorem WT.elems {e sz : Nat} (h : WT P n t ds) (hs : slcB P t e sz = true) : ∃ m, n = m + 1 ∧ ∃ els : List (List D), ds = [.sl els.length sz els.flatten] ∧ els.length ≤ lim ∧ ∀ x ∈ els, WT P m e x := by
  cases n with
  | zero => exact h.elim
  | succ m =>
    unfold slcB at hs
    split at hs
    · rename_i e' hu
      rw [Bool.and_eq_true] at hs
      obtain rfl := Nat.eq_of_beq_eq_true hs.1
      obtain rfl := Nat.eq_of_beq_eq_true hs.2
      simp only [WT, hu] at h
      exact ⟨m, rfl, h⟩
    · cases hs
theorem WT.int (h : WT P n t ds) (hs : Y.intB P t .i64 = true) : ∃ z, ds = [dint z] ∧ InI z := by
  have hu := Y.intB_spec hs
  cases n with
  | zero => exact h.elim
  | succ m =>
    simp only [WT, hu] at h
    obtain ⟨z, rfl, hz⟩ := h
    exact ⟨z, rfl, inI_of hz⟩
theorem WT.text (h : WT P n t ds) (hs : txtB P t = true) : ∃ s, ds = [dstr s] := by
  cases n with
  | zero => exact h.elim
  | succ m =>
    unfold txtB at hs
    split at hs
    · rename_i hu
      simp only [WT, hu] at h
      obtain ⟨s, rfl, _⟩ := h
      exact ⟨s, rfl⟩
    · cases hs
end
theorem elems_of {α : Type} {enc : α → List D} {Q : α → Prop} : ∀ {els : List (List D)}, (∀ x ∈ els, ∃ a, x = enc a ∧ Q a) → ∃ l : List α, els.length = l.length ∧ els.flatten = l.flatMap enc ∧ ∀ a ∈ l, Q a
  | [], _ => ⟨[], rfl, rfl, fun a h => by cases h⟩
  | x :: xs, h => by
    obtain ⟨a, rfl, hq⟩ := h x (List.mem_cons_self ..)
    obtain ⟨l, h1, h2, h3⟩ := elems_of fun y hy => h y (List.mem_cons_of_mem _ hy)
    refine ⟨a :: l, by simp [h1], by simp [h2], fun b hb => ?_⟩
    rcases List.mem_cons.1 hb with rfl | hb
    · exact hq
    · exact h3 b hb
end Xe

/-
  THE ENGINE, PART W: a struct stored into an element of a slice that is being grown; readings split. No program in sight.
-/
namespace Xe
open Go
theorem run_storeCells_acc {P : Program} {w0 : World} {M : Mem} {Γ : List As} {a : Option Addr} {n c e sz q : Nat} : ∀ (vs : List Value) (i : Nat) (w : World) (us : List Value), St w0 M (.acc (.slice a n c) e sz n us :: Γ) w → q + i + vs.length ≤ us.length → (∀ v ∈ vs, v.oneCell' = true) →
    ∃ w', (storeCells (adr a q) vs i).run P w = .ok () w' ∧ St w0 M (.acc (.slice a n c) e sz n (us.take (q + i) ++ vs ++ us.drop (q + i + vs.length)) :: Γ) w'
  | [], i, w, us, hw, _, _ => ⟨w, by simp [storeCells], by simpa using hw⟩
  | v :: vs, i, w, us, hw, hl, h1 => by
    simp only [List.length_cons] at hl
    obtain ⟨k1, k2, k3⟩ := hw.setAcc (q := q + i) (v := v) (by omega)
    obtain ⟨w', r1, r2⟩ := run_storeCells_acc (q := q) vs (i + 1) _ _ k1 (by simp; omega) (fun x hx => h1 x (List.mem_cons_of_mem _ hx))
    have h3 : (Go.store ((adr a q).add i) v).run P w = .ok () (w.setCell (adr a (q + i)) v) := by
      rw [adr_add, run_store P w _ v _ (h1 v (List.mem_cons_self ..))]
      cases hc : w.cell? (adr a (q + i)) with
      | none => rw [hc] at k2; cases k2
      | some z => simp [k3]
    refine ⟨w', by simp [storeCells, h3]; exact r1, ?_⟩
    have he : (us.set (q + i) v).take (q + (i + 1)) ++ vs ++ (us.set (q + i) v).drop (q + (i + 1) + vs.length) = us.take (q + i) ++ v :: vs ++ us.drop (q + i + (v :: vs).length) := by
      have hk : q + i < us.length := by omega
      have e1 : (us.set (q + i) v).take (q + (i + 1)) = us.take (q + i) ++ [v] := by
        rw [← Nat.add_assoc, List.take_succ_eq_append_getElem (by simpa using hk), List.take_set, List.set_eq_of_length_le (by rw [List.length_take]; omega), List.getElem_set_self]
      have e2 : (us.set (q + i) v).drop (q + (i + 1) + vs.length) = us.drop (q + i + (v :: vs).length) := by
        rw [List.drop_set, if_pos (by omega)]
        congr 1
        simp only [List.length_cons]; omega
      rw [e1, e2]
      simp
    rw [he] at r2
    exact r2
theorem RL_storeAggAcc {P : Program} {n : Nat} {w0 : World} {ops : Array Oper} {rest : List Oper} {L : Lm} {M : Mem} {Γ : List As} {K : Lm → Mem → List As → Prop} {ty : TypeId} {pos : String} {af : Array Edge} {t : TypeId} {x y : Operand} {a : Option Addr} {m c e sz q : Nat} {us vs : List Value} (us' : List Value) (hx : evL L x = some (.pointer (some (adr a q)))) (hy : evL L y = some (.agg vs.toArray))
    (hs : us.take q ++ vs ++ us.drop (q + vs.length) = us') (hq : q + vs.length ≤ us.length) (h1 : ∀ v ∈ vs, v.oneCell' = true) (ht : sizeB P t vs.length = true)
    (h : RL P n w0 ops rest L M (.acc (.slice a m c) e sz m us' :: Γ) K) : RL P n w0 ops (⟨none, .store t x y, ty, pos, af, none⟩ :: rest) L M (.acc (.slice a m c) e sz m us :: Γ) K := by
  refine RL.s (Γ' := .acc (.slice a m c) e sz m us' :: Γ) (fun n a' w ha hw => ?_) h
  subst hs
  obtain ⟨w', r1, r2⟩ := run_storeCells_acc (P := P) vs 0 w us hw (by simpa using hq) h1
  refine ⟨w', ?_, by simpa using r2⟩
  simp [execOp, ha.ev hx, ha.ev hy, Instr.storeAt, Instr.sureAddr, storeVar, Value.cells, run_sizeB ht, r1]
theorem RL.front {P : Program} {n : Nat} {w0 : World} {ops : Array Oper} {rest : List Oper} {L : Lm} {M : Mem} {Γ R : List As} {K : Lm → Mem → List As → Prop} {x : As} (hp : Pick x Γ R) (h : RL P n w0 ops rest L M (x :: R) K) : RL P n w0 ops rest L M Γ K := RL.perm hp.perm h
theorem RdL.split {M : Mem} {ds es : List D} {us : List Value} (h : RdL M (ds ++ es) us) : RdL M ds (us.take ds.length) ∧ RdL M es (us.drop ds.length) := by
  have hl := h.1
  rw [List.length_append] at hl
  have h1 := h.cut 0 ds.length
  have h2 := h.cut ds.length es.length
  rw [List.drop_zero, List.drop_zero, List.take_left] at h1
  rw [List.drop_left, List.take_length, List.take_of_length_le (by rw [List.length_drop]; omega)] at h2
  exact ⟨h1, h2⟩
theorem partGet {us uk : List Value} {q n : Nat} (h : uk = (us.drop q).take n) {j : Nat} {v : Value} (hj : uk[j]? = some v) : us[q + j]? = some v := by
  rw [h] at hj
  have hjn : j < n := by
    rcases Nat.lt_or_ge j n with h | h
    · exact h
    · rw [List.getElem?_eq_none (by simp; omega)] at hj; cases hj
  rwa [List.getElem?_take_of_lt hjn, List.getElem?_drop] at hj
theorem flatLen {α : Type} {enc : α → List D} {sz : Nat} (he : ∀ x, (enc x).length = sz) : ∀ l : List α, (l.flatMap enc).length = l.length * sz
  | [] => by simp
  | x :: xs => by rw [List.flatMap_cons, List.length_append, he, flatLen he xs, List.length_cons, Nat.succ_mul, Nat.add_comm]
/-- One element put in the place of another. -/
theorem splice_rd {M : Mem} {α : Type} {enc : α → List D} {sz : Nat} (he : ∀ x, (enc x).length = sz) {l : List α} {us xs : List Value} {k : Nat} (h : RdL M (l.flatMap enc) us) (hk : k < l.length) {x : α} (hx : RdL M (enc x) xs) :
    RdL M ((l.take k ++ ([x] ++ l.drop (k + 1))).flatMap enc) (us.take (k * sz) ++ (xs ++ us.drop (k * sz + sz))) := by
  have hl : l = l.take k ++ (l[k] :: l.drop (k + 1)) := by rw [← List.drop_eq_getElem_cons hk, List.take_append_drop]
  rw [hl, List.flatMap_append] at h
  obtain ⟨h1, h2⟩ := h.split
  rw [flatLen he, List.length_take, Nat.min_eq_left (by omega)] at h1 h2
  rw [List.flatMap_cons] at h2
  obtain ⟨_, h3⟩ := h2.split
  rw [he, List.drop_drop] at h3
  rw [List.flatMap_append, List.flatMap_append]
  refine h1.append (RdL.append ?_ h3)
  simpa using hx
/-- A slice without its first elements. -/
theorem Rd.dropN {M : Mem} {α : Type} {enc : α → List D} {sz : Nat} (he : ∀ x, (enc x).length = sz) {l : List α} {a : Option Addr} {c : Nat} (h : Rd M (.sl l.length sz (l.flatMap enc)) (.slice a l.length c)) (k : Nat) (hk : k ≤ l.length) :
    Rd M (.sl (l.drop k).length sz ((l.drop k).flatMap enc)) (cutV a k l.length c sz) := by
  have hc : l.length ≤ c := by obtain ⟨a', c', h1, h2, _⟩ := h.slice; simp only [Value.slice.injEq] at h1; omega
  have := Rd.cut h k l.length c hk hc (Nat.le_refl _) (Nat.le_refl _)
  rw [List.length_drop]
  have e : ((l.flatMap enc).drop (k * sz)).take ((l.length - k) * sz) = (l.drop k).flatMap enc := by
    have hl : l.flatMap enc = (l.take k).flatMap enc ++ (l.drop k).flatMap enc := by rw [← List.flatMap_append, List.take_append_drop]
    have hn : k * sz = ((l.take k).flatMap enc).length := by rw [flatLen he, List.length_take, Nat.min_eq_left hk]
    rw [hl, hn, List.drop_left, List.take_of_length_le (by rw [flatLen he, List.length_drop]; omega)]
  rwa [e] at this
end Xe

/-
  THE ENGINE, PART X: a slice that is being grown lent out as what is only read, and taken back. No program in sight.
-/
namespace Xe
open Go
theorem CallOk.turn {P : Program} {w0 : World} {M : Mem} {Γ : List As} {f : FuncId} {args : Array Value} {F R : Post} (h : CallOk P w0 M Γ f args F) (k : ∀ v M' Γ', F v M' Γ' → Turn w0 M' Γ' (R v)) : CallOk P w0 M Γ f args R := fun w hw => by
  refine (h w hw).mono ?_
  rintro e w' ⟨v, M', Γ', rfl, hF, hw'⟩
  obtain ⟨M2, Γ2, hR, hw2⟩ := k v M' Γ' hF w' hw'
  exact ⟨v, M2, Γ2, rfl, hR, hw2⟩
/-- M' is M with the block of this slice. -/
def LentA (M M' : Mem) (u : Value) (e : TypeId) (sz n : Nat) (us : List Value) : Prop :=
  ∃ b cap cur, u = .slice (some ⟨b, 0, none⟩) n cap ∧ M b = none ∧ M' b = some (.cells cur e (0, 0)) ∧ ∀ w : World, w.heap[b]? = some (.cells cur e (0, 0)) → w.ownsRow 0 e sz u n us
theorem St.lendAcc {w0 w : World} {M : Mem} {Γ : List As} {u : Value} {e : TypeId} {sz n : Nat} {us : List Value} {ds : List D} (hw : St w0 M (.acc u e sz n us :: Γ) w) (hr : RdL M ds us) (hn : n ≤ lim) (h0 : 0 < us.length) :
    ∃ M', Sub M M' ∧ Rd M' (.sl n sz ds) u ∧ LentA M M' u e sz n us ∧ St w0 M' (.rd (.sl n sz ds) u :: Γ) w := by
  have hx := hw.all _ (List.mem_cons_self ..)
  obtain ⟨⟨hl, hh⟩, hM⟩ := hx
  rcases hh with ⟨rfl, rfl⟩ | ⟨b, cap, cur, rfl, hb0, hb, hnc, hcm, hcs, htk⟩
  · rw [Nat.zero_mul] at hl; omega
  · have hMb : M b = none := hM b rfl
    have hs : Sub M (M.put b (.cells cur e (0, 0))) := Mem.put_sub hMb
    have hw' := hw.seal_block (b := b) rfl hb
    have hrd : Rd (M.put b (.cells cur e (0, 0))) (.sl n sz ds) (.slice (some ⟨b, 0, none⟩) n cap) := by
      simp only [Rd]
      refine ⟨some ⟨b, 0, none⟩, cap, rfl, hnc, hcm, hn, by rw [← hr.1]; exact hl, fun _ => rfl, RdC.mk ds 0 fun k d hk => ?_⟩
      obtain ⟨v, h1, h2⟩ := RdL.get hr hk
      refine ⟨v, ?_, Rd.mono hs d v h2⟩
      rw [Nat.zero_add]
      apply cellM_put
      have hk' : k < n * sz := by
        rw [← hl]
        rcases Nat.lt_or_ge k us.length with h | h
        · exact h
        · rw [List.getElem?_eq_none h] at h1; cases h1
      rw [← htk, List.getElem?_take_of_lt hk'] at h1
      simpa using h1
    refine ⟨_, hs, hrd, ⟨b, cap, cur, rfl, hMb, by simp [Mem.put], fun w1 h1 => ?_⟩, hw'.add (x := .rd _ _) hrd rfl⟩
    exact ⟨hl, .inr ⟨b, cap, cur, rfl, hb0, h1, hnc, hcm, hcs, htk⟩⟩
def Mem.rem (M : Mem) (b : Nat) : Mem := fun k => if k = b then none else M k
theorem Mem.rem_sub {M0 M : Mem} {b : Nat} (h : Sub M0 M) (hb : M0 b = none) : Sub M0 (M.rem b) := fun k o hk => by
  unfold Mem.rem
  by_cases e : k = b
  · subst e; rw [hb] at hk; cases hk
  · rw [if_neg e]; exact h k o hk
theorem St.backAcc {w0 w w1 : World} {M0 M M' M5 : Mem} {Δ Γ Γ5 : List As} {u : Value} {e : TypeId} {sz n : Nat} {us : List Value} (hw : St w0 M5 Γ5 w) (hl : LentA M M' u e sz n us) (h5 : Sub M' M5) (hw1 : St w0 M0 Γ w1) (h0 : Sub M0 M) (hM : Sub M M')
    (hs : List.Sublist (Δ ++ Γ) Γ5) (hΔ : ∀ x ∈ Δ, x.blk ≠ none) : ∃ Mr, Sub M Mr ∧ St w0 Mr (.acc u e sz n us :: (Δ ++ Γ)) w := by
  obtain ⟨b, cap, cur, rfl, hb, hb', hrow⟩ := hl
  have hb5 := h5 _ _ hb'
  have hMr : Sub M (M5.rem b) := Mem.rem_sub (fun k o hk => h5 _ _ (hM _ _ hk)) hb
  have hsub := hw.sub hs
  have own : ∀ x ∈ Δ ++ Γ, x.blk ≠ none → x.ok (M5.rem b) w ∧ x.blk ≠ some b := fun x hx hne => by
    have h := hsub.all x hx
    obtain ⟨k, hk⟩ := Option.ne_none_iff_exists'.1 hne
    have hkM := (As.ok_blk_lt h hk).2
    have hkb : k ≠ b := fun e => by subst e; rw [hb5] at hkM; cases hkM
    refine ⟨?_, by rw [hk]; simpa using hkb⟩
    have hrk : (M5.rem b) k = none := by unfold Mem.rem; rw [if_neg hkb]; exact hkM
    cases x with
    | rd d v => simp [As.blk] at hk
    | rds ds vs => simp [As.blk] at hk
    | own b' e' cs =>
      simp only [As.blk, Option.some.injEq] at hk
      subst hk
      exact ⟨hrk, h.2⟩
    | acc v e' sz' n' vs =>
      refine ⟨h.1, fun b' hb' => ?_⟩
      simp only [As.blk] at hk
      rw [hk] at hb'
      obtain rfl := Option.some.inj hb'
      exact hrk
    | mp b' l =>
      simp only [As.blk, Option.some.injEq] at hk
      subst hk
      exact ⟨hrk, h.2⟩
  refine ⟨M5.rem b, hMr, hw.os, hw.tape, hw.output, hw.size, fun k o hk => ?_, fun x hx => ?_, ?_⟩
  · unfold Mem.rem at hk
    split at hk
    · cases hk
    · exact hw.mem k o hk
  · rcases List.mem_cons.1 hx with rfl | hx
    · refine ⟨hrow w (hw.mem b _ hb5), fun k hk => ?_⟩
      simp only [Value.ownBlock, Option.some.injEq] at hk
      subst hk
      simp [Mem.rem]
    · by_cases hne : x.blk = none
      · have hxG : x ∈ Γ := by
          rcases List.mem_append.1 hx with h | h
          · exact absurd hne (hΔ x h)
          · exact h
        have h1 := hw1.all x hxG
        have hs1 : Sub M0 (M5.rem b) := fun k o hk => hMr _ _ (h0 _ _ hk)
        cases x with
        | rd d v => exact Rd.mono hs1 d v h1
        | rds ds vs => exact RdL.mono hs1 h1
        | own b' e' cs => simp [As.blk] at hne
        | acc v e' sz' n' vs => exact ⟨(hsub.all _ hx).1, fun k hk => by simp only [As.blk] at hne; rw [hne] at hk; cases hk⟩
        | mp b' l => simp [As.blk] at hne
      · exact (own x hx hne).1
  · have hnd := hsub.nodup
    simp only [List.filterMap_cons, As.blk, Value.ownBlock]
    refine List.nodup_cons.2 ⟨fun hm => ?_, hnd⟩
    obtain ⟨x, hx, hb2⟩ := List.mem_filterMap.1 hm
    exact (own x hx (by rw [hb2]; simp)).2 hb2
section
variable {P : Program} {n : Nat} {w0 : World} {c : Code} {X : Pst} {L : Lm} {M : Mem} {Γ : List As}
theorem CW.lendAcc {R : List As} {u : Value} {e : TypeId} {sz k : Nat} {us : List Value} {ds : List D} (hp : Pick (.acc u e sz k us) Γ R) (hr : RdL M ds us) (hn : k ≤ lim) (h0 : 0 < us.length)
    (h : ∀ M', Sub M M' → Rd M' (.sl k sz ds) u → LentA M M' u e sz k us → CW P n w0 c X L M' R) : CW P n w0 c X L M Γ := by
  refine CW.turn (F := fun M' Γ' => Sub M M' ∧ Rd M' (.sl k sz ds) u ∧ LentA M M' u e sz k us ∧ Γ' = R) (fun _ hw => ?_) ?_
  · obtain ⟨M', h1, h2, h3, h4⟩ := (hw.perm hp.perm).lendAcc hr hn h0
    exact ⟨M', _, ⟨h1, h2, h3, rfl⟩, h4.sub (List.sublist_cons_self _ _)⟩
  · rintro M' _ ⟨h1, h2, h3, rfl⟩
    exact h M' h1 h2 h3
theorem CW.backAcc {w1 : World} {M0 M2 M' : Mem} {Γ5 : List As} (Δ : List As) {u : Value} {e : TypeId} {sz k : Nat} {us : List Value} (hl : LentA M2 M' u e sz k us) (h5 : Sub M' M) (hw1 : St w0 M0 Γ w1) (h0 : Sub M0 M2) (hM : Sub M2 M')
    (hs : List.Sublist (Δ ++ Γ) Γ5) (hΔ : ∀ x ∈ Δ, x.blk ≠ none) (h : ∀ Mr, Sub M2 Mr → CW P n w0 c X L Mr (.acc u e sz k us :: (Δ ++ Γ))) : CW P n w0 c X L M Γ5 := by
  refine CW.turn (F := fun Mr Γ' => Sub M2 Mr ∧ Γ' = .acc u e sz k us :: (Δ ++ Γ)) (fun _ hw => ?_) ?_
  · obtain ⟨Mr, h1, h2⟩ := hw.backAcc hl h5 hw1 h0 hM hs hΔ
    exact ⟨Mr, _, ⟨h1, rfl⟩, h2⟩
  · rintro Mr _ ⟨h1, rfl⟩
    exact h Mr h1
end
end Xe
