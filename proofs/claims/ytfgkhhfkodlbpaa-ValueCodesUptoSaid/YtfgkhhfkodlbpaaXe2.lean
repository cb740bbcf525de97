/- THE ENGINE, parts GHIJK. No program in sight. -/
import Derived.Test.YtfgkhhfkodlbpaaXe1
import Derived.OrdersHeld
/-
  THE ENGINE, PART G: literals of structs and slices, make, append as rules; regions that draw their order and write. No program in sight.
-/
namespace Xe
open Go

/-! ### Literals -/
def splice (cs : List Value) (off : Nat) (vs : List Value) : List Value := cs.take off ++ vs ++ cs.drop (off + vs.length)
theorem splice_length {cs : List Value} {off : Nat} {vs : List Value} (h : off + vs.length ≤ cs.length) : (splice cs off vs).length = cs.length := by
  simp [splice]; omega

theorem fold_splice : ∀ (l : List Value) (off k : Nat) (cs : List Value), off + k + l.length ≤ cs.length →
    (l.zipIdx k).foldl (fun (c : Array Value) (x : Value × Nat) => c.setIfInBounds (off + x.2) x.1) cs.toArray = (splice cs (off + k) l).toArray
  | [], off, k, cs, _ => by simp [splice]
  | v :: l, off, k, cs, h => by
    have h' : off + (k + 1) + l.length ≤ cs.length := by simp at h; omega
    simp only [List.zipIdx_cons, List.foldl_cons, List.setIfInBounds_toArray]
    rw [fold_splice l off (k + 1) (cs.set (off + k) v) (by simpa using h')]
    congr 1
    simp only [splice]
    have hk : off + k < cs.length := by simp at h; omega
    rw [← Nat.add_assoc, List.take_succ_eq_append_getElem (by simpa using hk), List.take_set_of_le (by omega)]
    simp only [List.getElem_set_self, List.length_cons, List.append_assoc, List.cons_append, List.nil_append, Nat.add_assoc]
    congr 3
    rw [List.drop_set, if_pos (by omega)]
    congr 1
    omega

def fillL (place : Nat → Option (Nat × Nat)) : List Value → List (Nat × List Value) → Option (List Value)
  | cells, [] => some cells
  | cells, (i, vs) :: rest => match place i with
    | none => none
    | some (off, size) => if vs.length = size ∧ off + size ≤ cells.length then fillL place (splice cells off vs) rest else none

def cellsL : Value → List Value
  | .agg cs => cs.toList
  | v => [v]
theorem cellsL_spec (v : Value) : v.cells = (cellsL v).toArray := by cases v <;> simp [Value.cells, cellsL]

theorem fill_eq (place : Nat → Option (Nat × Nat)) : ∀ (parts : List (Nat × Value)) (cells out : List Value), fillL place cells (parts.map fun p => (p.1, cellsL p.2)) = some out → Instr.fill place cells.toArray parts = some out.toArray
  | [], cells, out, h => by simp only [List.map_nil, fillL, Option.some.injEq] at h; simp [Instr.fill, h]
  | (i, v) :: rest, cells, out, h => by
    simp only [List.map_cons, fillL] at h
    unfold Instr.fill
    cases hp : place i with
    | none => simp [hp] at h
    | some os =>
      obtain ⟨off, size⟩ := os
      rw [hp] at h
      simp only [] at h ⊢
      split at h
      · rename_i hc
        obtain ⟨h1, h2⟩ := hc
        have hsz : v.cells.size = size := by rw [cellsL_spec]; simpa using h1
        rw [if_neg (by simp [hsz]; omega)]
        rw [cellsL_spec v, ← Array.foldl_toList, Array.toList_zipIdx]
        have := fold_splice (cellsL v) off 0 cells (by omega)
        simp only [Nat.add_zero] at this
        rw [this]
        exact fill_eq place rest _ _ h
      · cases h

def pEv (L : Lm) : List (Nat × Operand) → Option (List (Nat × Value))
  | [] => some []
  | (i, x) :: r => match evL L x with
    | some v => match pEv L r with
      | some vs => some ((i, v) :: vs)
      | none => none
    | none => none
theorem Sat.pEv {n : Nat} {L : Lm} {a : Act} (h : Sat n L a) : ∀ {xs : List (Nat × Operand)} {vs : List (Nat × Value)}, pEv L xs = some vs → xs.map (fun p => (p.1, a.eval p.2)) = vs
  | [], vs, hv => by simp only [Xe.pEv, Option.some.injEq] at hv; simp [← hv]
  | (i, x) :: xs, vs, hv => by
    simp only [Xe.pEv] at hv
    cases hx : evL L x with
    | none => simp [hx] at hv
    | some v =>
      rw [hx] at hv
      simp only [] at hv
      cases hxs : Xe.pEv L xs with
      | none => simp [hxs] at hv
      | some us =>
        rw [hxs] at hv
        simp only [Option.some.injEq] at hv
        rw [← hv]
        simp [h.ev hx, h.pEv hxs]

/-- The places of a struct's fields. -/
def placesB (P : Program) (t : TypeId) : Option (List (Nat × Nat)) := match P.underlying t with
  | some (.struct fs) => fs.toList.mapM fun f => match P.info? f.type with
    | some i => some (f.offset, i.size)
    | none => none
  | _ => none

theorem run_places {P : Program} {w : World} : ∀ (fs : List Field) (pl : List (Nat × Nat)), (fs.mapM fun f => match P.info? f.type with
    | some i => some (f.offset, i.size)
    | none => none) = some pl → (fs.mapM fun f => Prod.mk f.offset <$> Go.sizeOf f.type : Sem (List (Nat × Nat))).run P w = .ok pl w
  | [], pl, h => by simp at h; simp [← h]
  | f :: fs, pl, h => by
    simp only [List.mapM_cons] at h ⊢
    cases hi : P.info? f.type with
    | none => simp [hi] at h
    | some i =>
      simp only [hi, Option.bind_eq_bind, Option.bind_some] at h
      cases hr : (fs.mapM fun f => match P.info? f.type with
        | some i => some (f.offset, i.size)
        | none => none) with
      | none => rw [hr] at h; simp at h
      | some pl' =>
        rw [hr] at h
        simp only [Option.bind_some, Option.pure_def, Option.some.injEq] at h
        subst h
        have ih := run_places (P := P) (w := w) fs pl' hr
        have hs : (Go.sizeOf f.type).run P w = .ok i.size w := by simp [Go.sizeOf, typeInfo, hi]
        simp only [Sem.run_bind, Sem.run_map, hs, Result.andThen_ok, ih, Sem.run_pure]

section
variable {P : Program} {w0 : World} {L : Lm} {M : Mem} {Γ : List As} {d : Option Nat} {ty : TypeId} {pos : String} {af : Array Edge} {g : Option (Nat × Bool)}
namespace Y
/-- A struct's literal. -/
theorem build {t : TypeId} {parts : List (Nat × Operand)} {vs : List (Nat × Value)} {zs : List Value} {pl : List (Nat × Nat)} (out : List Value) (hp : pEv L parts = some vs) (hz : zeroB P t = some (.agg zs.toArray)) (hpl : placesB P t = some pl)
    (hf : fillL (pl[·]?) zs (vs.map fun p => (p.1, cellsL p.2)) = some out) : Yq P w0 L M Γ ⟨d, .build t parts.toArray, ty, pos, af, g⟩ (.agg out.toArray) := fun n a w ha _ => by
  unfold placesB at hpl
  cases hu : P.underlying t with
  | none => simp [hu] at hpl
  | some dd =>
    rw [hu] at hpl
    cases dd with
    | struct fs =>
      simp only [] at hpl
      have h1 := run_places (P := P) (w := w) fs.toList pl hpl
      have h2 := fill_eq (pl[·]?) vs zs out hf
      have h3 : (parts.toArray.map fun x => (x.1, a.eval x.2)) = vs.toArray := by rw [List.map_toArray, ha.pEv hp]
      have h4 : (fs.mapM fun f => (do pure (f.offset, ← Go.sizeOf f.type) : Sem (Nat × Nat))).run P w = .ok pl.toArray w := by
        rw [Array.mapM_eq_mapM_toList]
        simp [h1]
      simp only [execOp, h3]
      simp only [Instr.build, Sem.run_bind, run_zeroB hz, Result.andThen_ok, run_underlying hu, Value.cells, h4, List.getElem?_toArray, h2, Sem.run_pure]
    | _ => simp at hpl
end Y
end

section
variable {P : Program} {n : Nat} {w0 : World} {ops : Array Oper} {rest : List Oper} {L : Lm} {M : Mem} {Γ : List As} {K : Lm → Mem → List As → Prop} {ty : TypeId} {pos : String} {af : Array Edge} {d : Nat}

theorem run_buildSlice {w : World} {t e sz bytes len : Nat} {vs : List (Nat × Value)} {out : List Value} (hE : ElemOk P t e sz bytes) (hlen : Nat.ble (len * sz) 16777216 = true)
    (hf : ∀ zs : List Value, zs.length = len * sz → fillL (fun i => some (i * sz, sz)) zs (vs.map fun p => (p.1, cellsL p.2)) = some out) :
    (Instr.buildSlice t len vs.toArray).run P w = .ok (.slice (some ⟨w.heap.size, 0, none⟩) len len) { w with heap := w.heap.push (.cells out.toArray e (0, 0)) } := by
  obtain ⟨ht, ⟨i, z, hi, hz, hsize, hby, hzs⟩, hpos⟩ := hE
  have hl : ¬ (16777216 < len * sz) := by simpa [Nat.ble_eq] using hlen
  by_cases h0 : len * sz = 0
  · have h1 := fill_eq (fun i => some (i * sz, sz)) vs [] out (hf [] (by simp [h0]))
    have e0 : Array.map (fun _ => (default : Value)) (Array.range 0) = #[] := by simp
    simp [Instr.buildSlice, run_underlying ht, Go.sizeOf, typeInfo, hi, hsize, h0, h1, e0, newRow]
  · have h1 := fill_eq (fun i => some (i * sz, sz)) vs ((Array.range (len * sz)).map (z.cells[· % z.cells.size]!)).toList out (hf _ (by simp))
    simp only [Array.toArray_toList] at h1
    simp [Instr.buildSlice, run_underlying ht, Go.sizeOf, typeInfo, zeroValue, hi, hz, hsize, h0, hl, h1, newRow]

theorem St.push {w : World} {e : TypeId} {out : List Value} (hw : St w0 M Γ w) : St w0 M (.own w.heap.size e out :: Γ) { w with heap := w.heap.push (.cells out.toArray e (0, 0)) } := hw.alloc e out

/-- A slice's literal. -/
theorem RL.buildSlice {t e sz bytes len : Nat} {parts : List (Nat × Operand)} {vs : List (Nat × Value)} (out : List Value) (hE : ElemOk P t e sz bytes) (hp : pEv L parts = some vs) (hlen : Nat.ble (len * sz) 16777216 = true)
    (hf : ∀ zs : List Value, zs.length = len * sz → fillL (fun i => some (i * sz, sz)) zs (vs.map fun p => (p.1, cellsL p.2)) = some out) (hd : Nat.blt d n = true)
    (h : ∀ b, RL P n w0 ops rest ((d, .slice (some ⟨b, 0, none⟩) len len) :: L) M (.own b e out :: Γ) K) : RL P n w0 ops (⟨some d, .buildSlice t len parts.toArray, ty, pos, af, none⟩ :: rest) L M Γ K := by
  refine RL.e (fun v M' Γ' => ∃ b, v = .slice (some ⟨b, 0, none⟩) len len ∧ M' = M ∧ Γ' = .own b e out :: Γ) (fun n a w ha hw => ?_) hd ?_
  · refine ⟨_, _, M, _, ?_, ⟨w.heap.size, rfl, rfl, rfl⟩, hw.alloc e out⟩
    have h3 : (parts.toArray.map fun x => (x.1, a.eval x.2)) = vs.toArray := by rw [List.map_toArray, ha.pEv hp]
    simp only [execOp, h3]
    simp [run_buildSlice hE hlen hf]
  · rintro v M' Γ' ⟨b, rfl, rfl, rfl⟩
    exact h b

/-- make with a length that the call has reckoned. -/
theorem RL.make {t e sz bytes k : Nat} {x y : Operand} {zx zy : Int} {z : Value} (hE : ElemOk P t e sz bytes) (hz0 : zeroB P e = some z) (hx : evL L x = some (.int .i64 zx)) (hy : evL L y = some (.int .i64 zy)) (hzx : zx = (k : Int)) (hzy : zy = (k : Int)) (hk : k ≤ lim) (hkb : bytes * k ≤ 281474976710656) (hd : Nat.blt d n = true)
    (h : ∀ b, RL P n w0 ops rest ((d, .slice (some ⟨b, 0, none⟩) k k) :: L) M (.own b e (madeCells z.cells (k * sz)).toList :: Γ) K) : RL P n w0 ops (⟨some d, .makeSlice t x y, ty, pos, af, none⟩ :: rest) L M Γ K := by
  subst hzx hzy
  obtain ⟨ht, ⟨i, z', hi, hz, hsize, hby, hzs⟩, hpos⟩ := hE
  have : z' = z := by simp [zeroB, hi, hz] at hz0; exact hz0
  subst this
  have hl63 : (k : Int) ≤ 9223372036854775807 := by unfold lim at hk; omega
  refine RL.e (fun v M' Γ' => ∃ b, v = .slice (some ⟨b, 0, none⟩) k k ∧ M' = M ∧ Γ' = .own b e (madeCells z'.cells (k * sz)).toList :: Γ) (fun n a w ha hw => ?_) hd ?_
  · have hkb' : (i.bytes : Int) * (k : Int) ≤ 281474976710656 := by
      have h : ((i.bytes * k : Nat) : Int) ≤ 281474976710656 := by rw [hby]; omega
      rwa [Int.natCast_mul] at h
    have hr := run_make (P := P) w t e i z' ht hi hz .i64 .i64 k k (by omega) (Int.le_refl _) hkb' hl63
    refine ⟨_, _, M, _, ?_, ⟨w.heap.size, rfl, rfl, rfl⟩, hw.alloc e _⟩
    simp only [execOp, ha.ev hx, ha.ev hy, Sem.run_bind, hr, Int.toNat_natCast, hsize, Array.toArray_toList]
    rfl
  · rintro v M' Γ' ⟨b, rfl, rfl, rfl⟩
    exact h b

/-! ### append as a rule -/
/-- Γ is R with x somewhere in it. -/
inductive Pick (x : As) : List As → List As → Prop
  | here (Γ : List As) : Pick x (x :: Γ) Γ
  | there (y : As) {Γ R : List As} : Pick x Γ R → Pick x (y :: Γ) (y :: R)
theorem Pick.perm {x : As} {Γ R : List As} (h : Pick x Γ R) : List.Perm Γ (x :: R) := by
  induction h with
  | here Γ => exact .refl _
  | there y _ ih => exact (ih.cons y).trans (.swap x y _)

theorem SrcOk.own {b e c : Nat} {news : List Value} {sz m : Nat} (hm : As.own b e news ∈ Γ) (hl : news.length = m * sz) (h1 : ∀ u ∈ news, u.oneCell' = true) : SrcOk w0 M Γ (.slice (some ⟨b, 0, none⟩) m c) sz m news :=
  ⟨hl, h1, .inl ⟨_, c, rfl, fun w hw j u hj => by
    have := hw.own_cell hm hj
    rwa [show (⟨b, 0, none⟩ : Addr).add j = adr (some ⟨b, 0, none⟩) j from rfl]⟩⟩
/-- A slice that is only read: its cells are known values. -/
theorem src_rd {w : World} {n sz : Nat} {ds : List D} {a : Option Addr} {l c : Nat} (hw : St w0 M Γ w) (hm : As.rd (.sl n sz ds) (.slice a l c) ∈ Γ) :
    ∃ news, RdL M ds news ∧ SrcOk w0 M Γ (.slice a l c) sz l news := by
  have hr := hw.rd hm
  simp only [Rd] at hr
  obtain ⟨a', c', h1, h2, h3, h4, h5, h6, h7⟩ := hr
  simp only [Value.slice.injEq] at h1
  obtain ⟨rfl, rfl, rfl⟩ := h1
  obtain ⟨us, h8, h9⟩ := cells_of (M := M) (a := a) (q := 0) (ds := ds) fun j e hj => by simpa using RdC.get ds 0 h7 j e hj
  refine ⟨us, h8, by rw [h8.1]; exact h5, h8.one, ?_⟩
  cases a with
  | none =>
    have h0 : ¬ 0 < l := fun h => by have := h6 h; simp at this
    obtain rfl : l = 0 := by omega
    exact .inr ⟨rfl, c, rfl⟩
  | some p => exact .inl ⟨p, c, rfl, fun w hw j u hj => hw.cell (by have := h9 j u hj; rw [Nat.zero_add] at this; exact this)⟩

theorem acc_slice {w : World} {u : Value} {e : TypeId} {sz n : Nat} {us : List Value} (h : As.ok M w (.acc u e sz n us)) : ∃ a c, u = .slice a n c ∧ n ≤ c := by
  obtain ⟨⟨_, hh⟩, _⟩ := h
  rcases hh with ⟨rfl, rfl⟩ | ⟨b, cap, cur, rfl, _, _, hc, _⟩
  · exact ⟨none, 0, rfl, Nat.le_refl _⟩
  · exact ⟨_, cap, rfl, hc⟩
/-- append to a slice that the call grows. -/
theorem RL.append {t e sz bytes k m : Nat} {x y : Operand} {u xv : Value} {us news : List Value} {R : List As} (hE : ElemOk P t e sz bytes) (hx : evL L x = some u) (hy : evL L y = some xv) (hp : Pick (.acc u e sz k us) Γ R)
    (hs : SrcOk w0 M Γ xv sz m news) (hb : (k + m) * bytes ≤ 140737488355328) (hm : k + m ≤ lim) (hd : Nat.blt d n = true)
    (h : ∀ a' c', k + m ≤ c' → RL P n w0 ops rest ((d, .slice a' (k + m) c') :: L) M (.acc (.slice a' (k + m) c') e sz (k + m) (us ++ news) :: R) K) : RL P n w0 ops (⟨some d, .call ⟨.builtin .append, #[x, y], #[t, t]⟩, ty, pos, af, none⟩ :: rest) L M Γ K := by
  refine RL.e (fun v M' Γ' => M' = M ∧ Γ' = .acc v e sz (k + m) (us ++ news) :: R) (fun n a w ha hw => ?_) hd ?_
  · obtain ⟨hl, h1, hsrc⟩ := hs
    have hs' : SrcOk w0 M (.acc u e sz k us :: R) xv sz m news := ⟨hl, h1, hsrc.imp (fun ⟨p, c, h1, h2⟩ => ⟨p, c, h1, fun w hw => h2 w (hw.perm hp.perm.symm)⟩) id⟩
    obtain ⟨u', w', hr, hw'⟩ := append_acc (P := P) (ty := ty) hE (hw.perm hp.perm) hs' hb hm
    refine ⟨u', w', M, _, ?_, ⟨rfl, rfl⟩, hw'⟩
    simp [execOp, resolve, invoke, Go.builtin, ha.ev hx, ha.ev hy, hr]
  · rintro v M' Γ' ⟨rfl, rfl⟩
    refine RL.know (F := ∃ a' c', v = .slice a' (k + m) c' ∧ k + m ≤ c') (fun w hw => acc_slice (hw.all _ (List.mem_cons_self ..))) ?_
    rintro ⟨a', c', rfl, hc'⟩
    exact h a' c' hc'
/-- .. of what is only read. -/
theorem RL.appendRd {t e sz bytes k m : Nat} {x y : Operand} {u : Value} {a : Option Addr} {c : Nat} {us : List Value} {ds : List D} {R : List As} (hE : ElemOk P t e sz bytes) (hx : evL L x = some u) (hy : evL L y = some (.slice a m c)) (hp : Pick (.acc u e sz k us) Γ R)
    (hs : As.rd (.sl m sz ds) (.slice a m c) ∈ Γ) (hb : (k + m) * bytes ≤ 140737488355328) (hm : k + m ≤ lim) (hd : Nat.blt d n = true)
    (h : ∀ a' c' news, k + m ≤ c' → RdL M ds news → RL P n w0 ops rest ((d, .slice a' (k + m) c') :: L) M (.acc (.slice a' (k + m) c') e sz (k + m) (us ++ news) :: R) K) : RL P n w0 ops (⟨some d, .call ⟨.builtin .append, #[x, y], #[t, t]⟩, ty, pos, af, none⟩ :: rest) L M Γ K := by
  refine RL.know (F := ∃ news, RdL M ds news ∧ SrcOk w0 M Γ (.slice a m c) sz m news) (fun w hw => src_rd hw hs) ?_
  rintro ⟨news, hr, hs'⟩
  exact RL.append hE hx hy hp hs' hb hm hd fun a' c' hc' => h a' c' news hc' hr
end

/-! ### Small words for the walks -/
theorem Turn.drop {w0 : World} {M : Mem} {Γ Γ' : List As} {F : Mem → List As → Prop} (h : F M Γ') (hs : List.Sublist Γ' Γ) : Turn w0 M Γ F := Turn.of h fun _ hw => hw.sub hs
theorem Turn.back {w0 w1 : World} {M M1 : Mem} {Γ Γ1 : List As} {F : Mem → List As → Prop} (h : St w0 M Γ w1) (hs : Sub M M1) (hF : F M Γ) (hl : List.Sublist Γ Γ1) : Turn w0 M1 Γ1 F := fun _ hw => ⟨M, Γ, hF, h.back (hw.sub hl) hs⟩
theorem CW.addRd {P : Program} {n : Nat} {w0 : World} {c : Code} {X : Pst} {L : Lm} {M : Mem} {Γ : List As} {e : D} {u : Value} (hr : Rd M e u) (h : CW P n w0 c X L M (.rd e u :: Γ)) : CW P n w0 c X L M Γ :=
  h.pre (Keep.refl L) fun _ hw => hw.add (x := .rd e u) hr rfl
theorem CW.addRds {P : Program} {n : Nat} {w0 : World} {c : Code} {X : Pst} {L : Lm} {M : Mem} {Γ : List As} {es : List D} {us : List Value} (hr : RdL M es us) (h : CW P n w0 c X L M (.rds es us :: Γ)) : CW P n w0 c X L M Γ :=
  h.pre (Keep.refl L) fun _ hw => hw.add (x := .rds es us) hr rfl
theorem Rd.slice {M : Mem} {n sz : Nat} {cs : List D} {u : Value} (h : Rd M (.sl n sz cs) u) : ∃ a c, u = .slice a n c ∧ n ≤ c ∧ n ≤ 140737488355328 ∧ cs.length = n * sz := by
  simp only [Rd] at h
  obtain ⟨a, c, h1, h2, _, h4, h5, _⟩ := h
  exact ⟨a, c, h1, h2, h4, h5⟩
/-- A slice that the call has grown is handed back. -/
theorem Turn.sealAcc {w0 : World} {M1 : Mem} {Γ Γ1 R : List As} {F : Mem → List As → Prop} {u : Value} {e : TypeId} {sz n : Nat} {us : List Value} {ds : List D} (hp : Pick (.acc u e sz n us) Γ1 R) (hr : RdL M1 ds us) (hn : n ≤ lim) (hl : List.Sublist Γ R)
    (hF : ∀ M', Sub M1 M' → Rd M' (.sl n sz ds) u → F M' Γ) : Turn w0 M1 Γ1 F := fun _ hw => by
  obtain ⟨M', h1, h2, h3⟩ := (hw.perm hp.perm).sealAcc hr hn
  exact ⟨M', Γ, hF M' h1 h2, h3.sub (hl.trans (List.sublist_cons_self _ _))⟩
theorem CW.accNil {P : Program} {n : Nat} {w0 : World} {c : Code} {X : Pst} {L : Lm} {M : Mem} {Γ : List As} (e sz : Nat) (h : CW P n w0 c X L M (.acc (.slice none 0 0) e sz 0 [] :: Γ)) : CW P n w0 c X L M Γ := h.pre (Keep.refl L) fun _ hw => hw.acc_nil e sz
/-- A slice that the call has grown is from now on only read. -/
theorem CW.sealAcc {P : Program} {n : Nat} {w0 : World} {c : Code} {X : Pst} {L : Lm} {M : Mem} {Γ R : List As} {u : Value} {e : TypeId} {sz k : Nat} {us : List Value} {ds : List D} (hp : Pick (.acc u e sz k us) Γ R) (hr : RdL M ds us) (hn : k ≤ lim)
    (h : ∀ M' a c', Sub M M' → u = .slice a k c' → k ≤ c' → Rd M' (.sl k sz ds) (.slice a k c') → CW P n w0 c X L M' (.rd (.sl k sz ds) (.slice a k c') :: R)) : CW P n w0 c X L M Γ := by
  refine CW.turn (F := fun M' Γ' => Sub M M' ∧ Rd M' (.sl k sz ds) u ∧ Γ' = .rd (.sl k sz ds) u :: R) (fun _ hw => ?_) ?_
  · obtain ⟨M', h1, h2, h3⟩ := (hw.perm hp.perm).sealAcc hr hn
    exact ⟨M', _, ⟨h1, h2, rfl⟩, h3⟩
  · rintro M' _ ⟨h1, h2, rfl⟩
    obtain ⟨a, c', rfl, h3, _⟩ := h2.slice
    exact h M' a c' h1 rfl h3 h2

theorem fill0 {sz : Nat} : ∀ zs : List Value, zs.length = 0 * sz → fillL (fun i => some (i * sz, sz)) zs (([] : List (Nat × Value)).map fun p => (p.1, cellsL p.2)) = some [] := fun zs h => by
  have : zs = [] := List.eq_nil_of_length_eq_zero (by omega)
  subst this; rfl
theorem fill1 {sz : Nat} {v : Value} {out : List Value} (h : cellsL v = out) (hl : out.length = sz) : ∀ zs : List Value, zs.length = 1 * sz → fillL (fun i => some (i * sz, sz)) zs ([(0, v)].map fun p => (p.1, cellsL p.2)) = some out := fun zs hz => by
  have h1 : zs.length = sz := by omega
  simp only [List.map_cons, List.map_nil, h, fillL, hl, h1, Nat.zero_mul, Nat.zero_add, Nat.le_refl, and_self, if_true, splice, List.take_zero, List.nil_append]
  rw [List.drop_of_length_le (by omega), List.append_nil]
theorem fill2 {sz : Nat} {v v' : Value} {out out' : List Value} (h : cellsL v = out) (hl : out.length = sz) (h' : cellsL v' = out') (hl' : out'.length = sz) : ∀ zs : List Value, zs.length = 2 * sz → fillL (fun i => some (i * sz, sz)) zs ([(0, v), (1, v')].map fun p => (p.1, cellsL p.2)) = some (out ++ out') := fun zs hz => by
  have h1 : (splice zs 0 out).length = 2 * sz := by rw [splice_length (by omega), hz]
  simp only [List.map_cons, List.map_nil, h, h', fillL, hl, hl', hz, Nat.zero_mul, Nat.zero_add, Nat.one_mul]
  rw [if_pos ⟨trivial, by omega⟩, h1, if_pos ⟨trivial, by omega⟩]
  congr 1
  simp only [splice, hl, hl', List.take_zero, List.nil_append, Nat.zero_add]
  rw [List.take_append_of_le_length (by omega), List.take_of_length_le (by omega), List.drop_append, List.drop_of_length_le (by omega), List.drop_of_length_le (by simp; omega)]
  simp
theorem RdL.vals {M : Mem} : ∀ {vs : List Value}, (∀ v ∈ vs, v.oneCell' = true) → RdL M (vs.map D.v) vs
  | [], _ => RdL.nil M
  | v :: vs, h => RdL.cons (by unfold Rd; exact ⟨rfl, h v (List.mem_cons_self ..)⟩) (RdL.vals fun u hu => h u (List.mem_cons_of_mem _ hu))
theorem CallOk.pick {P : Program} {w0 : World} {M : Mem} {Γ R : List As} {x : As} {f : FuncId} {args : Array Value} {F : Post} (hp : Pick x Γ R) (h : CallOk P w0 M (x :: R) f args F) : CallOk P w0 M Γ f args F :=
  fun w hw => h w (hw.perm hp.perm)
/-- One fact to the front. -/
theorem CW.front {P : Program} {n : Nat} {w0 : World} {c : Code} {X : Pst} {L : Lm} {M : Mem} {Γ R : List As} {x : As} (hp : Pick x Γ R) (h : CW P n w0 c X L M (x :: R)) : CW P n w0 c X L M Γ :=
  h.pre (Keep.refl L) fun _ hw => hw.perm hp.perm
/-- Facts that are wanted no more. -/
theorem CW.drop {P : Program} {n : Nat} {w0 : World} {c : Code} {X : Pst} {L : Lm} {M : Mem} {Γ Γ' : List As} (hl : List.Sublist Γ' Γ) (h : CW P n w0 c X L M Γ') : CW P n w0 c X L M Γ :=
  h.pre (Keep.refl L) fun _ hw => hw.sub hl
theorem fillNode17 {us zs : List Value} (h : us.length = 15) (a b : Value) (hz : zs.length = 17) : fillL ([(0, 15), (15, 1), (16, 1)][·]?) zs [(0, us), (1, [a]), (2, [b])] = some (us ++ [a, b]) := by
  have h0 : splice zs 0 us = us ++ zs.drop 15 := by simp [splice, h]
  obtain ⟨x, y, hxy⟩ : ∃ x y, zs.drop 15 = [x, y] := by
    have : (zs.drop 15).length = 2 := by simp [hz]
    match hq : zs.drop 15, this with
    | [x, y], _ => exact ⟨x, y, rfl⟩
  rw [hxy] at h0
  have h1 : splice (us ++ [x, y]) 15 [a] = us ++ [a, y] := by simp [splice, List.drop_append, h]
  have h2 : splice (us ++ [a, y]) 16 [b] = us ++ [a, b] := by
    simp [splice, List.take_append, List.drop_append, h]
    rw [List.take_of_length_le (by omega), List.drop_of_length_le (by omega)]
  have l1 : (us ++ [x, y]).length = 17 := by simp [h]
  have l2 : (us ++ [a, y]).length = 17 := by simp [h]
  simp only [fillL, List.getElem?_cons_zero, List.getElem?_cons_succ, h, hz, h0, h1, h2, l1, l2, List.length_singleton]
  simp
theorem fillNode16 {us zs : List Value} (h : us.length = 15) (a : Value) (hz : zs.length = 16) : fillL ([(0, 15), (15, 1)][·]?) zs [(0, us), (1, [a])] = some (us ++ [a]) := by
  have h0 : splice zs 0 us = us ++ zs.drop 15 := by simp [splice, h]
  obtain ⟨x, hxy⟩ : ∃ x, zs.drop 15 = [x] := by
    have : (zs.drop 15).length = 1 := by simp [hz]
    match hq : zs.drop 15, this with
    | [x], _ => exact ⟨x, rfl⟩
  rw [hxy] at h0
  have h1 : splice (us ++ [x]) 15 [a] = us ++ [a] := by simp [splice, List.drop_append, h]
  simp [fillL, h, hz, h0, h1]
end Xe

/-
  THE ENGINE, PART H: regions that draw their order and turn memory. No program in sight.
-/
namespace Xe
open Go

/-- Only the ordinary end is let by. -/
def Norm (R : Act → World → Prop) : Exit → Act → World → Prop
  | .normal, a, w => R a w
  | _, _, _ => False

theorem upon_norm {P : Program} {o : Oper} {a : Act} {K : Act → World → Prop} {R R' : Act → World → Prop} {r : Result Next} (h : o.upon P a K (Norm R) r) : o.upon P a K (Norm R') r := by
  cases r with
  | ok x w =>
    cases x <;> simp only [Oper.upon] at h ⊢ <;> first | exact h | (refine h.mono fun e w'' he => ?_; cases e <;> first | exact he | exact he.elim | (obtain ⟨a, w, hf⟩ := he; exact hf.elim))
  | halt x w => cases x <;> simp only [Oper.upon] at h ⊢ <;> exact h

/-- The class of worlds in which the quiet operations of the region are known: Mc, Γc. -/
def HL (P : Program) (n : Nat) (w0 : World) (ops : Array Oper) (Mc : Mem) (Γc : List As) (fuel : Nat) (listed : Array Bool) (L : Lm) (M : Mem) (Γ : List As) (K : Lm → Mem → List As → Prop) : Prop :=
  (∃ w, St w0 Mc Γc w) → ∀ R : Act → World → Prop, (∀ L M Γ, K L M Γ → ∀ a w, Sat n L a → St w0 M Γ w → R a w) →
  ∀ a w, Sat n L a → St w0 M Γ w → St w0 Mc Γc w → wpAnyH P .any ops (Norm R) (St w0 Mc Γc) fuel listed a w

section
variable {P : Program} {n : Nat} {w0 : World} {ops : Array Oper} {Mc : Mem} {Γc : List As} {fuel : Nat} {listed : Array Bool} {L : Lm} {M : Mem} {Γ : List As} {K : Lm → Mem → List As → Prop}

theorem HL.done (hr : Region.ready .any ops listed = []) (h : K L M Γ) : HL P n w0 ops Mc Γc fuel listed L M Γ K :=
  fun _ _ hR a w ha hw _ => wpAnyH_done hr (hR L M Γ h a w ha hw) fuel

/-- A quiet operation is taken first. -/
theorem HL.take (i : Nat) {op : Op} {ty : TypeId} {pos : String} {after : Array Edge} {g : Option (Nat × Bool)} {d : Nat} {v : Value} (hi : ops[i]? = some ⟨some d, op, ty, pos, after, g⟩) (hs : Region.noSelect ops = true) (hf : Region.free .any ops listed i = true)
    (hr : (Region.ready .any ops listed).contains i = true) (hg : Want ops L ⟨some d, op, ty, pos, after, g⟩ true) (hy : Yq P w0 L Mc Γc ⟨some d, op, ty, pos, after, g⟩ v) (hd : Nat.blt d n = true)
    (h : HL P n w0 ops Mc Γc fuel (listed.setIfInBounds i true) ((d, v) :: L) M Γ K) : HL P n w0 ops Mc Γc (fuel + 1) listed L M Γ K :=
  fun hex R hR a w ha hw hc => wpAnyH_take hi hs hf hr (fun _ _ _ h => h) (.inl ⟨hg.spec ha, fun w hw => hy n a w ha hw⟩) hc (h hex R hR _ w (ha.put hd) hw hc)

theorem HL.takeNo (i : Nat) {op : Op} {ty : TypeId} {pos : String} {after : Array Edge} {g : Option (Nat × Bool)} {d : Nat} (hi : ops[i]? = some ⟨some d, op, ty, pos, after, g⟩) (hs : Region.noSelect ops = true) (hf : Region.free .any ops listed i = true)
    (hr : (Region.ready .any ops listed).contains i = true) (hg : Want ops L ⟨some d, op, ty, pos, after, g⟩ false) (hd : Nat.blt d n = true)
    (h : HL P n w0 ops Mc Γc fuel (listed.setIfInBounds i true) ((d, undef) :: L) M Γ K) : HL P n w0 ops Mc Γc (fuel + 1) listed L M Γ K :=
  fun hex R hR _ w ha hw hc => wpAnyH_take hi hs hf hr (fun _ _ _ h => h) (.inr ⟨hg.spec ha, rfl⟩) hc (h hex R hR _ w (ha.put hd) hw hc)

/-- What is known of the class may be used. -/
theorem HL.know {F : Prop} (hF : ∀ w, St w0 Mc Γc w → F) (h : F → HL P n w0 ops Mc Γc fuel listed L M Γ K) : HL P n w0 ops Mc Γc fuel listed L M Γ K :=
  fun hex => h (let ⟨w, hw⟩ := hex; hF w hw) hex

/-- The class with a fact more on what is sealed. -/
theorem HL.more {Γc' : List As} (h1 : ∀ w, St w0 Mc Γc w ↔ St w0 Mc Γc' w) (h : HL P n w0 ops Mc Γc' fuel listed L M Γ K) : HL P n w0 ops Mc Γc fuel listed L M Γ K := by
  have e : St w0 Mc Γc = St w0 Mc Γc' := funext fun w => propext (h1 w)
  unfold HL at h ⊢
  rw [e]
  exact h

theorem wpOp_of_RL {i : Nat} {o : Oper} {K' : Lm → Mem → List As → Prop} {R R' : Act → World → Prop} (hi : ops[i]? = some o) (h : RL P n w0 ops [o] L M Γ K') (hR : ∀ L M Γ, K' L M Γ → ∀ a w, Sat n L a → St w0 M Γ w → R a w) {a : Act} {w : World} (ha : Sat n L a) (hw : St w0 M Γ w) :
    wpOp P ops (Norm R') i R a w := by
  have h1 := h (Norm R) hR a w ha hw
  unfold wpOp
  simp only [hi]
  unfold wpList at h1
  split
  · rename_i hwt
    rw [if_pos hwt] at h1
    rcases h1 with h1 | ⟨_, a, w, hf⟩
    · exact .inl (upon_norm (R := R) h1)
    · exact hf.elim
  · rename_i hwt
    rw [if_neg hwt] at h1
    exact h1

/-- The one operation that may come up. -/
theorem HL.step (i : Nat) {o : Oper} (hi : ops[i]? = some o) (hr : Region.ready .any ops listed = [i])
    (h : RL P n w0 ops [o] L M Γ (fun L' M' Γ' => ((∃ w, St w0 Mc Γc w) → ∀ w, St w0 M' Γ' w → St w0 Mc Γc w) ∧ HL P n w0 ops Mc Γc fuel (listed.setIfInBounds i true) L' M' Γ' K)) : HL P n w0 ops Mc Γc (fuel + 1) listed L M Γ K := by
  intro hex R hR a w ha hw hc
  refine wpAnyH_all hr (by simp) fun j hj => ?_
  simp only [List.mem_singleton] at hj
  subst hj
  exact wpOp_of_RL hi h (fun L' M' Γ' hK a' w' ha' hw' => ⟨hK.1 hex w' hw', hK.2 hex R hR a' w' ha' hw' (hK.1 hex w' hw')⟩) ha hw

/-- One of two. -/
theorem HL.step2 (i j : Nat) {o o' : Oper} (hi : ops[i]? = some o) (hj : ops[j]? = some o') (hr : Region.ready .any ops listed = [i, j])
    (h : RL P n w0 ops [o] L M Γ (fun L' M' Γ' => ((∃ w, St w0 Mc Γc w) → ∀ w, St w0 M' Γ' w → St w0 Mc Γc w) ∧ HL P n w0 ops Mc Γc fuel (listed.setIfInBounds i true) L' M' Γ' K))
    (h' : RL P n w0 ops [o'] L M Γ (fun L' M' Γ' => ((∃ w, St w0 Mc Γc w) → ∀ w, St w0 M' Γ' w → St w0 Mc Γc w) ∧ HL P n w0 ops Mc Γc fuel (listed.setIfInBounds j true) L' M' Γ' K)) : HL P n w0 ops Mc Γc (fuel + 1) listed L M Γ K := by
  intro hex R hR a w ha hw hc
  refine wpAnyH_all hr (by simp) fun k hk => ?_
  simp only [List.mem_cons, List.not_mem_nil, or_false] at hk
  rcases hk with rfl | rfl
  · exact wpOp_of_RL hi h (fun L' M' Γ' hK a' w' ha' hw' => ⟨hK.1 hex w' hw', hK.2 hex R hR a' w' ha' hw' (hK.1 hex w' hw')⟩) ha hw
  · exact wpOp_of_RL hj h' (fun L' M' Γ' hK a' w' ha' hw' => ⟨hK.1 hex w' hw', hK.2 hex R hR a' w' ha' hw' (hK.1 hex w' hw')⟩) ha hw

/-- What still holds of the class behind a step: nothing new is sealed .. -/
theorem keep_same {Γ' : List As} (hl : List.Sublist Γc Γ') : (∃ w, St w0 Mc Γc w) → ∀ w, St w0 Mc Γ' w → St w0 Mc Γc w := fun _ _ hw => hw.sub hl
/-- .. or it is. -/
theorem keep_more {M' : Mem} {Γ' : List As} (hs : Sub Mc M') (hl : List.Sublist Γc Γ') : (∃ w, St w0 Mc Γc w) → ∀ w, St w0 M' Γ' w → St w0 Mc Γc w := fun ⟨_, h⟩ _ hw => h.back (hw.sub hl) hs

theorem CW.regionH {id : Nat} {X : Pst} {l : List Oper} (hm : P.follows .mixedOrders = true) (Mc : Mem) (Γc : List As) (hc : ∀ w, St w0 M Γ w → St w0 Mc Γc w)
    (h : HL P n w0 l.toArray Mc Γc l.length (Array.replicate l.length false) L M Γ (X .normal)) : CW P n w0 (.region id l.toArray true) X L M Γ := by
  intro a w ha hw
  have hw' := hw.draw (w.drawn + 1)
  have h1 := h ⟨_, hc _ hw'⟩ (fun a w => Real n w0 X .normal a w) (fun L M Γ hX a w ha hw => ⟨L, M, Γ, hX, ha, hw⟩) a _ ha hw' (hc _ hw')
  have h2 := wp_region_held (P := P) (id := id) (Q := Norm (fun a w => Real n w0 X .normal a w)) (S := St w0 Mc Γc) (ops := l.toArray) (a := a) (w := w) hm (by simpa using h1)
  refine wp_mono h2 fun e a w he => ?_
  cases e <;> first | exact he | exact he.elim

theorem pure_iff {x : As} (hb : x.blk = none) (hx : ∀ w, x.ok M w) : ∀ w, St w0 M Γc w ↔ St w0 M (x :: Γc) w := fun w => ⟨fun h => h.add (hx w) hb, fun h => h.sub (List.sublist_cons_self _ _)⟩

/-- A quiet operation whose value is known by what it reads as. -/
theorem HL.takeX (i : Nat) {op : Op} {ty : TypeId} {pos : String} {after : Array Edge} {g : Option (Nat × Bool)} {d : Nat} (hi : ops[i]? = some ⟨some d, op, ty, pos, after, g⟩) (hs : Region.noSelect ops = true) (hf : Region.free .any ops listed i = true)
    (hr : (Region.ready .any ops listed).contains i = true) (hg : Want ops L ⟨some d, op, ty, pos, after, g⟩ true) (F : Value → As → Prop) (hex : ∀ w, St w0 M Γc w → ∃ v x, F v x)
    (hF : ∀ v x, F v x → Yq P w0 L M Γc ⟨some d, op, ty, pos, after, g⟩ v ∧ x.blk = none ∧ ∀ w, x.ok M w) (hd : Nat.blt d n = true)
    (h : ∀ v x, F v x → HL P n w0 ops M (x :: Γc) fuel (listed.setIfInBounds i true) ((d, v) :: L) M (x :: Γ) K) : HL P n w0 ops M Γc (fuel + 1) listed L M Γ K := by
  refine HL.know hex ?_
  rintro ⟨v, x, hv⟩
  obtain ⟨h1, h2, h3⟩ := hF v x hv
  refine HL.take i hi hs hf hr hg h1 hd ?_
  have h4 := h v x hv
  refine HL.more (pure_iff h2 h3) ?_
  exact fun hex R hR a w ha hw hc => h4 hex R hR a w ha (hw.add (h3 w) h2) hc

theorem HL.loadSl (i : Nat) {x : Operand} {t : TypeId} {ty : TypeId} {pos : String} {af : Array Edge} {g : Option (Nat × Bool)} {d : Nat} {a : Option Addr} {q n0 sz0 l c n1 sz1 : Nat} {cs cs1 : List D} (hi : ops[i]? = some ⟨some d, .load t x, ty, pos, af, g⟩) (hs : Region.noSelect ops = true) (hf : Region.free .any ops listed i = true)
    (hr : (Region.ready .any ops listed).contains i = true) (hg : Want ops L ⟨some d, .load t x, ty, pos, af, g⟩ true)
    (hx : evL L x = some (.pointer (some (adr a q)))) (hm : As.rd (.sl n0 sz0 cs) (.slice a l c) ∈ Γc) (hq : cs[q]? = some (.sl n1 sz1 cs1)) (hfl : flatB P t = true) (hd : Nat.blt d n = true)
    (h : ∀ a1 c1, n1 ≤ c1 → n1 ≤ 140737488355328 → HL P n w0 ops M (.rd (.sl n1 sz1 cs1) (.slice a1 n1 c1) :: Γc) fuel (listed.setIfInBounds i true) ((d, .slice a1 n1 c1) :: L) M (.rd (.sl n1 sz1 cs1) (.slice a1 n1 c1) :: Γ) K) :
    HL P n w0 ops M Γc (fuel + 1) listed L M Γ K := by
  refine HL.takeX i hi hs hf hr hg (fun v x => cellM M (adr a q) = some v ∧ Rd M (.sl n1 sz1 cs1) v ∧ x = .rd (.sl n1 sz1 cs1) v) (fun w hw => ?_) ?_ hd ?_
  · obtain ⟨u, h1, h2⟩ := hw.rd_cell hm hq
    exact ⟨u, _, h1, h2, rfl⟩
  · rintro v _ ⟨h1, h2, rfl⟩
    exact ⟨Y.load hx hfl fun w hw => hw.cell h1, rfl, fun _ => h2⟩
  · rintro v _ ⟨h1, h2, rfl⟩
    have hr' := h2
    simp only [Rd] at hr'
    obtain ⟨a1, c1, rfl, h3, _, h4, _⟩ := hr'
    exact h a1 c1 h3 h4

theorem HL.loadOwnSl (i : Nat) {x : Operand} {t : TypeId} {ty : TypeId} {pos : String} {af : Array Edge} {g : Option (Nat × Bool)} {d b e : Nat} {q n1 sz1 : Nat} {us : List Value} {ds cs1 : List D} (hi : ops[i]? = some ⟨some d, .load t x, ty, pos, af, g⟩) (hs : Region.noSelect ops = true) (hf : Region.free .any ops listed i = true)
    (hr : (Region.ready .any ops listed).contains i = true) (hg : Want ops L ⟨some d, .load t x, ty, pos, af, g⟩ true)
    (hx : evL L x = some (.pointer (some (adr (some ⟨b, 0, none⟩) q)))) (hm : As.own b e us ∈ Γc) (hrd : As.rds ds us ∈ Γc) (hq : ds[q]? = some (.sl n1 sz1 cs1)) (hfl : flatB P t = true) (hd : Nat.blt d n = true)
    (h : ∀ a1 c1, us[q]? = some (.slice a1 n1 c1) → n1 ≤ c1 → n1 ≤ 140737488355328 → HL P n w0 ops M (.rd (.sl n1 sz1 cs1) (.slice a1 n1 c1) :: Γc) fuel (listed.setIfInBounds i true) ((d, .slice a1 n1 c1) :: L) M (.rd (.sl n1 sz1 cs1) (.slice a1 n1 c1) :: Γ) K) :
    HL P n w0 ops M Γc (fuel + 1) listed L M Γ K := by
  refine HL.takeX i hi hs hf hr hg (fun v x => us[q]? = some v ∧ Rd M (.sl n1 sz1 cs1) v ∧ x = .rd (.sl n1 sz1 cs1) v) (fun w hw => ?_) ?_ hd ?_
  · obtain ⟨u, h1, h2⟩ := RdL.get (hw.all _ hrd) hq
    exact ⟨u, _, h1, h2, rfl⟩
  · rintro v _ ⟨h1, h2, rfl⟩
    exact ⟨Y.load hx hfl fun w hw => hw.own_cell hm h1, rfl, fun _ => h2⟩
  · rintro v _ ⟨h1, h2, rfl⟩
    have hr' := h2
    simp only [Rd] at hr'
    obtain ⟨a1, c1, rfl, h3, _, h4, _⟩ := hr'
    exact h a1 c1 h1 h3 h4

theorem HL.loadAgg (i : Nat) {x : Operand} {t : TypeId} {ty : TypeId} {pos : String} {af : Array Edge} {g : Option (Nat × Bool)} {d : Nat} {a : Option Addr} {q sz n0 sz0 l c : Nat} {cs ds : List D} (hi : ops[i]? = some ⟨some d, .load t x, ty, pos, af, g⟩) (hs : Region.noSelect ops = true) (hf : Region.free .any ops listed i = true)
    (hr : (Region.ready .any ops listed).contains i = true) (hg : Want ops L ⟨some d, .load t x, ty, pos, af, g⟩ true)
    (hx : evL L x = some (.pointer (some (adr a q)))) (hm : As.rd (.sl n0 sz0 cs) (.slice a l c) ∈ Γc) (hq : (cs.drop q).take sz = ds) (hl : ds.length = sz) (hag : aggB P t sz = true) (hd : Nat.blt d n = true)
    (h : ∀ us, us.length = sz → RdL M ds us → HL P n w0 ops M (.rds ds us :: Γc) fuel (listed.setIfInBounds i true) ((d, .agg us.toArray) :: L) M (.rds ds us :: Γ) K) :
    HL P n w0 ops M Γc (fuel + 1) listed L M Γ K := by
  refine HL.takeX i hi hs hf hr hg (fun v x => ∃ us, v = .agg us.toArray ∧ x = .rds ds us ∧ RdL M ds us ∧ ∀ j v, us[j]? = some v → cellM M (adr a (q + j)) = some v) (fun w hw => ?_) ?_ hd ?_
  · obtain ⟨us, h1, h2⟩ := cells_of (M := M) (a := a) (q := q) (ds := ds) (fun j e hj => hw.rd_cell hm (sub_get hq hj))
    exact ⟨_, _, us, rfl, rfl, h1, h2⟩
  · rintro _ _ ⟨us, rfl, rfl, h1, h2⟩
    refine ⟨Y.loadAgg hx (by rw [h1.1, hl]; exact hag) fun w hw j v hj => ?_, rfl, fun _ => h1⟩
    rw [adr_add]
    exact hw.cell (h2 j v hj)
  · rintro _ _ ⟨us, rfl, rfl, h1, h2⟩
    exact h us (by rw [h1.1, hl]) h1

/-- The class: all but what the region turns. -/
theorem CW.regionHP {id : Nat} {X : Pst} {l : List Oper} {x : As} {R : List As} (hm : P.follows .mixedOrders = true) (hp : Pick x Γ R)
    (h : HL P n w0 l.toArray M R l.length (Array.replicate l.length false) L M Γ (X .normal)) : CW P n w0 (.region id l.toArray true) X L M Γ :=
  CW.regionH hm M R (fun _ hw => (hw.perm hp.perm).sub (List.sublist_cons_self _ _)) h
end
end Xe

/-
  THE ENGINE, PART I: results that live in memory; matrices; what was sealed for a while. No program in sight.
-/
namespace Xe
open Go

/-! ### Results in memory -/
/-- What is asked at a return: the result's own block. -/
def CellAt (P : Program) (w0 : World) (r : Nat) (t : TypeId) (L : Lm) (M : Mem) (Γ : List As) (R : Post) : Prop :=
  ∃ b e cs, getL L r = some (.pointer (some (adr (some ⟨b, 0, none⟩) 0))) ∧ As.own b e cs ∈ Γ ∧ aggB P t cs.length = true ∧ Turn w0 M Γ (R (.agg cs.toArray))

theorem CellAt.mk {P : Program} {w0 : World} {r : Nat} {t : TypeId} {L : Lm} {M : Mem} {Γ : List As} {R : Post} {b e sz : Nat} {cs : List Value} (h1 : getL L r = some (.pointer (some (adr (some ⟨b, 0, none⟩) 0)))) (h2 : As.own b e cs ∈ Γ)
    (h3 : cs.length = sz) (h4 : aggB P t sz = true) (h5 : Turn w0 M Γ (R (.agg cs.toArray))) : CellAt P w0 r t L M Γ R := ⟨b, e, cs, h1, h2, by rw [h3]; exact h4, h5⟩

theorem run_loadOwn {P : Program} {w0 w : World} {M : Mem} {Γ : List As} {b : Nat} {e t : TypeId} {cs : List Value} (hw : St w0 M Γ w) (hm : As.own b e cs ∈ Γ) (ha : aggB P t cs.length = true) :
    (loadVar t (adr (some ⟨b, 0, none⟩) 0)).run P w = .ok (.agg cs.toArray) w := by
  obtain ⟨h1, h2⟩ := run_aggB (P := P) (w := w) ha
  have h3 := Y.run_loadCellsFrom (P := P) (w := w) (p := adr (some ⟨b, 0, none⟩) 0) cs 0 #[] (by
    intro j v hj
    rw [adr_add]
    simpa using hw.own_cell hm hj)
  simp [loadVar, h1, h2, loadCells, h3]

theorem enterCell {P : Program} {f : FuncId} {fn : Func} {c : Code} {args : List Value} {w0 : World} {M : Mem} {Γ : List As} {R : Post} {r n : Nat} {t : TypeId}
    (hf : P.funcs[f]? = some fn) (hb : fn.body = some c) (hn : fn.ntmps = n) (hr : fn.results = #[.cell r t]) (ha : Nat.ble args.length n = true)
    (h : ∀ w1, St w0 M Γ w1 → CW P n w0 c (fun e L M Γ => match e with
      | .ret | .normal => CellAt P w0 r t L M Γ R
      | _ => False) (slotsOf 0 args) M Γ) : CallOk P w0 M Γ f args.toArray R := by
  intro w hw
  refine calls_of_wp hf hb ?_
  rw [hn]
  refine wp_mono (h w hw _ w (sat_start n args ha) hw) ?_
  rintro e a w' ⟨L, M1, Γ1, hX, h1, h2⟩
  cases e with
  | normal | ret =>
    obtain ⟨b, e, cs, hv, hm, hag, hi⟩ := hX
    obtain ⟨M', Γ', hR, hw'⟩ := hi w' h2
    refine ⟨h1.defers, .agg cs.toArray, ?_, _, M', Γ', rfl, hR, hw'⟩
    have e1 := h1.get r _ hv
    simp [results, hr, e1, asAddr, run_loadOwn h2 hm hag]
  | _ => exact hX.elim

theorem enterCell2 {P : Program} {f : FuncId} {fn : Func} {c : Code} {args : List Value} {w0 : World} {M : Mem} {Γ : List As} {R : Post} {r s n : Nat} {t : TypeId}
    (hf : P.funcs[f]? = some fn) (hb : fn.body = some c) (hn : fn.ntmps = n) (hr : fn.results = #[.cell r t, .tmp s]) (ha : Nat.ble args.length n = true)
    (h : ∀ w1, St w0 M Γ w1 → CW P n w0 c (fun e L M Γ => match e with
      | .ret | .normal => ∃ v, getL L s = some v ∧ CellAt P w0 r t L M Γ (fun u => R (.tuple #[u, v]))
      | _ => False) (slotsOf 0 args) M Γ) : CallOk P w0 M Γ f args.toArray R := by
  intro w hw
  refine calls_of_wp hf hb ?_
  rw [hn]
  refine wp_mono (h w hw _ w (sat_start n args ha) hw) ?_
  rintro e a w' ⟨L, M1, Γ1, hX, h1, h2⟩
  cases e with
  | normal | ret =>
    obtain ⟨v, hs, b, e, cs, hv, hm, hag, hi⟩ := hX
    obtain ⟨M', Γ', hR, hw'⟩ := hi w' h2
    refine ⟨h1.defers, .tuple #[.agg cs.toArray, v], ?_, _, M', Γ', rfl, hR, hw'⟩
    have e1 := h1.get r _ hv
    have e2 := h1.get s _ hs
    simp [results, hr, e1, e2, asAddr, run_loadOwn h2 hm hag]
  | _ => exact hX.elim

theorem Turn.sealOwn {w0 : World} {M1 : Mem} {Γ Γ1 R : List As} {F : Mem → List As → Prop} {b : Nat} {e : TypeId} {sz n : Nat} {us : List Value} {ds : List D} (hp : Pick (.own b e us) Γ1 R) (hr : RdL M1 ds us) (hl : us.length = n * sz) (hn : n ≤ lim) (hs : List.Sublist Γ R)
    (hF : ∀ M', Sub M1 M' → Rd M' (.sl n sz ds) (.slice (some ⟨b, 0, none⟩) n n) → F M' Γ) : Turn w0 M1 Γ1 F := fun _ hw => by
  obtain ⟨M', h1, h2, h3⟩ := (hw.perm hp.perm).seal_own hr hl hn
  exact ⟨M', Γ, hF M' h1 h2, h3.sub (hs.trans (List.sublist_cons_self _ _))⟩

/-! ### Rows of numbers that are written -/
abbrev ints (l : List Int) : List Value := l.map fun n => .int .i64 n
/-- The rows, each in a block of its own. -/
def mat (l : List (Nat × List Int)) : List As := l.map fun p => .own p.1 3 (ints p.2)
def rowv (p : Nat × List Int) : Value := .slice (some ⟨p.1, 0, none⟩) p.2.length p.2.length
theorem mat_mem {l : List (Nat × List Int)} {k : Nat} {p : Nat × List Int} (h : l[k]? = some p) {Γ : List As} : As.own p.1 3 (ints p.2) ∈ mat l ++ Γ :=
  List.mem_append_left _ (List.mem_map.2 ⟨p, List.mem_of_getElem? h, rfl⟩)
theorem Repl.app {x x' : As} (Γ0 : List As) {Γ Γ' : List As} (h : Repl x x' Γ Γ') : Repl x x' (Γ0 ++ Γ) (Γ0 ++ Γ') := by
  induction Γ0 with
  | nil => exact h
  | cons y ys ih => exact .there y ih
theorem Repl.mat : ∀ {l : List (Nat × List Int)} {k : Nat} {b : Nat} {r : List Int} (_ : l[k]? = some (b, r)) (r' : List Int) (Γ : List As),
    Repl (.own b 3 (ints r)) (.own b 3 (ints r')) (Xe.mat l ++ Γ) (Xe.mat (l.set k (b, r')) ++ Γ)
  | [], _, _, _, h, _, _ => by simp at h
  | p :: l, 0, b, r, h, r', Γ => by
    simp only [List.getElem?_cons_zero, Option.some.injEq] at h
    subst h
    exact .here _
  | p :: l, k + 1, b, r, h, r', Γ => .there _ (Repl.mat (l := l) (k := k) (by simpa using h) r' Γ)

/-- Sealed for a while. -/
def Mem.putAll (M : Mem) : List (Nat × List Int) → Mem
  | [] => M
  | p :: l => (Mem.putAll M l).put p.1 (.cells (ints p.2).toArray 3 (0, 0))

theorem St.sealMat {w0 w : World} {M : Mem} {Γ : List As} : ∀ (l : List (Nat × List Int)), St w0 M (mat l ++ Γ) w →
    St w0 (M.putAll l) Γ w ∧ Sub M (M.putAll l) ∧ (∀ p ∈ l, M.putAll l p.1 = some (.cells (ints p.2).toArray 3 (0, 0)))
  | [], h => ⟨h, Sub.refl M, fun p hp => by simp at hp⟩
  | p :: l, h => by
    have hp : St w0 M (mat l ++ (.own p.1 3 (ints p.2) :: Γ)) w := h.perm (by
      show List.Perm (.own p.1 3 (ints p.2) :: (mat l ++ Γ)) _
      exact List.perm_middle.symm)
    obtain ⟨h1, h2, h3⟩ := St.sealMat l hp
    have hx := h1.all _ (List.mem_cons_self ..)
    have hs : Sub (M.putAll l) ((M.putAll l).put p.1 (.cells (ints p.2).toArray 3 (0, 0))) := Mem.put_sub hx.1
    refine ⟨h1.seal_block rfl hx.2, h2.trans hs, fun q hq => ?_⟩
    rcases List.mem_cons.1 hq with rfl | hq
    · simp [Mem.putAll, Mem.put]
    · exact hs _ _ (h3 q hq)

theorem mat_blks (l : List (Nat × List Int)) : (mat l).filterMap As.blk = l.map (·.1) := by
  induction l with
  | nil => rfl
  | cons p l ih => simp only [mat, List.map_cons, List.filterMap_cons, As.blk]; congr 1

/-- .. and no longer: what is known besides was known before, or speaks of a block of its own. -/
theorem St.unshut {w0 w w' : World} {M : Mem} {Γ Γ1 : List As} {l : List (Nat × List Int)} (h : St w0 M (mat l ++ Γ) w) (h' : St w0 (M.putAll l) (Γ1 ++ Γ) w') (hn : ∀ x ∈ Γ1, ∃ b e cs, x = As.own b e cs) : St w0 M (mat l ++ (Γ1 ++ Γ)) w' := by
  obtain ⟨hs1, hs2, hs3⟩ := St.sealMat l h
  refine ⟨h'.os, h'.tape, h'.output, h'.size, fun b o hb => h'.mem b o (hs2 b o hb), fun x hx => ?_, ?_⟩
  · rcases List.mem_append.1 hx with hx | hx
    · have h0 := h.all x (List.mem_append_left _ hx)
      obtain ⟨p, hp, rfl⟩ := List.mem_map.1 hx
      exact ⟨h0.1, h'.mem _ _ (hs3 p hp)⟩
    · have h2 := h'.all x hx
      rcases List.mem_append.1 hx with hx | hx
      · obtain ⟨b, e, cs, rfl⟩ := hn x hx
        refine ⟨?_, h2.2⟩
        cases hM : M b with
        | none => rfl
        | some o => have := hs2 b o hM; rw [h2.1] at this; cases this
      · have h0 := h.all x (List.mem_append_right _ hx)
        cases x with
        | rd d u => exact h0
        | rds d u => exact h0
        | own b e cs => exact ⟨h0.1, h2.2⟩
        | acc u e sz n us => exact ⟨h2.1, h0.2⟩
        | mp b l => exact ⟨h0.1, h2.2⟩
  · rw [List.filterMap_append, mat_blks]
    have hd := h.nodup
    rw [List.filterMap_append, mat_blks] at hd
    refine List.nodup_append.2 ⟨(List.nodup_append.1 hd).1, h'.nodup, fun a ha b hb => ?_⟩
    obtain ⟨p, hp, rfl⟩ := List.mem_map.1 ha
    obtain ⟨x, hx, hxb⟩ := List.mem_filterMap.1 hb
    rintro rfl
    have := (As.ok_blk_lt (h'.all x hx) hxb).2
    rw [hs3 p hp] at this
    cases this

/-! ### Parts of slices -/
def OptIs (L : Lm) : Option Operand → Nat → Nat → Prop
  | none, d, k => k = d
  | some x, _, k => ∃ z, evL L x = some (.int .i64 z) ∧ z = (k : Int)
theorem run_sliceBound {P : Program} {w : World} {z : Int} {y k : Nat} {c : BoundsCode} (h : z = (k : Int)) (hk : k ≤ y) : (Instr.sliceBound (.int .i64 z) y c).run P w = .ok k w := by
  subst h
  simp [Instr.sliceBound, asIntOf, hk]
def cutV (a : Option Addr) (l h m sz : Nat) : Value := .slice (if m = l then a else a.map (·.add (l * sz))) (h - l) (m - l)
theorem Y.slice {P : Program} {w0 : World} {L : Lm} {M : Mem} {Γ : List As} {d : Option Nat} {ty : TypeId} {pos : String} {af : Array Edge} {g : Option (Nat × Bool)} {x : Operand} {lo hi mx : Option Operand} {t e sz : Nat} {a : Option Addr} {n c : Nat} (l h m : Nat)
    (hx : evL L x = some (.slice a n c)) (hlo : OptIs L lo 0 l) (hhi : OptIs L hi n h) (hmx : OptIs L mx c m) (hb : hi.isSome = true ∨ mx.isSome = false) (h1 : l ≤ h) (h2 : h ≤ m) (h3 : m ≤ c) (ht : sliceB P t e sz = true) :
    Yq P w0 L M Γ ⟨d, .slice t x lo hi mx, ty, pos, af, g⟩ (cutV a l h m sz) := fun k ac w ha _ => by
  obtain ⟨e1, e2⟩ := sliceB_spec ht
  have r3 := run_sizeB (P := P) (w := w) e2
  have key : (Instr.slice t (.slice a n c) (lo.map ac.eval) (hi.map ac.eval) (mx.map ac.eval)).run P w = .ok (cutV a l h m sz) w := by
    have hl : lo = none ∧ l = 0 ∨ ∃ y z, lo = some y ∧ ac.eval y = .int .i64 z ∧ z = (l : Int) := by
      cases lo with
      | none => exact .inl ⟨rfl, hlo⟩
      | some y => obtain ⟨z, hz, e⟩ := hlo; exact .inr ⟨y, z, rfl, ha.ev hz, e⟩
    cases mx with
    | none =>
      simp only [OptIs] at hmx; subst hmx
      cases hi with
      | none =>
        simp only [OptIs] at hhi; subst hhi
        rcases hl with ⟨rfl, rfl⟩ | ⟨y, z, rfl, hy, hz⟩
        · simp [Instr.slice, run_underlying e1, Instr.sliceBounds, r3, cutV]
        · simp [Instr.slice, run_underlying e1, Instr.sliceBounds, hy, r3, run_sliceBound hz h1, cutV]
      | some y =>
        obtain ⟨z, hz, e⟩ := hhi
        rcases hl with ⟨rfl, rfl⟩ | ⟨y', z', rfl, hy, hz'⟩
        · simp [Instr.slice, run_underlying e1, Instr.sliceBounds, ha.ev hz, r3, run_sliceBound e h2, cutV]
        · simp [Instr.slice, run_underlying e1, Instr.sliceBounds, ha.ev hz, hy, r3, run_sliceBound e h2, run_sliceBound hz' h1, cutV]
    | some u =>
      obtain ⟨z', hz', e'⟩ := hmx
      cases hi with
      | none => simp at hb
      | some y =>
        obtain ⟨z, hz, e⟩ := hhi
        rcases hl with ⟨rfl, rfl⟩ | ⟨y', z'', rfl, hy, hz''⟩
        · simp [Instr.slice, run_underlying e1, Instr.sliceBounds, ha.ev hz, ha.ev hz', r3, run_sliceBound e h2, run_sliceBound e' h3, cutV]
        · simp [Instr.slice, run_underlying e1, Instr.sliceBounds, ha.ev hz, ha.ev hz', hy, r3, run_sliceBound e h2, run_sliceBound e' h3, run_sliceBound hz'' h1, cutV]
  simp [execOp, ha.ev hx, Instr.sliceAt, run_underlying e1, key]
theorem Rd.cut {M : Mem} {n sz : Nat} {cs : List D} {a : Option Addr} {c : Nat} (hr : Rd M (.sl n sz cs) (.slice a n c)) (l h m : Nat) (h1 : l ≤ h) (h2 : h ≤ m) (h3 : m ≤ c) (h4 : h ≤ n) :
    Rd M (.sl (h - l) sz ((cs.drop (l * sz)).take ((h - l) * sz))) (cutV a l h m sz) := by
  simp only [Rd] at hr ⊢
  obtain ⟨a', cap, e, k1, k2, k3, k4, k5, k6⟩ := hr
  simp only [Value.slice.injEq] at e
  obtain ⟨rfl, _, rfl⟩ := e
  refine ⟨_, _, rfl, by omega, by omega, by omega, ?_, ?_, ?_⟩
  · have := Nat.mul_le_mul_right sz h4
    simp only [List.length_take, List.length_drop, k4, Nat.sub_mul]
    omega
  · intro hp
    have := k5 (by omega)
    by_cases hm : m = l
    · omega
    · rw [if_neg hm]; simpa using this
  · by_cases hm : m = l
    · have : h - l = 0 := by omega
      simp [this, RdC]
    · rw [if_neg hm]
      refine RdC.mk _ 0 fun k d hk => ?_
      have hk' : cs[l * sz + k]? = some d := by
        rw [List.getElem?_take] at hk
        split at hk
        · simpa using hk
        · cases hk
      have hk2 : k < (h - l) * sz := by
        rw [List.getElem?_take] at hk
        split at hk
        · assumption
        · cases hk
      obtain ⟨u, q1, q2⟩ := RdC.get cs 0 k6 _ d hk'
      have hp : 0 < h - l := by
        rcases Nat.eq_zero_or_pos (h - l) with e | e
        · rw [e] at hk2; omega
        · exact e
      have := k5 (by omega)
      obtain ⟨b, rfl⟩ := Option.isSome_iff_exists.1 this
      refine ⟨u, ?_, q2⟩
      rw [Nat.zero_add] at q1 ⊢
      have : adr ((some b).map (·.add (l * sz))) k = adr (some b) (l * sz + k) := by
        have h0 : b.add (l * sz) = adr (some b) (l * sz) := rfl
        show (b.add (l * sz)).add k = _
        rw [h0, adr_add]
      rw [this]
      exact q1

/-! ### append to what is only read, without room: a new row -/
theorem St.own_acc2 {w0 w : World} {M : Mem} {Γ : List As} {b n cap : Nat} {e : TypeId} {sz : Nat} {cs us : List Value} (hw : St w0 M (.own b e cs :: Γ) w) (hl : us.length = n * sz) (hc : cs.length = cap * sz) (ht : cs.take (n * sz) = us) (hn : n ≤ cap) (hm : cap ≤ maxLen) :
    St w0 M (.acc (.slice (some ⟨b, 0, none⟩) n cap) e sz n us :: Γ) w := by
  have hx := hw.all _ (List.mem_cons_self ..)
  refine ⟨hw.os, hw.tape, hw.output, hw.size, hw.mem, fun y hy => ?_, by simpa [List.filterMap_cons, As.blk, Value.ownBlock] using hw.nodup⟩
  rcases List.mem_cons.1 hy with rfl | hy
  · refine ⟨⟨hl, .inr ⟨b, cap, cs.toArray, rfl, Nat.zero_le _, hx.2, hn, hm, by simpa using hc, by simpa using ht⟩⟩, fun k hk => ?_⟩
    simp only [Value.ownBlock, Option.some.injEq] at hk
    subst hk; exact hx.1
  · exact hw.all y (List.mem_cons_of_mem _ hy)

theorem append_fresh {P : Program} {w0 w : World} {M : Mem} {Γ : List As} {t ty e sz bytes n m : Nat} {a : Option Addr} {x : Value} {ds : List D} {news : List Value} (hE : ElemOk P t e sz bytes)
    (hw : St w0 M Γ w) (hr : Rd M (.sl n sz ds) (.slice a n n)) (hs : SrcOk w0 M Γ x sz m news) (hm0 : 0 < m) (hb : (n + m) * bytes ≤ 140737488355328) (hm : n + m ≤ lim) :
    ∃ a' c' us w', (Builtin.append_ #[t, t] ty #[.slice a n n, x]).run P w = .ok (.slice a' (n + m) c') w' ∧ RdL M ds us ∧ n + m ≤ c' ∧ St w0 M (.acc (.slice a' (n + m) c') e sz (n + m) (us ++ news) :: Γ) w' := by
  obtain ⟨ht, ⟨i, z, hi, hz, hsize, hby, hzs⟩, hpos⟩ := hE
  obtain ⟨hl, h1, hsrc⟩ := hs
  have h63 : n + m ≤ maxLen := by unfold lim at hm; unfold maxLen; omega
  rcases hsrc with ⟨p, c, rfl, hnews⟩ | ⟨rfl, c, rfl⟩
  · subst hsize
    simp only [Rd] at hr
    obtain ⟨a0, cap0, e0, k1, k2, k3, k4, k5, k6⟩ := hr
    simp only [Value.slice.injEq] at e0
    obtain ⟨rfl, _, rfl⟩ := e0
    have fin : ∀ (us : List Value), us.length = n * i.size → ∀ cap', n + m ≤ cap' → cap' ≤ maxLen → ∀ (arr : Array Value), arr = (us ++ news).toArray ++ Builtin.zeroCells z.cells (cap' - (n + m)) →
        St w0 M (.acc (.slice (some ⟨w.heap.size, 0, none⟩) (n + m) cap') e i.size (n + m) (us ++ news) :: Γ) (w.drew.alloc (.cells arr e (0, 0))) := by
      intro us hus cap' hc1 hc2 arr harr
      have h5 := (hw.draw (w.drawn + 1)).alloc e arr.toList
      have hzl : (Builtin.zeroCells z.cells (cap' - (n + m))).size = (cap' - (n + m)) * i.size := by rw [size_zeroCells, hzs]
      have h6 : St w0 M (.own w.heap.size e arr.toList :: Γ) (w.drew.alloc (.cells arr e (0, 0))) := by
        have : arr.toList.toArray = arr := by simp
        rw [this] at h5
        exact h5
      have hun : (us ++ news).length = (n + m) * i.size := by rw [List.length_append, hus, hl, Nat.add_mul]
      refine St.own_acc2 (cs := arr.toList) h6 hun ?_ ?_ hc1 hc2
      · rw [harr]
        simp only [Array.toList_append, List.length_append, Array.length_toList, hzl, hus, hl]
        rw [← Nat.add_mul, ← Nat.add_mul]
        congr 1
        omega
      · rw [harr]
        simp only [Array.toList_append]
        rw [List.take_append_of_le_length (by rw [hun]; exact Nat.le_refl _), List.take_of_length_le (by rw [hun]; exact Nat.le_refl _)]
    rcases Nat.eq_zero_or_pos n with rfl | hnp
    · have hd : ds = [] := List.eq_nil_of_length_eq_zero (by rw [k4]; simp)
      subst hd
      cases a with
      | none =>
        have hr2 := run_append_nil (P := P) w t ty e i z ht hi hz p m c news hl (hnews w hw) hm0 (by unfold lim at hm; omega) (by rw [hby]; simp at hb; omega)
        refine ⟨_, _, [], _, by simpa using hr2, RdL.nil _, ?_, ?_⟩
        · simpa using grownCap_ge w m 0 e
        · have := fin [] (by simp) (grownCap w m 0 e) (by simpa using grownCap_ge w m 0 e) (grownCap_le_maxLen w m 0 e (by omega)) _ rfl
          simpa using this
      | some b =>
        have hr2 := run_append_grow (P := P) w t ty e i z ht hi hz b 0 0 [] (by simp) (fun j v h => by simp at h) p m c news hl (hnews w hw) (by omega) (by unfold lim at hm; omega)
          (by rw [hby]; exact growslice_fits (by omega) hb)
        refine ⟨_, _, [], _, hr2, RdL.nil _, grownCap_ge w (0 + m) 0 e, ?_⟩
        have := fin [] (by simp) (grownCap w (0 + m) 0 e) (grownCap_ge w (0 + m) 0 e) (grownCap_le_maxLen w (0 + m) 0 e (by omega)) _ rfl
        simpa using this
    · obtain ⟨b, rfl⟩ := Option.isSome_iff_exists.1 (k5 hnp)
      obtain ⟨us, hus, hcell⟩ := cells_of (M := M) (a := some b) (q := 0) (ds := ds) (fun j e hj => RdC.get ds 0 k6 j e hj)
      have hul : us.length = n * i.size := by rw [hus.1, k4]
      have hr2 := run_append_grow (P := P) w t ty e i z ht hi hz b n n us hul (fun j v hj => by
          have := hw.cell (hcell j v hj)
          rwa [Nat.zero_add, ← adr_of] at this) p m c news hl (hnews w hw) (by omega) (by unfold lim at hm; omega)
          (by rw [hby]; exact growslice_fits (by omega) hb)
      refine ⟨_, _, us, _, hr2, hus, grownCap_ge w (n + m) n e, ?_⟩
      exact fin us hul (grownCap w (n + m) n e) (grownCap_ge w (n + m) n e) (grownCap_le_maxLen w (n + m) n e (by omega)) _ (by simp)
  · omega

section
variable {P : Program} {n : Nat} {w0 : World} {ops : Array Oper} {rest : List Oper} {L : Lm} {M : Mem} {Γ : List As} {K : Lm → Mem → List As → Prop} {ty : TypeId} {pos : String} {af : Array Edge} {d : Nat}
theorem RL.appendFresh {t e sz bytes k m : Nat} {x y : Operand} {a : Option Addr} {ds : List D} {xv : Value} {news : List Value} (hE : ElemOk P t e sz bytes) (hx : evL L x = some (.slice a k k)) (hy : evL L y = some xv) (hr : Rd M (.sl k sz ds) (.slice a k k))
    (hs : SrcOk w0 M Γ xv sz m news) (hm0 : 0 < m) (hb : (k + m) * bytes ≤ 140737488355328) (hm : k + m ≤ lim) (hd : Nat.blt d n = true)
    (h : ∀ a' c' us, k + m ≤ c' → RdL M ds us → RL P n w0 ops rest ((d, .slice a' (k + m) c') :: L) M (.acc (.slice a' (k + m) c') e sz (k + m) (us ++ news) :: Γ) K) : RL P n w0 ops (⟨some d, .call ⟨.builtin .append, #[x, y], #[t, t]⟩, ty, pos, af, none⟩ :: rest) L M Γ K := by
  refine RL.e (fun v M' Γ' => ∃ a' c' us, v = .slice a' (k + m) c' ∧ k + m ≤ c' ∧ RdL M ds us ∧ M' = M ∧ Γ' = .acc v e sz (k + m) (us ++ news) :: Γ) (fun n a w ha hw => ?_) hd ?_
  · obtain ⟨a', c', us, w', h1, h2, h3, h4⟩ := append_fresh (P := P) (ty := ty) hE hw hr hs hm0 hb hm
    refine ⟨_, w', M, _, ?_, ⟨a', c', us, rfl, h3, h2, rfl, rfl⟩, h4⟩
    simp [execOp, resolve, invoke, Go.builtin, ha.ev hx, ha.ev hy, h1]
  · rintro v M' Γ' ⟨a', c', us, rfl, h3, h2, rfl, rfl⟩
    exact h a' c' us h3 h2
/-- A block of whole elements may be grown. -/
theorem RL.ownAcc {b k e sz : Nat} {us : List Value} {R : List As} (hp : Pick (.own b e us) Γ R) (hl : us.length = k * sz) (hk : k ≤ maxLen) (h : RL P n w0 ops rest L M (.acc (.slice (some ⟨b, 0, none⟩) k k) e sz k us :: R) K) : RL P n w0 ops rest L M Γ K :=
  h.pre (fun _ _ h => h) fun _ hw => (hw.perm hp.perm).own_acc hl hk
theorem RL.addRd {dd : D} {u : Value} (hr : Rd M dd u) (h : RL P n w0 ops rest L M (.rd dd u :: Γ) K) : RL P n w0 ops rest L M Γ K :=
  h.pre (fun _ _ h => h) fun _ hw => hw.add (x := .rd dd u) hr rfl
theorem RL.sealAcc {u : Value} {e : TypeId} {sz k : Nat} {us : List Value} {ds : List D} {R : List As} (hp : Pick (.acc u e sz k us) Γ R) (hr : RdL M ds us) (hn : k ≤ lim)
    (h : ∀ M' a c', Sub M M' → u = .slice a k c' → k ≤ c' → Rd M' (.sl k sz ds) (.slice a k c') → RL P n w0 ops rest L M' (.rd (.sl k sz ds) (.slice a k c') :: R) K) : RL P n w0 ops rest L M Γ K := by
  refine RL.turn (F := fun M' Γ' => Sub M M' ∧ Rd M' (.sl k sz ds) u ∧ Γ' = .rd (.sl k sz ds) u :: R) (fun _ hw => ?_) ?_
  · obtain ⟨M', h1, h2, h3⟩ := (hw.perm hp.perm).sealAcc hr hn
    exact ⟨M', _, ⟨h1, h2, rfl⟩, h3⟩
  · rintro M' _ ⟨h1, h2, rfl⟩
    obtain ⟨a, c', rfl, h3, _⟩ := h2.slice
    exact h M' a c' h1 rfl h3 h2
end
theorem RdL.set {M : Mem} {ds : List D} {us : List Value} (h : RdL M ds us) (i : Nat) {d : D} {v : Value} (hv : Rd M d v) : RdL M (ds.set i d) (us.set i v) := by
  refine ⟨by simp [h.1], fun k e u h1 h2 => ?_⟩
  rw [List.getElem?_set] at h1 h2
  by_cases e : i = k
  · subst e
    simp only [if_true] at h1 h2
    split at h1
    · rename_i hlt
      rw [if_pos (by rw [h.1]; exact hlt)] at h2
      cases h1; cases h2; exact hv
    · cases h1
  · rw [if_neg e] at h1 h2
    exact h.2 k _ u h1 h2
theorem CW.sealOwn {P : Program} {n : Nat} {w0 : World} {c : Code} {X : Pst} {L : Lm} {M : Mem} {Γ R : List As} {b k : Nat} {e : TypeId} {sz : Nat} {us : List Value} {ds : List D} (hp : Pick (.own b e us) Γ R) (hr : RdL M ds us) (hl : us.length = k * sz) (hn : k ≤ lim)
    (h : ∀ M', Sub M M' → Rd M' (.sl k sz ds) (.slice (some ⟨b, 0, none⟩) k k) → CW P n w0 c X L M' R) : CW P n w0 c X L M Γ := by
  refine CW.turn (F := fun M' Γ' => Sub M M' ∧ Rd M' (.sl k sz ds) (.slice (some ⟨b, 0, none⟩) k k) ∧ Γ' = R) (fun _ hw => ?_) ?_
  · obtain ⟨M', h1, h2, h3⟩ := (hw.perm hp.perm).seal_own hr hl hn
    exact ⟨M', _, ⟨h1, h2, rfl⟩, h3.sub (List.sublist_cons_self _ _)⟩
  · rintro M' _ ⟨h1, h2, rfl⟩
    exact h M' h1 h2
end Xe

/-
  THE ENGINE, PART J: what is owned may be lent to a call that only reads it; what a call has sealed itself. No program in sight.
-/
namespace Xe
open Go

/-! ### What M' has beyond M -/
def Mem.diff (M' M : Mem) : Mem := fun b => if (M b).isSome then none else M' b
theorem Mem.diff_sub (M' M : Mem) : Sub (M'.diff M) M' := fun b o h => by
  unfold Mem.diff at h
  split at h
  · cases h
  · exact h
theorem Mem.diff_mono {M M1 M2 : Mem} (h : Sub M1 M2) : Sub (M1.diff M) (M2.diff M) := fun b o hb => by
  unfold Mem.diff at hb ⊢
  split at hb
  · cases hb
  · rename_i h1; rw [if_neg h1]; exact h b o hb
theorem diff_put {M M0 : Mem} {b : Nat} {o : Obj} (h : M b = none) (hs : Sub M0 M) : ((M.put b o).diff M0) b = some o := by
  have : M0 b = none := by
    cases hM : M0 b with
    | none => rfl
    | some x => rw [hs b x hM] at h; cases h
  simp [Mem.diff, this, Mem.put]

theorem cellM_of {M : Mem} {b : Nat} {c : Array Value} {e : TypeId} {i : Nat} {v : Value} (hM : M b = some (.cells c e (0, 0))) (h : c[i]? = some v) : cellM M (adr (some ⟨b, 0, none⟩) i) = some v := by
  rw [adr_some]
  simp [cellM, hM, h]

/-- A block of whole elements, sealed, reads as a slice. -/
theorem Rd.ofBlock {M : Mem} {b n cap : Nat} {e : TypeId} {sz : Nat} {cur : Array Value} {us : List Value} {ds : List D} (hM : M b = some (.cells cur e (0, 0))) (hr : RdL M ds us) (hl : us.length = n * sz) (hn : n ≤ lim) (hc : n ≤ cap) (hm : cap ≤ maxLen) (ht : cur.toList.take (n * sz) = us) :
    Rd M (.sl n sz ds) (.slice (some ⟨b, 0, none⟩) n cap) := by
  simp only [Rd]
  refine ⟨some ⟨b, 0, none⟩, cap, rfl, hc, hm, hn, by rw [← hr.1]; exact hl, fun _ => rfl, RdC.mk ds 0 fun k d hk => ?_⟩
  obtain ⟨v, h1, h2⟩ := RdL.get hr hk
  refine ⟨v, ?_, h2⟩
  rw [Nat.zero_add]
  apply cellM_of hM
  have hk' : k < n * sz := by
    rw [← hl]
    rcases Nat.lt_or_ge k us.length with h | h
    · exact h
    · rw [List.getElem?_eq_none h] at h1; cases h1
  rw [← ht, List.getElem?_take_of_lt hk'] at h1
  simpa using h1

/-- Sealed by the call itself: it stays readable in what the call has added to M0. -/
theorem St.seal_own_diff {w0 w : World} {M M0 : Mem} {Γ : List As} {b n : Nat} {e : TypeId} {sz : Nat} {us : List Value} {ds : List D} (h0 : Sub M0 M) (hw : St w0 M (.own b e us :: Γ) w) (hr : RdL (M.diff M0) ds us) (hl : us.length = n * sz) (hn : n ≤ lim) :
    ∃ M', Sub M M' ∧ Rd (M'.diff M0) (.sl n sz ds) (.slice (some ⟨b, 0, none⟩) n n) ∧ St w0 M' (.rd (.sl n sz ds) (.slice (some ⟨b, 0, none⟩) n n) :: Γ) w := by
  have hx := hw.all _ (List.mem_cons_self ..)
  obtain ⟨hM, hb⟩ := hx
  have hs : Sub M (M.put b (.cells us.toArray e (0, 0))) := Mem.put_sub hM
  have hw' := hw.seal_block (b := b) rfl hb
  have hrd : Rd ((M.put b (.cells us.toArray e (0, 0))).diff M0) (.sl n sz ds) (.slice (some ⟨b, 0, none⟩) n n) :=
    Rd.ofBlock (diff_put hM h0) (hr.mono (Mem.diff_mono hs)) hl hn (Nat.le_refl _) (by unfold lim at hn; unfold maxLen; omega) (by rw [← hl]; exact List.take_length)
  exact ⟨_, hs, hrd, hw'.add (x := .rd _ _) (Rd.mono (Mem.diff_sub _ _) _ _ hrd) rfl⟩

/-! ### Lending -/
def Mem.less (M : Mem) (bs : List Nat) : Mem := fun b => if b ∈ bs then none else M b
/-- An assertion that owns. -/
def As.owns : As → Prop
  | .own .. => True
  | .acc .. => True
  | _ => False
/-- What is lent lies sealed as it was in a world where it was owned. -/
structure Lent (w0 : World) (M : Mem) (Γs Γ : List As) (M' : Mem) : Prop where
  sub : Sub M M'
  wit : ∃ w, St w0 M (Γs ++ Γ) w ∧ ∀ x ∈ Γs, ∀ b, x.blk = some b → M' b = w.heap[b]?
  only : ∀ b o, M' b = some o → M b = some o ∨ b ∈ Γs.filterMap As.blk

theorem St.lend {w0 w : World} {M : Mem} {Γ : List As} : ∀ (Γs : List As), (∀ x ∈ Γs, x.owns) → St w0 M (Γs ++ Γ) w → ∃ M', Lent w0 M Γs Γ M' ∧ St w0 M' Γ w
  | [], _, h => ⟨M, ⟨Sub.refl M, ⟨w, h, fun x hx => by simp at hx⟩, fun b o hb => .inl hb⟩, h⟩
  | x :: Γs, ho, h => by
    have hp : St w0 M (Γs ++ (x :: Γ)) w := h.perm (List.perm_middle.symm)
    obtain ⟨M1, hl, h1⟩ := St.lend Γs (fun y hy => ho y (List.mem_cons_of_mem _ hy)) hp
    have hx := h1.all x (List.mem_cons_self ..)
    cases hb : x.blk with
    | none =>
      refine ⟨M1, ⟨hl.sub, ⟨w, h, fun y hy b hyb => ?_⟩, fun b o hbo => ?_⟩, h1.sub (List.sublist_cons_self _ _)⟩
      · rcases List.mem_cons.1 hy with rfl | hy
        · rw [hb] at hyb; cases hyb
        · have hblk : b ∈ Γs.filterMap As.blk := mem_blk hy hyb
          have := h1.mem
          cases hM : M1 b with
          | some o => exact (h1.mem b o hM).symm
          | none =>
            obtain ⟨w', hw', hw2⟩ := hl.wit
            have e1 := hw2 y hy b hyb
            have e2 := (As.ok_blk_lt (hw'.all y (List.mem_append_left _ hy)) hyb).1
            rw [hM] at e1
            exact absurd e1.symm (by rw [Array.getElem?_eq_getElem e2]; simp)
      · rcases hl.only b o hbo with h2 | h2
        · exact .inl h2
        · exact .inr (by simpa [List.filterMap_cons, hb] using h2)
    | some b =>
      have hlt := (As.ok_blk_lt hx hb)
      obtain ⟨o, ho'⟩ : ∃ o, w.heap[b]? = some o := ⟨_, Array.getElem?_eq_getElem hlt.1⟩
      have h2 := h1.seal_block (b := b) (o := o) hb ho'
      refine ⟨M1.put b o, ⟨hl.sub.trans (Mem.put_sub hlt.2), ⟨w, h, fun y hy c hyc => ?_⟩, fun c o' hc => ?_⟩, h2⟩
      · rcases List.mem_cons.1 hy with rfl | hy
        · rw [hb] at hyc; cases hyc
          simp [Mem.put, ho']
        · obtain ⟨w', hw', hw2⟩ := hl.wit
          have e1 := hw2 y hy c hyc
          have e2 := (As.ok_blk_lt (hw'.all y (List.mem_append_left _ hy)) hyc).1
          cases hM : M1 c with
          | none => rw [hM] at e1; exact absurd e1.symm (by rw [Array.getElem?_eq_getElem e2]; simp)
          | some o2 =>
            have := Mem.put_sub hlt.2 (o := o) c o2 hM
            rw [this]
            exact (h1.mem c o2 hM).symm
      · unfold Mem.put at hc
        by_cases e : c = b
        · right; simp [hb, e]
        · rw [if_neg e] at hc
          rcases hl.only c o' hc with h3 | h3
          · exact .inl h3
          · right; simp only [List.filterMap_cons, hb]; exact List.mem_cons_of_mem _ h3

/-- Given back. -/
theorem Lent.back {w0 w' : World} {M M1 M2 : Mem} {Γs Γ : List As} (h : Lent w0 M Γs Γ M1) (_ho : ∀ x ∈ Γs, x.owns) (hs : Sub M1 M2) (hw : St w0 M2 Γ w') :
    Sub M (M2.less (Γs.filterMap As.blk)) ∧ Sub (M2.diff M1) (M2.less (Γs.filterMap As.blk)) ∧ St w0 (M2.less (Γs.filterMap As.blk)) (Γs ++ Γ) w' := by
  obtain ⟨w, hw1, hl⟩ := h.wit
  have hMs : ∀ x ∈ Γs, ∀ b, x.blk = some b → ∃ o, M1 b = some o ∧ w.heap[b]? = some o := fun x hx b hb => by
    have e1 := hl x hx b hb
    have e2 := (As.ok_blk_lt (hw1.all x (List.mem_append_left _ hx)) hb).1
    rw [Array.getElem?_eq_getElem e2] at e1
    exact ⟨_, e1, Array.getElem?_eq_getElem e2⟩
  have hsubM : Sub M (M2.less (Γs.filterMap As.blk)) := fun b o hb => by
    unfold Mem.less
    rw [if_neg fun hm => ?_]
    · exact hs b o (h.sub b o hb)
    · obtain ⟨x, hx, hxb⟩ := List.mem_filterMap.1 hm
      have := (As.ok_blk_lt (hw1.all x (List.mem_append_left _ hx)) hxb).2
      rw [hb] at this; cases this
  have hle : Sub (M2.less (Γs.filterMap As.blk)) M2 := fun b o hb => by
    unfold Mem.less at hb
    split at hb
    · cases hb
    · exact hb
  refine ⟨hsubM, fun b o hb => ?_, hw.os, hw.tape, hw.output, hw.size, fun b o hb => hw.mem b o (hle b o hb), fun x hx => ?_, ?_⟩
  · unfold Mem.diff at hb
    split at hb
    · cases hb
    · rename_i hn
      unfold Mem.less
      rw [if_neg fun hm => ?_]
      · exact hb
      · obtain ⟨x, hx, hxb⟩ := List.mem_filterMap.1 hm
        obtain ⟨o', h1, h2⟩ := hMs x hx b hxb
        simp [h1] at hn
  · rcases List.mem_append.1 hx with hx | hx
    · have h0 := hw1.all x (List.mem_append_left _ hx)
      have hk : ∀ b, x.blk = some b → w'.heap[b]? = w.heap[b]? ∧ M2.less (Γs.filterMap As.blk) b = none := fun b hb => by
        obtain ⟨o, h1, h2⟩ := hMs x hx b hb
        refine ⟨by rw [hw.mem b o (hs b o h1), h2], ?_⟩
        unfold Mem.less
        rw [if_pos (mem_blk hx hb)]
      exact As.ok_keep h0 hsubM hk
    · have h0 := hw1.all x (List.mem_append_right _ hx)
      have h2 := hw.all x hx
      cases x with
      | rd d u => exact Rd.mono hsubM d u h0
      | rds d u => exact RdL.mono hsubM h0
      | own b e cs =>
        refine ⟨?_, h2.2⟩
        cases hM : M2.less (Γs.filterMap As.blk) b with
        | none => rfl
        | some o => have := hle b o hM; rw [h2.1] at this; cases this
      | acc u e sz n us =>
        refine ⟨h2.1, fun b hb => ?_⟩
        cases hM : M2.less (Γs.filterMap As.blk) b with
        | none => rfl
        | some o => have := hle b o hM; rw [h2.2 b hb] at this; cases this
      | mp b l =>
        refine ⟨?_, h2.2⟩
        cases hM : M2.less (Γs.filterMap As.blk) b with
        | none => rfl
        | some o => have := hle b o hM; rw [h2.1] at this; cases this
  · exact hw1.nodup

/-- What is lent may be read. -/
theorem Lent.own {w0 : World} {M M' : Mem} {Γs Γ : List As} (h : Lent w0 M Γs Γ M') {b n : Nat} {e : TypeId} {sz : Nat} {us : List Value} {ds : List D} (hx : As.own b e us ∈ Γs) (hr : RdL M' ds us) (hl : us.length = n * sz) (hn : n ≤ lim) :
    Rd M' (.sl n sz ds) (.slice (some ⟨b, 0, none⟩) n n) := by
  obtain ⟨w, hw, hm⟩ := h.wit
  have h1 := hm _ hx b rfl
  have h2 := (hw.all _ (List.mem_append_left _ hx)).2
  rw [h2] at h1
  exact Rd.ofBlock h1 hr hl hn (Nat.le_refl _) (by unfold lim at hn; unfold maxLen; omega) (by rw [← hl]; exact List.take_length)
theorem Lent.acc {w0 : World} {M M' : Mem} {Γs Γ : List As} (h : Lent w0 M Γs Γ M') {u : Value} {n : Nat} {e : TypeId} {sz : Nat} {us : List Value} {ds : List D} (hx : As.acc u e sz n us ∈ Γs) (hr : RdL M' ds us) (hn : n ≤ lim) :
    Rd M' (.sl n sz ds) u := by
  obtain ⟨w, hw, hm⟩ := h.wit
  have h0 := hw.all _ (List.mem_append_left _ hx)
  obtain ⟨⟨hl, hh⟩, _⟩ := h0
  rcases hh with ⟨rfl, rfl⟩ | ⟨b, cap, cur, rfl, _, hb, hnc, hcm, hcs, htk⟩
  · have hd : ds = [] := by
      have h1 := hr.1
      have : us.length = 0 := by simpa using hl
      rw [this] at h1
      exact List.eq_nil_of_length_eq_zero h1.symm
    subst hd
    simp only [Rd]
    exact ⟨none, 0, rfl, Nat.le_refl _, Nat.zero_le _, Nat.zero_le _, by simp, by simp, by simp [RdC]⟩
  · have h1 := hm _ hx b rfl
    rw [hb] at h1
    exact Rd.ofBlock h1 hr hl hn hnc hcm (by simpa using htk)

/-- New data in what the call has sealed itself. -/
abbrev GivesN (M : Mem) (Γ : List As) (R : Mem → Value → Prop) : Post := fun u M' Γ' => Sub M M' ∧ Γ' = Γ ∧ R (M'.diff M) u

theorem CallOk.lend {P : Program} {w0 : World} {M : Mem} {Γ : List As} {f : FuncId} {args : Array Value} {R : Mem → Value → Prop} (Γs Γ0 : List As) (hp : List.Perm Γ (Γs ++ Γ0)) (ho : ∀ x ∈ Γs, x.owns) (hR : ∀ M1 M2 v, Sub M1 M2 → R M1 v → R M2 v)
    (hc : ∀ M1, Lent w0 M Γs Γ0 M1 → CallOk P w0 M1 Γ0 f args (GivesN M1 Γ0 R)) : CallOk P w0 M Γ f args (fun u M' Γ' => Sub M M' ∧ Γ' = Γ ∧ R M' u) := by
  intro w hw
  obtain ⟨M1, hl, hw1⟩ := St.lend Γs ho (hw.perm hp)
  refine (hc M1 hl w hw1).mono ?_
  rintro e w' ⟨v, M2, Γ2, rfl, ⟨hs, rfl, hr⟩, hw2⟩
  obtain ⟨h1, h2, h3⟩ := hl.back ho hs hw2
  exact ⟨v, _, Γ, rfl, ⟨h1, rfl, hR _ _ v h2 hr⟩, h3.perm hp.symm⟩
/-- .. nothing new. -/
theorem CallOk.lendv {P : Program} {w0 : World} {M : Mem} {Γ : List As} {f : FuncId} {args : Array Value} {v : Value} (Γs Γ0 : List As) (hp : List.Perm Γ (Γs ++ Γ0)) (ho : ∀ x ∈ Γs, x.owns)
    (hc : ∀ M1, Lent w0 M Γs Γ0 M1 → CallOk P w0 M1 Γ0 f args (fun u M' Γ' => u = v ∧ M' = M1 ∧ Γ' = Γ0)) : CallOk P w0 M Γ f args (fun u M' Γ' => u = v ∧ M' = M ∧ Γ' = Γ) := by
  intro w hw
  obtain ⟨M1, hl, hw1⟩ := St.lend Γs ho (hw.perm hp)
  refine (hc M1 hl w hw1).mono ?_
  rintro e w' ⟨u, M2, Γ2, rfl, ⟨hu, hM2, hG2⟩, hw2⟩
  rw [hG2, hM2] at hw2
  obtain ⟨h1, h2, h3⟩ := hl.back ho (Sub.refl _) hw2
  have h4 : St w0 M (Γs ++ Γ0) w' := by
    obtain ⟨w1, hw3, hm⟩ := hl.wit
    refine ⟨h3.os, h3.tape, h3.output, h3.size, fun b o hb => h3.mem b o (h1 b o hb), fun x hx => ?_, h3.nodup⟩
    have k1 := hw3.all x hx
    have k2 := h3.all x hx
    cases x with
    | rd d u => exact k1
    | rds d u => exact k1
    | own b e cs => exact ⟨k1.1, k2.2⟩
    | acc u e sz n us => exact ⟨k2.1, k1.2⟩
    | mp b l => exact ⟨k1.1, k2.2⟩
  exact ⟨_, M, Γ, rfl, ⟨hu, rfl, rfl⟩, h4.perm hp.symm⟩

/-! ### A cell of a slice that is being grown -/
theorem St.acc_cell {w0 w : World} {M : Mem} {Γ : List As} (h : St w0 M Γ w) {a : Option Addr} {n c e sz : Nat} {us : List Value} (hm : As.acc (.slice a n c) e sz n us ∈ Γ) {q : Nat} {v : Value} (hq : us[q]? = some v) : a.isSome = true ∧ w.cell? (adr a q) = some v := by
  obtain ⟨⟨hl, hh⟩, _⟩ := h.all _ hm
  rcases hh with ⟨e1, rfl⟩ | ⟨b, cap, cur, e1, _, hb, hnc, hcm, hcs, htk⟩
  · have : us = [] := List.eq_nil_of_length_eq_zero (by rw [hl]; simp)
    subst this
    simp at hq
  · simp only [Value.slice.injEq] at e1
    obtain ⟨rfl, _, rfl⟩ := e1
    refine ⟨rfl, ?_⟩
    rw [adr_some]
    have hk' : q < n * sz := by
      rw [← hl]
      rcases Nat.lt_or_ge q us.length with h | h
      · exact h
      · rw [List.getElem?_eq_none h] at hq; cases hq
    have h2 := hq
    rw [← htk, List.getElem?_take_of_lt hk'] at h2
    have h3 : cur[q]? = some v := by simpa using h2
    simp [World.cell?, hb, h3]

/-! ### Readings by facts that are known without the state -/
section
variable {P : Program} {w0 : World} {L : Lm} {M : Mem} {Γ : List As} {d : Option Nat} {ty : TypeId} {pos : String} {af : Array Edge} {g : Option (Nat × Bool)}
theorem Rd.isSome {n sz : Nat} {cs : List D} {a : Option Addr} {l c : Nat} (hr : Rd M (.sl n sz cs) (.slice a l c)) (hn : 0 < l) : a.isSome = true := by
  simp only [Rd] at hr
  obtain ⟨a', cap, h1, h2, h3, h4, h5, h6, h7⟩ := hr
  simp only [Value.slice.injEq] at h1
  obtain ⟨rfl, rfl, rfl⟩ := h1
  exact h6 hn
theorem Rd.cell {n sz : Nat} {cs : List D} {a : Option Addr} {l c : Nat} (hr : Rd M (.sl n sz cs) (.slice a l c)) {q : Nat} {e : D} (hq : cs[q]? = some e) : ∃ u, cellM M (adr a q) = some u ∧ Rd M e u := by
  simp only [Rd] at hr
  obtain ⟨a', cap, h1, h2, h3, h4, h5, h6, h7⟩ := hr
  simp only [Value.slice.injEq] at h1
  obtain ⟨rfl, rfl, rfl⟩ := h1
  simpa using RdC.get cs 0 h7 q e hq
theorem Y.indexP {x i : Operand} {t e sz : Nat} {a : Option Addr} {l c : Nat} {ik : IntKind} {z : Int} {cs : List D} {n0 sz0 : Nat} (k : Nat) (hx : evL L x = some (.slice a l c)) (hi : evL L i = some (.int ik z)) (hz : z = (k : Int)) (hk : k < l)
    (ht : sliceB P t e sz = true) (hr : Rd M (.sl n0 sz0 cs) (.slice a l c)) : Yq P w0 L M Γ ⟨d, .indexAddr t x i, ty, pos, af, g⟩ (.pointer (some (adr a (k * sz)))) :=
  Y.index k hx hi hz hk ht fun _ _ => hr.isSome (by omega)
theorem Y.loadP {x : Operand} {t : TypeId} {n sz : Nat} {cs : List D} {a : Option Addr} {l c q : Nat} {v : Value} (hx : evL L x = some (.pointer (some (adr a q)))) (hr : Rd M (.sl n sz cs) (.slice a l c)) (hq : cs[q]? = some (.v v)) (hf : flatB P t = true) :
    Yq P w0 L M Γ ⟨d, .load t x, ty, pos, af, g⟩ v := Y.load hx hf fun w hw => by
  obtain ⟨u, h1, h2⟩ := hr.cell hq
  simp only [Rd] at h2
  rw [← h2.1]
  exact hw.cell h1
/-- A cell whose value is known. -/
theorem Y.loadC {x : Operand} {t : TypeId} {p : Addr} {v : Value} (hx : evL L x = some (.pointer (some p))) (hc : cellM M p = some v) (hf : flatB P t = true) :
    Yq P w0 L M Γ ⟨d, .load t x, ty, pos, af, g⟩ v := Y.load hx hf fun _ hw => hw.cell hc
theorem Y.indexAcc {x i : Operand} {t e sz e' sz' : Nat} {a : Option Addr} {l c : Nat} {ik : IntKind} {z : Int} {us : List Value} {v : Value} (k : Nat) (hx : evL L x = some (.slice a l c)) (hi : evL L i = some (.int ik z)) (hz : z = (k : Int)) (hk : k < l)
    (ht : sliceB P t e sz = true) (hm : As.acc (.slice a l c) e' sz' l us ∈ Γ) (hu : us[k * sz]? = some v) : Yq P w0 L M Γ ⟨d, .indexAddr t x i, ty, pos, af, g⟩ (.pointer (some (adr a (k * sz)))) :=
  Y.index k hx hi hz hk ht fun _ hw => (hw.acc_cell hm hu).1
theorem Y.loadAcc {x : Operand} {t e sz : Nat} {a : Option Addr} {l c q : Nat} {us : List Value} {v : Value} (hx : evL L x = some (.pointer (some (adr a q)))) (hm : As.acc (.slice a l c) e sz l us ∈ Γ) (hu : us[q]? = some v) (hf : flatB P t = true) :
    Yq P w0 L M Γ ⟨d, .load t x, ty, pos, af, g⟩ v := Y.load hx hf fun _ hw => (hw.acc_cell hm hu).2
end

/-! ### Rows that are filled from the left -/
def rowP (f : Nat → Int) (y n : Nat) : List Int := (List.range n).map fun k => if k < y then f k else 0
theorem part_len (f : Nat → Int) (y n : Nat) : (rowP f y n).length = n := by simp [rowP]
theorem part_get (f : Nat → Int) (y n k : Nat) (h : k < n) : (rowP f y n)[k]? = some (if k < y then f k else 0) := by simp [rowP, h]
theorem part_zero (f : Nat → Int) (n : Nat) : rowP f 0 n = List.replicate n 0 := by
  apply List.ext_getElem <;> simp [rowP]
theorem part_full (f : Nat → Int) (n : Nat) : rowP f n n = (List.range n).map f := by
  apply List.ext_getElem
  · simp [rowP]
  · intro i h1 h2
    simp only [rowP, List.length_map, List.length_range] at h1
    simp [rowP, h1]
theorem part_set (f : Nat → Int) (y n : Nat) (_h : y < n) : (rowP f y n).set y (f y) = rowP f (y + 1) n := by
  apply List.ext_getElem
  · simp [rowP]
  · intro i h1 h2
    simp only [rowP, List.length_set, List.length_map, List.length_range] at h1 h2
    simp only [rowP, List.getElem_set, List.getElem_map, List.getElem_range]
    by_cases e : y = i
    · subst e; simp
    · rw [if_neg e]
      by_cases e2 : i < y
      · rw [if_pos e2, if_pos (by omega)]
      · rw [if_neg e2, if_neg (by omega)]
theorem ints_set (l : List Int) (q k : Nat) (z : Int) (h : q = k) : (ints l).set q (.int .i64 z) = ints (l.set k z) := by
  subst h; simp [ints, List.map_set]
theorem ints_get {l : List Int} {q k : Nat} {z : Int} (h : l[k]? = some z) (e : q = k) : (ints l)[q]? = some (.int .i64 z) := by
  subst e; simp [ints, h]
theorem ints_rd {M : Mem} (l : List Int) : RdL M (l.map fun n => .v (.int .i64 n)) (ints l) := by
  have := RdL.vals (M := M) (vs := ints l) (by
    intro v hv
    obtain ⟨z, _, rfl⟩ := List.mem_map.1 hv
    rfl)
  rw [ints, List.map_map] at this
  exact this
theorem made_ints (n : Nat) : (madeCells (Value.int .i64 0).cells (n * 1)).toList = ints (List.replicate n 0) := by
  apply List.ext_getElem
  · simp [madeCells, ints]
  · intro i h1 h2
    simp [madeCells, ints, Value.cells, Nat.mod_one]
theorem part_get2 (f : Nat → Int) {y n k : Nat} (h : k < y) (hy : k < n) : (rowP f y n)[k]? = some (f k) := by rw [part_get f y n k hy, if_pos h]
theorem fill_one {f : Nat → Int} {y n q : Nat} {z : Int} (hq : q = y) (h : y < n) (hz : z = f y) : (ints (rowP f y n)).set q (.int .i64 z) = ints (rowP f (y + 1) n) := by
  rw [ints_set _ _ y _ hq, hz, part_set f y n h]
theorem fill_two {f : Nat → Int} {y n q : Nat} {z t : Int} (hq : q = y) (h : y < n) (hz : z = f y) : (ints ((rowP f y n).set y t)).set q (.int .i64 z) = ints (rowP f (y + 1) n) := by
  rw [ints_set _ _ y _ hq, List.set_set, hz, part_set f y n h]
theorem set_get {l : List Int} {y : Nat} (t : Int) (h : y < l.length) : (l.set y t)[y]? = some t := by simp [h]
theorem ints_len (l : List Int) : (ints l).length = l.length := by simp [ints]
theorem range_get {α : Type} (g : Nat → α) {x k : Nat} (h : k < x) : ((List.range x).map g)[k]? = some (g k) := by simp [h]

theorem CW.sealOwnD {P : Program} {n : Nat} {w0 : World} {c : Code} {X : Pst} {L : Lm} {M M0 : Mem} {Γ R : List As} {b k : Nat} {e : TypeId} {sz : Nat} {us : List Value} {ds : List D} (h0 : Sub M0 M) (hp : Pick (.own b e us) Γ R) (hr : RdL (M.diff M0) ds us) (hl : us.length = k * sz) (hn : k ≤ lim)
    (h : ∀ M', Sub M M' → Rd (M'.diff M0) (.sl k sz ds) (.slice (some ⟨b, 0, none⟩) k k) → CW P n w0 c X L M' R) : CW P n w0 c X L M Γ := by
  refine CW.turn (F := fun M' Γ' => Sub M M' ∧ Rd (M'.diff M0) (.sl k sz ds) (.slice (some ⟨b, 0, none⟩) k k) ∧ Γ' = R) (fun _ hw => ?_) ?_
  · obtain ⟨M', h1, h2, h3⟩ := (hw.perm hp.perm).seal_own_diff h0 hr hl hn
    exact ⟨M', _, ⟨h1, h2, rfl⟩, h3.sub (List.sublist_cons_self _ _)⟩
  · rintro M' _ ⟨h1, h2, rfl⟩
    exact h M' h1 h2
theorem Turn.sealOwnD {w0 : World} {M0 M1 : Mem} {Γ Γ1 R : List As} {F : Mem → List As → Prop} {b : Nat} {e : TypeId} {sz n : Nat} {us : List Value} {ds : List D} (h0 : Sub M0 M1) (hp : Pick (.own b e us) Γ1 R) (hr : RdL (M1.diff M0) ds us) (hl : us.length = n * sz) (hn : n ≤ lim) (hs : List.Sublist Γ R)
    (hF : ∀ M', Sub M1 M' → Rd (M'.diff M0) (.sl n sz ds) (.slice (some ⟨b, 0, none⟩) n n) → F M' Γ) : Turn w0 M1 Γ1 F := fun _ hw => by
  obtain ⟨M', h1, h2, h3⟩ := (hw.perm hp.perm).seal_own_diff h0 hr hl hn
  exact ⟨M', Γ, hF M' h1 h2, h3.sub (hs.trans (List.sublist_cons_self _ _))⟩

/-! ### A table whose rows are made one after the other -/
def outerP (us : List Value) (n : Nat) : List Value := us ++ List.replicate (n - us.length) (.slice none 0 0)
theorem outerP_len {us : List Value} {n : Nat} (h : us.length ≤ n) : (outerP us n).length = n := by simp [outerP]; omega
theorem outerP_get {us : List Value} {n k : Nat} {v : Value} (h : us[k]? = some v) : (outerP us n)[k * 1]? = some v := by
  have hk : k < us.length := by
    rcases Nat.lt_or_ge k us.length with h1 | h1
    · exact h1
    · rw [List.getElem?_eq_none h1] at h; cases h
  rw [outerP, Nat.mul_one, List.getElem?_append_left hk, h]
theorem outerP_set {us : List Value} {n q : Nat} {v : Value} (hq : q = us.length) (h : us.length < n) : (outerP us n).set q v = outerP (us ++ [v]) n := by
  subst hq
  rw [outerP, outerP, List.set_append_right _ _ (Nat.le_refl _), Nat.sub_self]
  have : n - us.length = (n - (us ++ [v]).length) + 1 := by simp; omega
  rw [this, List.replicate_succ, List.set_cons_zero, List.append_assoc]
  rfl
theorem outerP_full {us : List Value} {n : Nat} (h : us.length = n) : outerP us n = us := by
  subst h; simp [outerP]
theorem made_nils (n : Nat) : (madeCells (Value.slice none 0 0).cells (n * 1)).toList = outerP [] n := by
  apply List.ext_getElem
  · simp [madeCells, outerP]
  · intro i h1 h2
    simp [madeCells, outerP, Value.cells, Nat.mod_one]
/-- Back to the sealed memory of an earlier state, one block of the call's own changed. -/
theorem Turn.back1 {w0 w1 : World} {M M1 : Mem} {Γ Γ1 R : List As} {F : Mem → List As → Prop} {b : Nat} {e : TypeId} {cs0 cs : List Value} (h : St w0 M (.own b e cs0 :: Γ) w1) (hs : Sub M M1) (hp : Pick (.own b e cs) Γ1 R) (hl : List.Sublist Γ R) (hF : F M (.own b e cs :: Γ)) : Turn w0 M1 Γ1 F := fun w hw => by
  refine ⟨M, _, hF, ?_⟩
  have h' := (hw.perm hp.perm).sub (List.Sublist.cons_cons _ hl)
  refine ⟨h'.os, h'.tape, h'.output, h'.size, fun b o hb => h'.mem b o (hs b o hb), fun x hx => ?_, by simpa [List.filterMap_cons, As.blk] using h'.nodup⟩
  rcases List.mem_cons.1 hx with rfl | hx
  · exact ⟨(h.all _ (List.mem_cons_self ..)).1, (h'.all _ (List.mem_cons_self ..)).2⟩
  · have k1 := h.all x (List.mem_cons_of_mem _ hx)
    have k2 := h'.all x (List.mem_cons_of_mem _ hx)
    cases x with
    | rd d u => exact k1
    | rds d u => exact k1
    | own b e cs => exact ⟨k1.1, k2.2⟩
    | acc u e sz n us => exact ⟨k2.1, k1.2⟩
    | mp b l => exact ⟨k1.1, k2.2⟩
end Xe

/-
  THE ENGINE, PART K: maps whose keys are structs of numbers; function values. No program in sight.
-/
namespace Xe
open Go

/-- Keys of this type may be asked for, and tell each other apart as eq says. -/
structure KeyOk (P : Program) (kt : TypeId) {κ : Type} [DecidableEq κ] (kv : κ → Value) : Prop where
  kind : ∃ fs, P.underlying kt = some (.struct fs)
  check : ∀ k b w, (Instr.checkKey b 10000 kt (kv k)).run P w = .ok () w
  eq : ∀ k k' w, (Op.equal kt (kv k) (kv k')).run P w = .ok (decide (k = k')) w

variable {P : Program} {κ : Type} [DecidableEq κ] {kv : κ → Value}

def findK (k : κ) : List (κ × Value) → Option Value
  | [] => none
  | p :: l => if k = p.1 then some p.2 else findK k l
abbrev kvs (kv : κ → Value) (l : List (κ × Value)) : List (Value × Value) := l.map fun p => (kv p.1, p.2)

theorem run_findAsking {kt : TypeId} (hK : KeyOk P kt kv) (k : κ) : ∀ (l : List (κ × Value)) (es : List MapEntry) (i : Nat) (w : World), es.map (fun e => (e.key, e.val)) = kvs kv l →
    ∃ r : Option (Nat × Value), (Instr.findAsking kt (kv k) es i).run P w = .ok r w ∧ r.map (·.2) = findK k l
  | [], [], i, w, _ => ⟨none, by simp [Instr.findAsking], rfl⟩
  | p :: l, e :: es, i, w, h => by
    simp only [kvs, List.map_cons, List.cons.injEq, Prod.mk.injEq] at h
    obtain ⟨⟨h0, h00⟩, ht⟩ := h
    have h1 := hK.eq k p.1 w
    by_cases he : k = p.1
    · refine ⟨some (i, e.val), ?_, by simp [findK, he, h00]⟩
      rw [decide_eq_true he] at h1
      simp only [Instr.findAsking, h0]
      simp [h1]
    · obtain ⟨r, h2, h3⟩ := run_findAsking hK k l es (i + 1) w ht
      rw [decide_eq_false he] at h1
      refine ⟨r, ?_, by simp only [findK]; rw [if_neg he]; exact h3⟩
      simp only [Instr.findAsking, h0]
      simp [h1, h2]
  | [], _ :: _, _, _, h => by simp [kvs] at h
  | _ :: _, [], _, _, h => by simp [kvs] at h
theorem run_findKey {kt : TypeId} (hK : KeyOk P kt kv) (k : κ) (l : List (κ × Value)) (es : List MapEntry) (w : World) (h : es.map (fun e => (e.key, e.val)) = kvs kv l) :
    ∃ r : Option (Nat × Value), (Instr.findKey kt (kv k) es).run P w = .ok r w ∧ r.map (·.2) = findK k l := by
  obtain ⟨fs, hfs⟩ := hK.kind
  obtain ⟨r, h1, h2⟩ := run_findAsking hK k l es 0 w h
  cases es with
  | nil =>
    refine ⟨none, by simp [Instr.findKey, run_underlying hfs, Instr.findNow], ?_⟩
    cases l with
    | nil => rfl
    | cons p l => simp [kvs] at h
  | cons e es =>
    refine ⟨r, ?_, h2⟩
    simp [Instr.findKey, run_underlying hfs, Instr.findNow, Instr.sameNow, h1]

def mapB (P : Program) (t k e : Nat) : Bool := match P.underlying t with
  | some (.map k' e') => Nat.beq k k' && Nat.beq e e'
  | _ => false
theorem mapB_spec {t k e : Nat} (h : mapB P t k e = true) : P.underlying t = some (.map k e) := by
  unfold mapB at h
  cases hu : P.underlying t with
  | none => simp [hu] at h
  | some d =>
    rw [hu] at h
    cases d <;> simp at h
    obtain ⟨h1, h2⟩ := h
    rw [h1, h2]

section
variable {w0 : World} {L : Lm} {M : Mem} {Γ : List As} {d : Option Nat} {ty : TypeId} {pos : String} {af : Array Edge} {g : Option (Nat × Bool)}
theorem run_lookup {w : World} {t kt e b : Nat} {l : List (κ × Value)} {k : κ} {z : Value} (hK : KeyOk P kt kv) (ht : mapB P t kt e = true) (hz : zeroB P e = some z) (hw : St w0 M Γ w) (hm : As.mp b (kvs kv l) ∈ Γ) (cm : Bool) :
    (Instr.lookup t (.map (some b)) (kv k) cm).run P w = .ok (if cm then .tuple #[(findK k l).getD z, .bool (findK k l).isSome] else (findK k l).getD z) w := by
  obtain ⟨hM, es, clock, hb, hes⟩ := hw.all _ hm
  obtain ⟨r, h1, h2⟩ := run_findKey hK k l es.toList w hes
  have h3 := fun b => hK.check k b w
  have h4 : (getObj b).run P w = .ok (.map es clock) w := MapKept.run_getObj_map hb
  rw [← h2]
  cases r with
  | none => cases cm <;> simp [Instr.lookup, run_underlying (mapB_spec ht), h4, h3, h1, run_zeroB hz]
  | some r => cases cm <;> simp [Instr.lookup, run_underlying (mapB_spec ht), h4, h3, h1]
theorem Y.lookup {x y : Operand} {t kt e b : Nat} {l : List (κ × Value)} {k : κ} {z : Value} (hx : evL L x = some (.map (some b))) (hy : evL L y = some (kv k)) (hK : KeyOk P kt kv) (ht : mapB P t kt e = true) (hz : zeroB P e = some z) (hm : As.mp b (kvs kv l) ∈ Γ) :
    Yq P w0 L M Γ ⟨d, .lookup t x y false, ty, pos, af, g⟩ ((findK k l).getD z) := fun n a w ha hw => by
  have := run_lookup (k := k) hK ht hz hw hm false
  simp only [Bool.false_eq_true, if_false] at this
  simp [execOp, ha.ev hx, ha.ev hy, this]
theorem Y.lookup2 {x y : Operand} {t kt e b : Nat} {l : List (κ × Value)} {k : κ} {z : Value} (hx : evL L x = some (.map (some b))) (hy : evL L y = some (kv k)) (hK : KeyOk P kt kv) (ht : mapB P t kt e = true) (hz : zeroB P e = some z) (hm : As.mp b (kvs kv l) ∈ Γ) :
    Yq P w0 L M Γ ⟨d, .lookup t x y true, ty, pos, af, g⟩ (.tuple [(findK k l).getD z, .bool (findK k l).isSome].toArray) := fun n a w ha hw => by
  have := run_lookup (k := k) hK ht hz hw hm true
  simp only [if_true] at this
  simp [execOp, ha.ev hx, ha.ev hy, this]
theorem Y.makeFunc {f : FuncId} {first cap : List Operand} {vs us : List Value} (h1 : evs L first = some vs) (h2 : evs L cap = some us) :
    Yq P w0 L M Γ ⟨d, .makeFunc (.func f) first.toArray cap.toArray, ty, pos, af, g⟩ (.func (.func f) vs.toArray us.toArray) := fun n a w ha _ => by
  have e1 : first.toArray.map a.eval = vs.toArray := by rw [List.map_toArray, ha.evs h1]
  have e2 : cap.toArray.map a.eval = us.toArray := by rw [List.map_toArray, ha.evs h2]
  simp [execOp, Instr.makeFunc, e1, e2]
end

section
variable {n : Nat} {w0 : World} {ops : Array Oper} {rest : List Oper} {L : Lm} {M : Mem} {Γ : List As} {K : Lm → Mem → List As → Prop} {ty : TypeId} {pos : String} {af : Array Edge} {d : Nat}
theorem St.newMap {w : World} (h : St w0 M Γ w) : St w0 M (.mp w.heap.size [] :: Γ) { w with heap := w.heap.push (.map #[] 0) } := by
  have hold : ∀ b, b < w.heap.size → (w.heap.push (.map #[] 0))[b]? = w.heap[b]? := fun b hb => by
    rw [Array.getElem?_push, if_neg (by omega)]
  refine ⟨h.os, h.tape, h.output, by simp; have := h.size; omega, fun b o hb => ?_, fun x hx => ?_, ?_⟩
  · rw [hold b (h.lt hb)]; exact h.mem b o hb
  · rcases List.mem_cons.1 hx with rfl | hx
    · exact ⟨h.fresh, #[], 0, by simp, rfl⟩
    · exact As.ok_keep (h.all x hx) (Sub.refl M) fun b hb => ⟨hold b (As.ok_blk_lt (h.all x hx) hb).1, (As.ok_blk_lt (h.all x hx) hb).2⟩
  · simp only [List.filterMap_cons, As.blk]
    refine List.nodup_cons.2 ⟨fun hm => ?_, h.nodup⟩
    obtain ⟨x, hx, hb⟩ := List.mem_filterMap.1 hm
    have := (As.ok_blk_lt (h.all x hx) hb).1
    omega
theorem RL.makeMap {t : TypeId} (hd : Nat.blt d n = true)
    (h : ∀ b, RL P n w0 ops rest ((d, .map (some b)) :: L) M (.mp b [] :: Γ) K) : RL P n w0 ops (⟨some d, .makeMap t none, ty, pos, af, none⟩ :: rest) L M Γ K := by
  refine RL.e (fun v M' Γ' => ∃ b, v = .map (some b) ∧ M' = M ∧ Γ' = .mp b [] :: Γ) (fun n a w ha hw => ?_) hd ?_
  · refine ⟨.map (some w.heap.size), _, M, _, ?_, ⟨_, rfl, rfl, rfl⟩, hw.newMap⟩
    have : (Instr.makeMap t none).run P w = .ok (.map (some w.heap.size)) { w with heap := w.heap.push (.map #[] 0) } := rfl
    simp [execOp, this]
  · rintro v M' Γ' ⟨b, rfl, rfl, rfl⟩
    exact h b
/-- A key that is not there yet. -/
theorem RL.mapNew {t kt e b : Nat} {x y z : Operand} {l : List (κ × Value)} {k : κ} {v : Value} {Γ' : List As} (hx : evL L x = some (.map (some b))) (hy : evL L y = some (kv k)) (hz : evL L z = some v) (hK : KeyOk P kt kv) (ht : mapB P t kt e = true)
    (hr : Repl (.mp b (kvs kv l)) (.mp b (kvs kv (l ++ [(k, v)]))) Γ Γ') (hn : findK k l = none)
    (h : RL P n w0 ops rest L M Γ' K) : RL P n w0 ops (⟨none, .mapUpdate t x y z, ty, pos, af, none⟩ :: rest) L M Γ K := by
  refine RL.s (Γ' := Γ') (fun n a w ha hw => ?_) h
  obtain ⟨hM, es, clock, hb, hes⟩ := hw.all _ hr.mem
  obtain ⟨r, h1, h2⟩ := run_findKey hK k l es.toList w hes
  rw [hn] at h2
  have hr0 : r = none := by cases r <;> simp at h2 ⊢
  subst hr0
  have h3 := fun b => hK.check k b w
  have h4 : (getObj b).run P w = .ok (.map es clock) w := MapKept.run_getObj_map hb
  have hlt : b < w.heap.size := (Array.getElem?_eq_some_iff.1 hb).1
  refine ⟨{ w with heap := w.heap.setIfInBounds b (.map (es.push { key := kv k, val := v, born := clock }) (clock + 1)) }, ?_, ?_⟩
  · simp [execOp, ha.ev hx, ha.ev hy, ha.ev hz, Instr.mapUpdate, run_underlying (mapB_spec ht), h4, h3, h1, MapKept.run_setObj_map _ hb]
  · obtain ⟨R, p1, p2⟩ := hr.perm
    refine St.perm ?_ p2
    have hw1 := hw.perm p1
    have hne : ∀ c, c ≠ b → (w.heap.setIfInBounds b (.map (es.push { key := kv k, val := v, born := clock }) (clock + 1)))[c]? = w.heap[c]? := fun c hc => Array.getElem?_setIfInBounds_ne (by omega)
    have hnd := hw1.nodup
    simp only [List.filterMap_cons, As.blk] at hnd
    refine ⟨hw1.os, hw1.tape, hw1.output, by simp; exact hw1.size, fun c o hc => ?_, fun x hx => ?_, by simpa [List.filterMap_cons, As.blk] using hw1.nodup⟩
    · rw [hne c (fun e => by subst e; rw [hM] at hc; cases hc)]; exact hw1.mem c o hc
    · rcases List.mem_cons.1 hx with rfl | hm
      · exact ⟨hM, es.push { key := kv k, val := v, born := clock }, clock + 1, by simp [hlt], by simp [hes, kvs]⟩
      · have hx' := hw1.all x (List.mem_cons_of_mem _ hm)
        refine As.ok_keep hx' (Sub.refl M) fun c hc => ⟨hne c fun e => ?_, (As.ok_blk_lt hx' hc).2⟩
        subst e
        exact (List.nodup_cons.1 hnd).1 (mem_blk hm hc)
end
section
variable {n : Nat} {w0 : World} {ops : Array Oper} {rest : List Oper} {L : Lm} {M : Mem} {Γ : List As} {K : Lm → Mem → List As → Prop} {ty : TypeId} {pos : String} {af : Array Edge} {d : Nat}
/-- A function value's call, its arguments written out. -/
theorem RL.callfA {g : Option (Nat × Bool)} {f : FuncId} {y : Operand} {first captured : Array Value} {xs : List Operand} {ts : Array TypeId} {vs : List Value} {F : Post} (args : Array Value) (hg : Want ops L ⟨some d, .call ⟨.value y, xs.toArray, ts⟩, ty, pos, af, g⟩ true) (hf : funcB P f = true) (hy : evL L y = some (.func (.func f) first captured)) (hx : evs L xs = some vs) (hd : Nat.blt d n = true)
    (ha : first ++ vs.toArray ++ captured = args) (hc : CallOk P w0 M Γ f args F) (h : ∀ v M' Γ', F v M' Γ' → RL P n w0 ops rest ((d, v) :: L) M' Γ' K) :
    RL P n w0 ops (⟨some d, .call ⟨.value y, xs.toArray, ts⟩, ty, pos, af, g⟩ :: rest) L M Γ K := RL.callf hg hf hy hx hd (by rw [ha]; exact hc) h
end
theorem Turn.front {w0 : World} {M : Mem} {Γ R : List As} {x : As} {F : Mem → List As → Prop} (hp : Pick x Γ R) (h : Turn w0 M (x :: R) F) : Turn w0 M Γ F := fun w hw => h w (hw.perm hp.perm)
/-! ### Arrays, bools -/
def arrB (P : Program) (t n e sz : Nat) : Bool := (match P.underlying t with
  | some (.array n' e') => Nat.beq n n' && Nat.beq e e'
  | _ => false) && sizeB P e sz && Nat.blt 1 n
theorem arrB_spec {t n e sz : Nat} (h : arrB P t n e sz = true) : P.underlying t = some (.array n e) ∧ sizeB P e sz = true ∧ 1 < n := by
  unfold arrB at h
  simp only [Bool.and_eq_true] at h
  obtain ⟨⟨h1, h2⟩, h3⟩ := h
  refine ⟨?_, h2, by simpa [Nat.blt_eq] using h3⟩
  cases hu : P.underlying t with
  | none => simp [hu] at h1
  | some d =>
    rw [hu] at h1
    cases d <;> simp at h1
    obtain ⟨h4, h5⟩ := h1
    rw [h4, h5]
theorem Y.indexArr {w0 : World} {L : Lm} {M : Mem} {Γ : List As} {d : Option Nat} {ty : TypeId} {pos : String} {af : Array Edge} {g : Option (Nat × Bool)} {x i : Operand} {t e sz n : Nat} {a : Option Addr} {q : Nat} {ik : IntKind} {z : Int} (k : Nat) (hx : evL L x = some (.pointer (some (adr a q)))) (hi : evL L i = some (.int ik z)) (hz : z = (k : Int)) (hk : k < n)
    (ht : arrB P t n e sz = true) : Yq P w0 L M Γ ⟨d, .indexAddr t x i, ty, pos, af, g⟩ (.pointer (some (adr a (q + k * sz)))) := fun m ac w ha hw => by
  subst hz
  obtain ⟨h1, h2, h3⟩ := arrB_spec ht
  simp [execOp, ha.ev hx, ha.ev hi, Instr.indexAt, asIntOf, run_underlying h1, run_sizeB h2, hk, adr_add, Instr.sureAddr]
theorem Y.eqlB {w0 : World} {L : Lm} {M : Mem} {Γ : List As} {d : Option Nat} {ty : TypeId} {pos : String} {af : Array Edge} {g : Option (Nat × Bool)} {x y : Operand} {p q : Prop} [Decidable p] [Decidable q] {t : TypeId} (ht : P.underlying t = some .bool) (hx : evL L x = some (.bool (decide p))) (hy : evL L y = some (.bool (decide q))) :
    Yq P w0 L M Γ ⟨d, .binOp .eql t x y t, ty, pos, af, g⟩ (.bool (decide (p ↔ q))) := fun n a w ha _ => by
  simp only [execOp, ha.ev hx, ha.ev hy]
  have h : ∀ b c : Bool, (Op.equalIn 10000 t (.bool b) (.bool c)).run P w = .ok (b == c) w := fun b c => run_equalIn_bool w 9999 t b c ht
  by_cases h1 : p <;> by_cases h2 : q <;> simp [h1, h2, eqGuard, Go.binOp, Op.equal, Op.maxDepth, h]
theorem Y.loadAggAcc {w0 : World} {L : Lm} {M : Mem} {Γ : List As} {d : Option Nat} {ty : TypeId} {pos : String} {af : Array Edge} {g : Option (Nat × Bool)} {x : Operand} {t e sz : Nat} {a : Option Addr} {l c q : Nat} {us : List Value} (vs : List Value) (hx : evL L x = some (.pointer (some (adr a q)))) (hm : As.acc (.slice a l c) e sz l us ∈ Γ) (hq : ∀ j v, vs[j]? = some v → us[q + j]? = some v) (hf : aggB P t vs.length = true) :
    Yq P w0 L M Γ ⟨d, .load t x, ty, pos, af, g⟩ (.agg vs.toArray) := Y.loadAgg hx hf fun w hw j v hj => by
  rw [adr_add]
  exact (hw.acc_cell hm (hq j v hj)).2
/-! ### The ways through a region meet: one slot is written out -/
theorem CW.regionM1 {n : Nat} {w0 : World} {L : Lm} {M : Mem} {Γ : List As} {id : Nat} {X : Pst} {l : List Oper} (s : Nat) (v : Value) (h : RL P n w0 l.toArray l L M Γ (fun L1 M1 Γ1 => getL L1 s = some v ∧ Keep L1 L ∧ ∀ w, St w0 M1 Γ1 w → St w0 M Γ w)) (k : X .normal ((s, v) :: L) M Γ) : CW P n w0 (.region id l.toArray false) X L M Γ :=
  CW.regionM ((s, v) :: L) (fun R hR => h R fun L1 M1 Γ1 hX => hR L1 M1 Γ1 ⟨Keep.cons s hX.1 hX.2.1, hX.2.2⟩) k
theorem CW.regionQM1 {n : Nat} {w0 : World} {L : Lm} {M : Mem} {Γ : List As} {id : Nat} {X : Pst} {l : List Oper} (hm : P.follows .mixedOrders = true) (hB : Region.lexB .any l.toArray = true) (s : Nat) (v : Value) (h : QL P n w0 l.toArray Γ M l L Γ (fun L1 Γ1 => getL L1 s = some v ∧ Keep L1 L ∧ ∀ w, St w0 M Γ1 w → St w0 M Γ w)) (k : X .normal ((s, v) :: L) M Γ) : CW P n w0 (.region id l.toArray true) X L M Γ :=
  CW.regionQM hm hB ((s, v) :: L) (fun hex hC R hR => h hex hC R fun L1 Γ1 hX => hR L1 Γ1 ⟨Keep.cons s hX.1 hX.2.1, hX.2.2⟩) k
theorem gl {L : Lm} {s : Nat} {u v : Value} (h : getL L s = some u) (e : u = v) : getL L s = some v := by rw [h, e]
theorem Y.eqlBB {w0 : World} {L : Lm} {M : Mem} {Γ : List As} {d : Option Nat} {ty : TypeId} {pos : String} {af : Array Edge} {g : Option (Nat × Bool)} {x y : Operand} {p q : Bool} {t : TypeId} (ht : P.underlying t = some .bool) (hx : evL L x = some (.bool p)) (hy : evL L y = some (.bool q)) :
    Yq P w0 L M Γ ⟨d, .binOp .eql t x y t, ty, pos, af, g⟩ (.bool (p == q)) := fun n a w ha _ => by
  simp only [execOp, ha.ev hx, ha.ev hy]
  have h : ∀ b c : Bool, (Op.equalIn 10000 t (.bool b) (.bool c)).run P w = .ok (b == c) w := fun b c => run_equalIn_bool w 9999 t b c ht
  cases p <;> cases q <;> simp [eqGuard, Go.binOp, Op.equal, Op.maxDepth, h]
theorem bmerge {x : Bool} {p : Prop} [Decidable p] (h : x = true ↔ p) : Value.bool x = Value.bool (decide p) := by
  by_cases hp : p
  · rw [h.2 hp, decide_eq_true hp]
  · rw [decide_eq_false hp]; cases x
    · rfl
    · exact absurd (h.1 rfl) hp
theorem Y.buildArr {w0 : World} {L : Lm} {M : Mem} {Γ : List As} {d : Option Nat} {ty : TypeId} {pos : String} {af : Array Edge} {g : Option (Nat × Bool)} {t n e sz : Nat} {parts : List (Nat × Operand)} {vs : List (Nat × Value)} {zs : List Value} (out : List Value) (hp : pEv L parts = some vs) (hz : zeroB P t = some (.agg zs.toArray)) (ht : arrB P t n e sz = true)
    (hf : fillL (fun i => some (i * sz, sz)) zs (vs.map fun p => (p.1, cellsL p.2)) = some out) : Yq P w0 L M Γ ⟨d, .build t parts.toArray, ty, pos, af, g⟩ (.agg out.toArray) := fun m a w ha _ => by
  obtain ⟨h1, h2, _⟩ := arrB_spec ht
  have h3 : (parts.toArray.map fun x => (x.1, a.eval x.2)) = vs.toArray := by rw [List.map_toArray, ha.pEv hp]
  have h4 := fill_eq (fun i => some (i * sz, sz)) vs zs out hf
  simp only [execOp, h3]
  simp only [Instr.build, Sem.run_bind, run_zeroB hz, Result.andThen_ok, run_underlying h1, Value.cells, run_sizeB h2, h4, Sem.run_pure]
theorem Y.neqD {w0 : World} {L : Lm} {M : Mem} {Γ : List As} {d : Option Nat} {ty : TypeId} {pos : String} {af : Array Edge} {g : Option (Nat × Bool)} {x y : Operand} {p q : Prop} [Decidable p] [Decidable q] {t : TypeId} (ht : P.underlying t = some .bool) (hx : evL L x = some (.bool (decide p))) (hy : evL L y = some (.bool (decide q))) :
    Yq P w0 L M Γ ⟨d, .binOp .neq t x y t, ty, pos, af, g⟩ (.bool (decide (¬ (p ↔ q)))) := fun n a w ha _ => by
  simp only [execOp, ha.ev hx, ha.ev hy]
  have h : ∀ b c : Bool, (Op.equalIn 10000 t (.bool b) (.bool c)).run P w = .ok (b == c) w := fun b c => run_equalIn_bool w 9999 t b c ht
  by_cases h1 : p <;> by_cases h2 : q <;> simp [h1, h2, eqGuard, Go.binOp, Op.equal, Op.maxDepth, h]
section
theorem Y.lenMap {P : Program} {κ : Type} {kv : κ → Value} {w0 : World} {L : Lm} {M : Mem} {Γ : List As} {d : Option Nat} {ty : TypeId} {pos : String} {af : Array Edge} {g : Option (Nat × Bool)} {x : Operand} {t kt e b : Nat} {l : List (κ × Value)} (hx : evL L x = some (.map (some b))) (ht : mapB P t kt e = true) (hm : As.mp b (kvs kv l) ∈ Γ) :
    Yq P w0 L M Γ ⟨d, .call ⟨.builtin .len, #[x], #[t]⟩, ty, pos, af, g⟩ (.int .i64 (l.length : Int)) := fun n a w ha hw => by
  obtain ⟨hM, es, clock, hb, hes⟩ := hw.all _ hm
  have h4 : (getObj b).run P w = .ok (.map es clock) w := MapKept.run_getObj_map hb
  have h5 : es.size = l.length := by have := congrArg List.length hes; simpa using this
  simp [execOp, h5, resolve, invoke, Go.builtin, Builtin.len_, ha.ev hx, run_underlying (mapB_spec ht), h4, goInt]
end
end Xe
