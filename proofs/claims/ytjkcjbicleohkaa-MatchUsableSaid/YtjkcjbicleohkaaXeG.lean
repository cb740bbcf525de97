/-
  THE ENGINE, PART G: literals of structs and slices, make, append as rules; regions that draw their order and write. No program in sight.
-/
import Derived.Test.YtjkcjbicleohkaaXeF
import Derived.OrdersHeld
namespace Xe
open Go

/-! ### Literals -/
def splice (cs : List Value) (off : Nat) (vs : List Value) : List Value := cs.take off ++ vs ++ cs.drop (off + vs.length)
theorem splice_length {cs : List Value} {off : Nat} {vs : List Value} (h : off + vs.length ≤ cs.length) : (splice cs off vs).length = cs.length := by
  simp [splice]; omega

theorem fold_splice : ∀ (l : List Value) (off k : Nat) (cs : List Value), off + k + l.length ≤ cs.length →
    (l.zipIdx k).foldl (fun (c : Array Value) (x : Value × Nat) => c.setIfInBounds (off + x.2) x.1) cs.toArray = (splice cs (off + k) l).toArray
  | [], off, k, cs, _ => by simp [splice]
  | v :: l, off, k, cs, h => by
    have h' : off + (k + 1) + l.length ≤ cs.length := by simp at h; omega
    simp only [List.zipIdx_cons, List.foldl_cons, List.setIfInBounds_toArray]
    rw [fold_splice l off (k + 1) (cs.set (off + k) v) (by simpa using h')]
    congr 1
    simp only [splice]
    have hk : off + k < cs.length := by simp at h; omega
    rw [← Nat.add_assoc, List.take_succ_eq_append_getElem (by simpa using hk), List.take_set_of_le (by omega)]
    simp only [List.getElem_set_self, List.length_cons, List.append_assoc, List.cons_append, List.nil_append, Nat.add_assoc]
    congr 3
    rw [List.drop_set, if_pos (by omega)]
    congr 1
    omega

def fillL (place : Nat → Option (Nat × Nat)) : List Value → List (Nat × List Value) → Option (List Value)
  | cells, [] => some cells
  | cells, (i, vs) :: rest => match place i with
    | none => none
    | some (off, size) => if vs.length = size ∧ off + size ≤ cells.length then fillL place (splice cells off vs) rest else none

def cellsL : Value → List Value
  | .agg cs => cs.toList
  | v => [v]
theorem cellsL_spec (v : Value) : v.cells = (cellsL v).toArray := by cases v <;> simp [Value.cells, cellsL]

theorem fill_eq (place : Nat → Option (Nat × Nat)) : ∀ (parts : List (Nat × Value)) (cells out : List Value), fillL place cells (parts.map fun p => (p.1, cellsL p.2)) = some out → Instr.fill place cells.toArray parts = some out.toArray
  | [], cells, out, h => by simp only [List.map_nil, fillL, Option.some.injEq] at h; simp [Instr.fill, h]
  | (i, v) :: rest, cells, out, h => by
    simp only [List.map_cons, fillL] at h
    unfold Instr.fill
    cases hp : place i with
    | none => simp [hp] at h
    | some os =>
      obtain ⟨off, size⟩ := os
      rw [hp] at h
      simp only [] at h ⊢
      split at h
      · rename_i hc
        obtain ⟨h1, h2⟩ := hc
        have hsz : v.cells.size = size := by rw [cellsL_spec]; simpa using h1
        rw [if_neg (by simp [hsz]; omega)]
        rw [cellsL_spec v, ← Array.foldl_toList, Array.toList_zipIdx]
        have := fold_splice (cellsL v) off 0 cells (by omega)
        simp only [Nat.add_zero] at this
        rw [this]
        exact fill_eq place rest _ _ h
      · cases h

def pEv (L : Lm) : List (Nat × Operand) → Option (List (Nat × Value))
  | [] => some []
  | (i, x) :: r => match evL L x with
    | some v => match pEv L r with
      | some vs => some ((i, v) :: vs)
      | none => none
    | none => none
theorem Sat.pEv {n : Nat} {L : Lm} {a : Act} (h : Sat n L a) : ∀ {xs : List (Nat × Operand)} {vs : List (Nat × Value)}, pEv L xs = some vs → xs.map (fun p => (p.1, a.eval p.2)) = vs
  | [], vs, hv => by simp only [Xe.pEv, Option.some.injEq] at hv; simp [← hv]
  | (i, x) :: xs, vs, hv => by
    simp only [Xe.pEv] at hv
    cases hx : evL L x with
    | none => simp [hx] at hv
    | some v =>
      rw [hx] at hv
      simp only [] at hv
      cases hxs : Xe.pEv L xs with
      | none => simp [hxs] at hv
      | some us =>
        rw [hxs] at hv
        simp only [Option.some.injEq] at hv
        rw [← hv]
        simp [h.ev hx, h.pEv hxs]

/-- The places of a struct's fields. -/
def placesB (P : Program) (t : TypeId) : Option (List (Nat × Nat)) := match P.underlying t with
  | some (.struct fs) => fs.toList.mapM fun f => match P.info? f.type with
    | some i => some (f.offset, i.size)
    | none => none
  | _ => none

theorem run_places {P : Program} {w : World} : ∀ (fs : List Field) (pl : List (Nat × Nat)), (fs.mapM fun f => match P.info? f.type with
    | some i => some (f.offset, i.size)
    | none => none) = some pl → (fs.mapM fun f => Prod.mk f.offset <$> Go.sizeOf f.type : Sem (List (Nat × Nat))).run P w = .ok pl w
  | [], pl, h => by simp at h; simp [← h]
  | f :: fs, pl, h => by
    simp only [List.mapM_cons] at h ⊢
    cases hi : P.info? f.type with
    | none => simp [hi] at h
    | some i =>
      simp only [hi, Option.bind_eq_bind, Option.bind_some] at h
      cases hr : (fs.mapM fun f => match P.info? f.type with
        | some i => some (f.offset, i.size)
        | none => none) with
      | none => rw [hr] at h; simp at h
      | some pl' =>
        rw [hr] at h
        simp only [Option.bind_some, Option.pure_def, Option.some.injEq] at h
        subst h
        have ih := run_places (P := P) (w := w) fs pl' hr
        have hs : (Go.sizeOf f.type).run P w = .ok i.size w := by simp [Go.sizeOf, typeInfo, hi]
        simp only [Sem.run_bind, Sem.run_map, hs, Result.andThen_ok, ih, Sem.run_pure]

section
variable {P : Program} {w0 : World} {L : Lm} {M : Mem} {Γ : List As} {d : Option Nat} {ty : TypeId} {pos : String} {af : Array Edge} {g : Option (Nat × Bool)}
namespace Y
/-- A struct's literal. -/
theorem build {t : TypeId} {parts : List (Nat × Operand)} {vs : List (Nat × Value)} {zs : List Value} {pl : List (Nat × Nat)} (out : List Value) (hp : pEv L parts = some vs) (hz : zeroB P t = some (.agg zs.toArray)) (hpl : placesB P t = some pl)
    (hf : fillL (pl[·]?) zs (vs.map fun p => (p.1, cellsL p.2)) = some out) : Yq P w0 L M Γ ⟨d, .build t parts.toArray, ty, pos, af, g⟩ (.agg out.toArray) := fun n a w ha _ => by
  unfold placesB at hpl
  cases hu : P.underlying t with
  | none => simp [hu] at hpl
  | some dd =>
    rw [hu] at hpl
    cases dd with
    | struct fs =>
      simp only [] at hpl
      have h1 := run_places (P := P) (w := w) fs.toList pl hpl
      have h2 := fill_eq (pl[·]?) vs zs out hf
      have h3 : (parts.toArray.map fun x => (x.1, a.eval x.2)) = vs.toArray := by rw [List.map_toArray, ha.pEv hp]
      have h4 : (fs.mapM fun f => (do pure (f.offset, ← Go.sizeOf f.type) : Sem (Nat × Nat))).run P w = .ok pl.toArray w := by
        rw [Array.mapM_eq_mapM_toList]
        simp [h1]
      simp only [execOp, h3]
      simp only [Instr.build, Sem.run_bind, run_zeroB hz, Result.andThen_ok, run_underlying hu, Value.cells, h4, List.getElem?_toArray, h2, Sem.run_pure]
    | _ => simp at hpl
end Y
end

section
variable {P : Program} {n : Nat} {w0 : World} {ops : Array Oper} {rest : List Oper} {L : Lm} {M : Mem} {Γ : List As} {K : Lm → Mem → List As → Prop} {ty : TypeId} {pos : String} {af : Array Edge} {d : Nat}

theorem run_buildSlice {w : World} {t e sz bytes len : Nat} {vs : List (Nat × Value)} {out : List Value} (hE : ElemOk P t e sz bytes) (hlen : Nat.ble (len * sz) 16777216 = true)
    (hf : ∀ zs : List Value, zs.length = len * sz → fillL (fun i => some (i * sz, sz)) zs (vs.map fun p => (p.1, cellsL p.2)) = some out) :
    (Instr.buildSlice t len vs.toArray).run P w = .ok (.slice (some ⟨w.heap.size, 0, none⟩) len len) { w with heap := w.heap.push (.cells out.toArray e (0, 0)) } := by
  obtain ⟨ht, ⟨i, z, hi, hz, hsize, hby, hzs⟩, hpos⟩ := hE
  have hl : ¬ (16777216 < len * sz) := by simpa [Nat.ble_eq] using hlen
  by_cases h0 : len * sz = 0
  · have h1 := fill_eq (fun i => some (i * sz, sz)) vs [] out (hf [] (by simp [h0]))
    have e0 : Array.map (fun _ => (default : Value)) (Array.range 0) = #[] := by simp
    simp [Instr.buildSlice, run_underlying ht, Go.sizeOf, typeInfo, hi, hsize, h0, h1, e0, newRow]
  · have h1 := fill_eq (fun i => some (i * sz, sz)) vs ((Array.range (len * sz)).map (z.cells[· % z.cells.size]!)).toList out (hf _ (by simp))
    simp only [Array.toArray_toList] at h1
    simp [Instr.buildSlice, run_underlying ht, Go.sizeOf, typeInfo, zeroValue, hi, hz, hsize, h0, hl, h1, newRow]

theorem St.push {w : World} {e : TypeId} {out : List Value} (hw : St w0 M Γ w) : St w0 M (.own w.heap.size e out :: Γ) { w with heap := w.heap.push (.cells out.toArray e (0, 0)) } := hw.alloc e out

/-- A slice's literal. -/
theorem RL.buildSlice {t e sz bytes len : Nat} {parts : List (Nat × Operand)} {vs : List (Nat × Value)} (out : List Value) (hE : ElemOk P t e sz bytes) (hp : pEv L parts = some vs) (hlen : Nat.ble (len * sz) 16777216 = true)
    (hf : ∀ zs : List Value, zs.length = len * sz → fillL (fun i => some (i * sz, sz)) zs (vs.map fun p => (p.1, cellsL p.2)) = some out) (hd : Nat.blt d n = true)
    (h : ∀ b, RL P n w0 ops rest ((d, .slice (some ⟨b, 0, none⟩) len len) :: L) M (.own b e out :: Γ) K) : RL P n w0 ops (⟨some d, .buildSlice t len parts.toArray, ty, pos, af, none⟩ :: rest) L M Γ K := by
  refine RL.e (fun v M' Γ' => ∃ b, v = .slice (some ⟨b, 0, none⟩) len len ∧ M' = M ∧ Γ' = .own b e out :: Γ) (fun n a w ha hw => ?_) hd ?_
  · refine ⟨_, _, M, _, ?_, ⟨w.heap.size, rfl, rfl, rfl⟩, hw.alloc e out⟩
    have h3 : (parts.toArray.map fun x => (x.1, a.eval x.2)) = vs.toArray := by rw [List.map_toArray, ha.pEv hp]
    simp only [execOp, h3]
    simp [run_buildSlice hE hlen hf]
  · rintro v M' Γ' ⟨b, rfl, rfl, rfl⟩
    exact h b

/-- make with a length that the call has reckoned. -/
theorem RL.make {t e sz bytes k : Nat} {x y : Operand} {zx zy : Int} {z : Value} (hE : ElemOk P t e sz bytes) (hz0 : zeroB P e = some z) (hx : evL L x = some (.int .i64 zx)) (hy : evL L y = some (.int .i64 zy)) (hzx : zx = (k : Int)) (hzy : zy = (k : Int)) (hk : k ≤ lim) (hkb : bytes * k ≤ 281474976710656) (hd : Nat.blt d n = true)
    (h : ∀ b, RL P n w0 ops rest ((d, .slice (some ⟨b, 0, none⟩) k k) :: L) M (.own b e (madeCells z.cells (k * sz)).toList :: Γ) K) : RL P n w0 ops (⟨some d, .makeSlice t x y, ty, pos, af, none⟩ :: rest) L M Γ K := by
  subst hzx hzy
  obtain ⟨ht, ⟨i, z', hi, hz, hsize, hby, hzs⟩, hpos⟩ := hE
  have : z' = z := by simp [zeroB, hi, hz] at hz0; exact hz0
  subst this
  have hl63 : (k : Int) ≤ 9223372036854775807 := by unfold lim at hk; omega
  refine RL.e (fun v M' Γ' => ∃ b, v = .slice (some ⟨b, 0, none⟩) k k ∧ M' = M ∧ Γ' = .own b e (madeCells z'.cells (k * sz)).toList :: Γ) (fun n a w ha hw => ?_) hd ?_
  · have hkb' : (i.bytes : Int) * (k : Int) ≤ 281474976710656 := by
      have h : ((i.bytes * k : Nat) : Int) ≤ 281474976710656 := by rw [hby]; omega
      rwa [Int.natCast_mul] at h
    have hr := run_make (P := P) w t e i z' ht hi hz .i64 .i64 k k (by omega) (Int.le_refl _) hkb' hl63
    refine ⟨_, _, M, _, ?_, ⟨w.heap.size, rfl, rfl, rfl⟩, hw.alloc e _⟩
    simp only [execOp, ha.ev hx, ha.ev hy, Sem.run_bind, hr, Int.toNat_natCast, hsize, Array.toArray_toList]
    rfl
  · rintro v M' Γ' ⟨b, rfl, rfl, rfl⟩
    exact h b

/-! ### append as a rule -/
/-- Γ is R with x somewhere in it. -/
inductive Pick (x : As) : List As → List As → Prop
  | here (Γ : List As) : Pick x (x :: Γ) Γ
  | there (y : As) {Γ R : List As} : Pick x Γ R → Pick x (y :: Γ) (y :: R)
theorem Pick.perm {x : As} {Γ R : List As} (h : Pick x Γ R) : List.Perm Γ (x :: R) := by
  induction h with
  | here Γ => exact .refl _
  | there y _ ih => exact (ih.cons y).trans (.swap x y _)

theorem SrcOk.own {b e c : Nat} {news : List Value} {sz m : Nat} (hm : As.own b e news ∈ Γ) (hl : news.length = m * sz) (h1 : ∀ u ∈ news, u.oneCell' = true) : SrcOk w0 M Γ (.slice (some ⟨b, 0, none⟩) m c) sz m news :=
  ⟨hl, h1, .inl ⟨_, c, rfl, fun w hw j u hj => by
    have := hw.own_cell hm hj
    rwa [show (⟨b, 0, none⟩ : Addr).add j = adr (some ⟨b, 0, none⟩) j from rfl]⟩⟩
/-- A slice that is only read: its cells are known values. -/
theorem src_rd {w : World} {n sz : Nat} {ds : List D} {a : Option Addr} {l c : Nat} (hw : St w0 M Γ w) (hm : As.rd (.sl n sz ds) (.slice a l c) ∈ Γ) :
    ∃ news, RdL M ds news ∧ SrcOk w0 M Γ (.slice a l c) sz l news := by
  have hr := hw.rd hm
  simp only [Rd] at hr
  obtain ⟨a', c', h1, h2, h3, h4, h5, h6, h7⟩ := hr
  simp only [Value.slice.injEq] at h1
  obtain ⟨rfl, rfl, rfl⟩ := h1
  obtain ⟨us, h8, h9⟩ := cells_of (M := M) (a := a) (q := 0) (ds := ds) fun j e hj => by simpa using RdC.get ds 0 h7 j e hj
  refine ⟨us, h8, by rw [h8.1]; exact h5, h8.one, ?_⟩
  cases a with
  | none =>
    have h0 : ¬ 0 < l := fun h => by have := h6 h; simp at this
    obtain rfl : l = 0 := by omega
    exact .inr ⟨rfl, c, rfl⟩
  | some p => exact .inl ⟨p, c, rfl, fun w hw j u hj => hw.cell (by have := h9 j u hj; rw [Nat.zero_add] at this; exact this)⟩

theorem acc_slice {w : World} {u : Value} {e : TypeId} {sz n : Nat} {us : List Value} (h : As.ok M w (.acc u e sz n us)) : ∃ a c, u = .slice a n c ∧ n ≤ c := by
  obtain ⟨⟨_, hh⟩, _⟩ := h
  rcases hh with ⟨rfl, rfl⟩ | ⟨b, cap, cur, rfl, _, _, hc, _⟩
  · exact ⟨none, 0, rfl, Nat.le_refl _⟩
  · exact ⟨_, cap, rfl, hc⟩
/-- append to a slice that the call grows. -/
theorem RL.append {t e sz bytes k m : Nat} {x y : Operand} {u xv : Value} {us news : List Value} {R : List As} (hE : ElemOk P t e sz bytes) (hx : evL L x = some u) (hy : evL L y = some xv) (hp : Pick (.acc u e sz k us) Γ R)
    (hs : SrcOk w0 M Γ xv sz m news) (hb : (k + m) * bytes ≤ 140737488355328) (hm : k + m ≤ lim) (hd : Nat.blt d n = true)
    (h : ∀ a' c', k + m ≤ c' → RL P n w0 ops rest ((d, .slice a' (k + m) c') :: L) M (.acc (.slice a' (k + m) c') e sz (k + m) (us ++ news) :: R) K) : RL P n w0 ops (⟨some d, .call ⟨.builtin .append, #[x, y], #[t, t]⟩, ty, pos, af, none⟩ :: rest) L M Γ K := by
  refine RL.e (fun v M' Γ' => M' = M ∧ Γ' = .acc v e sz (k + m) (us ++ news) :: R) (fun n a w ha hw => ?_) hd ?_
  · obtain ⟨hl, h1, hsrc⟩ := hs
    have hs' : SrcOk w0 M (.acc u e sz k us :: R) xv sz m news := ⟨hl, h1, hsrc.imp (fun ⟨p, c, h1, h2⟩ => ⟨p, c, h1, fun w hw => h2 w (hw.perm hp.perm.symm)⟩) id⟩
    obtain ⟨u', w', hr, hw'⟩ := append_acc (P := P) (ty := ty) hE (hw.perm hp.perm) hs' hb hm
    refine ⟨u', w', M, _, ?_, ⟨rfl, rfl⟩, hw'⟩
    simp [execOp, resolve, invoke, Go.builtin, ha.ev hx, ha.ev hy, hr]
  · rintro v M' Γ' ⟨rfl, rfl⟩
    refine RL.know (F := ∃ a' c', v = .slice a' (k + m) c' ∧ k + m ≤ c') (fun w hw => acc_slice (hw.all _ (List.mem_cons_self ..))) ?_
    rintro ⟨a', c', rfl, hc'⟩
    exact h a' c' hc'
/-- .. of what is only read. -/
theorem RL.appendRd {t e sz bytes k m : Nat} {x y : Operand} {u : Value} {a : Option Addr} {c : Nat} {us : List Value} {ds : List D} {R : List As} (hE : ElemOk P t e sz bytes) (hx : evL L x = some u) (hy : evL L y = some (.slice a m c)) (hp : Pick (.acc u e sz k us) Γ R)
    (hs : As.rd (.sl m sz ds) (.slice a m c) ∈ Γ) (hb : (k + m) * bytes ≤ 140737488355328) (hm : k + m ≤ lim) (hd : Nat.blt d n = true)
    (h : ∀ a' c' news, k + m ≤ c' → RdL M ds news → RL P n w0 ops rest ((d, .slice a' (k + m) c') :: L) M (.acc (.slice a' (k + m) c') e sz (k + m) (us ++ news) :: R) K) : RL P n w0 ops (⟨some d, .call ⟨.builtin .append, #[x, y], #[t, t]⟩, ty, pos, af, none⟩ :: rest) L M Γ K := by
  refine RL.know (F := ∃ news, RdL M ds news ∧ SrcOk w0 M Γ (.slice a m c) sz m news) (fun w hw => src_rd hw hs) ?_
  rintro ⟨news, hr, hs'⟩
  exact RL.append hE hx hy hp hs' hb hm hd fun a' c' hc' => h a' c' news hc' hr
end

/-! ### Small words for the walks -/
theorem Turn.drop {w0 : World} {M : Mem} {Γ Γ' : List As} {F : Mem → List As → Prop} (h : F M Γ') (hs : List.Sublist Γ' Γ) : Turn w0 M Γ F := Turn.of h fun _ hw => hw.sub hs
theorem Turn.back {w0 w1 : World} {M M1 : Mem} {Γ Γ1 : List As} {F : Mem → List As → Prop} (h : St w0 M Γ w1) (hs : Sub M M1) (hF : F M Γ) (hl : List.Sublist Γ Γ1) : Turn w0 M1 Γ1 F := fun _ hw => ⟨M, Γ, hF, h.back (hw.sub hl) hs⟩
theorem CW.addRd {P : Program} {n : Nat} {w0 : World} {c : Code} {X : Pst} {L : Lm} {M : Mem} {Γ : List As} {e : D} {u : Value} (hr : Rd M e u) (h : CW P n w0 c X L M (.rd e u :: Γ)) : CW P n w0 c X L M Γ :=
  h.pre (Keep.refl L) fun _ hw => hw.add (x := .rd e u) hr rfl
theorem CW.addRds {P : Program} {n : Nat} {w0 : World} {c : Code} {X : Pst} {L : Lm} {M : Mem} {Γ : List As} {es : List D} {us : List Value} (hr : RdL M es us) (h : CW P n w0 c X L M (.rds es us :: Γ)) : CW P n w0 c X L M Γ :=
  h.pre (Keep.refl L) fun _ hw => hw.add (x := .rds es us) hr rfl
theorem Rd.slice {M : Mem} {n sz : Nat} {cs : List D} {u : Value} (h : Rd M (.sl n sz cs) u) : ∃ a c, u = .slice a n c ∧ n ≤ c ∧ n ≤ 140737488355328 ∧ cs.length = n * sz := by
  simp only [Rd] at h
  obtain ⟨a, c, h1, h2, _, h4, h5, _⟩ := h
  exact ⟨a, c, h1, h2, h4, h5⟩
/-- A slice that the call has grown is handed back. -/
theorem Turn.sealAcc {w0 : World} {M1 : Mem} {Γ Γ1 R : List As} {F : Mem → List As → Prop} {u : Value} {e : TypeId} {sz n : Nat} {us : List Value} {ds : List D} (hp : Pick (.acc u e sz n us) Γ1 R) (hr : RdL M1 ds us) (hn : n ≤ lim) (hl : List.Sublist Γ R)
    (hF : ∀ M', Sub M1 M' → Rd M' (.sl n sz ds) u → F M' Γ) : Turn w0 M1 Γ1 F := fun _ hw => by
  obtain ⟨M', h1, h2, h3⟩ := (hw.perm hp.perm).sealAcc hr hn
  exact ⟨M', Γ, hF M' h1 h2, h3.sub (hl.trans (List.sublist_cons_self _ _))⟩
theorem CW.accNil {P : Program} {n : Nat} {w0 : World} {c : Code} {X : Pst} {L : Lm} {M : Mem} {Γ : List As} (e sz : Nat) (h : CW P n w0 c X L M (.acc (.slice none 0 0) e sz 0 [] :: Γ)) : CW P n w0 c X L M Γ := h.pre (Keep.refl L) fun _ hw => hw.acc_nil e sz
/-- A slice that the call has grown is from now on only read. -/
theorem CW.sealAcc {P : Program} {n : Nat} {w0 : World} {c : Code} {X : Pst} {L : Lm} {M : Mem} {Γ R : List As} {u : Value} {e : TypeId} {sz k : Nat} {us : List Value} {ds : List D} (hp : Pick (.acc u e sz k us) Γ R) (hr : RdL M ds us) (hn : k ≤ lim)
    (h : ∀ M' a c', Sub M M' → u = .slice a k c' → k ≤ c' → Rd M' (.sl k sz ds) (.slice a k c') → CW P n w0 c X L M' (.rd (.sl k sz ds) (.slice a k c') :: R)) : CW P n w0 c X L M Γ := by
  refine CW.turn (F := fun M' Γ' => Sub M M' ∧ Rd M' (.sl k sz ds) u ∧ Γ' = .rd (.sl k sz ds) u :: R) (fun _ hw => ?_) ?_
  · obtain ⟨M', h1, h2, h3⟩ := (hw.perm hp.perm).sealAcc hr hn
    exact ⟨M', _, ⟨h1, h2, rfl⟩, h3⟩
  · rintro M' _ ⟨h1, h2, rfl⟩
    obtain ⟨a, c', rfl, h3, _⟩ := h2.slice
    exact h M' a c' h1 rfl h3 h2

theorem fill0 {sz : Nat} : ∀ zs : List Value, zs.length = 0 * sz → fillL (fun i => some (i * sz, sz)) zs (([] : List (Nat × Value)).map fun p => (p.1, cellsL p.2)) = some [] := fun zs h => by
  have : zs = [] := List.eq_nil_of_length_eq_zero (by omega)
  subst this; rfl
theorem fill1 {sz : Nat} {v : Value} {out : List Value} (h : cellsL v = out) (hl : out.length = sz) : ∀ zs : List Value, zs.length = 1 * sz → fillL (fun i => some (i * sz, sz)) zs ([(0, v)].map fun p => (p.1, cellsL p.2)) = some out := fun zs hz => by
  have h1 : zs.length = sz := by omega
  simp only [List.map_cons, List.map_nil, h, fillL, hl, h1, Nat.zero_mul, Nat.zero_add, Nat.le_refl, and_self, if_true, splice, List.take_zero, List.nil_append]
  rw [List.drop_of_length_le (by omega), List.append_nil]
theorem fill2 {sz : Nat} {v v' : Value} {out out' : List Value} (h : cellsL v = out) (hl : out.length = sz) (h' : cellsL v' = out') (hl' : out'.length = sz) : ∀ zs : List Value, zs.length = 2 * sz → fillL (fun i => some (i * sz, sz)) zs ([(0, v), (1, v')].map fun p => (p.1, cellsL p.2)) = some (out ++ out') := fun zs hz => by
  have h1 : (splice zs 0 out).length = 2 * sz := by rw [splice_length (by omega), hz]
  simp only [List.map_cons, List.map_nil, h, h', fillL, hl, hl', hz, Nat.zero_mul, Nat.zero_add, Nat.one_mul]
  rw [if_pos ⟨trivial, by omega⟩, h1, if_pos ⟨trivial, by omega⟩]
  congr 1
  simp only [splice, hl, hl', List.take_zero, List.nil_append, Nat.zero_add]
  rw [List.take_append_of_le_length (by omega), List.take_of_length_le (by omega), List.drop_append, List.drop_of_length_le (by omega), List.drop_of_length_le (by simp; omega)]
  simp
theorem RdL.vals {M : Mem} : ∀ {vs : List Value}, (∀ v ∈ vs, v.oneCell' = true) → RdL M (vs.map D.v) vs
  | [], _ => RdL.nil M
  | v :: vs, h => RdL.cons (by unfold Rd; exact ⟨rfl, h v (List.mem_cons_self ..)⟩) (RdL.vals fun u hu => h u (List.mem_cons_of_mem _ hu))
theorem CallOk.pick {P : Program} {w0 : World} {M : Mem} {Γ R : List As} {x : As} {f : FuncId} {args : Array Value} {F : Post} (hp : Pick x Γ R) (h : CallOk P w0 M (x :: R) f args F) : CallOk P w0 M Γ f args F :=
  fun w hw => h w (hw.perm hp.perm)
/-- One fact to the front. -/
theorem CW.front {P : Program} {n : Nat} {w0 : World} {c : Code} {X : Pst} {L : Lm} {M : Mem} {Γ R : List As} {x : As} (hp : Pick x Γ R) (h : CW P n w0 c X L M (x :: R)) : CW P n w0 c X L M Γ :=
  h.pre (Keep.refl L) fun _ hw => hw.perm hp.perm
/-- Facts that are wanted no more. -/
theorem CW.drop {P : Program} {n : Nat} {w0 : World} {c : Code} {X : Pst} {L : Lm} {M : Mem} {Γ Γ' : List As} (hl : List.Sublist Γ' Γ) (h : CW P n w0 c X L M Γ') : CW P n w0 c X L M Γ :=
  h.pre (Keep.refl L) fun _ hw => hw.sub hl
theorem fillNode17 {us zs : List Value} (h : us.length = 15) (a b : Value) (hz : zs.length = 17) : fillL ([(0, 15), (15, 1), (16, 1)][·]?) zs [(0, us), (1, [a]), (2, [b])] = some (us ++ [a, b]) := by
  have h0 : splice zs 0 us = us ++ zs.drop 15 := by simp [splice, h]
  obtain ⟨x, y, hxy⟩ : ∃ x y, zs.drop 15 = [x, y] := by
    have : (zs.drop 15).length = 2 := by simp [hz]
    match hq : zs.drop 15, this with
    | [x, y], _ => exact ⟨x, y, rfl⟩
  rw [hxy] at h0
  have h1 : splice (us ++ [x, y]) 15 [a] = us ++ [a, y] := by simp [splice, List.drop_append, h]
  have h2 : splice (us ++ [a, y]) 16 [b] = us ++ [a, b] := by
    simp [splice, List.take_append, List.drop_append, h]
    rw [List.take_of_length_le (by omega), List.drop_of_length_le (by omega)]
  have l1 : (us ++ [x, y]).length = 17 := by simp [h]
  have l2 : (us ++ [a, y]).length = 17 := by simp [h]
  simp only [fillL, List.getElem?_cons_zero, List.getElem?_cons_succ, h, hz, h0, h1, h2, l1, l2, List.length_singleton]
  simp
theorem fillNode16 {us zs : List Value} (h : us.length = 15) (a : Value) (hz : zs.length = 16) : fillL ([(0, 15), (15, 1)][·]?) zs [(0, us), (1, [a])] = some (us ++ [a]) := by
  have h0 : splice zs 0 us = us ++ zs.drop 15 := by simp [splice, h]
  obtain ⟨x, hxy⟩ : ∃ x, zs.drop 15 = [x] := by
    have : (zs.drop 15).length = 1 := by simp [hz]
    match hq : zs.drop 15, this with
    | [x], _ => exact ⟨x, rfl⟩
  rw [hxy] at h0
  have h1 : splice (us ++ [x]) 15 [a] = us ++ [a] := by simp [splice, List.drop_append, h]
  simp [fillL, h, hz, h0, h1]
end Xe
