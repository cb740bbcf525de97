/-
  THE ENGINE, PART M: from a law's arguments (integers, slices of integers) to the engine, and back to what the row asks. No program in sight.
-/
import Derived.Test.YtjkcjbicleohkaaXeL
import Derived.ProofKit
import Derived.SizedLaws
import Derived.Below
namespace Xe
open Go Go.ChangeShapes Go.WideShapes Go.RowKit

abbrev memOf (W : World) : Mem := fun b => W.heap[b]?
theorem st_start (W : World) : St W (memOf W) [] W := ⟨rfl, rfl, rfl, Nat.le_refl _, fun _ _ h => h, fun _ h => by simp at h, by simp⟩
theorem below_of {W w' : World} (h : St W (memOf W) [] w') : Below W.heap.size W w' :=
  ⟨h.os, h.tape, h.output, h.size, fun k hk => by
    have e : memOf W k = some W.heap[k] := Array.getElem?_eq_getElem hk
    rw [h.mem k _ e]; exact e.symm⟩
theorem cellM_memOf (W : World) (p : Addr) : cellM (memOf W) p = W.cell? p := by
  unfold cellM World.cell? memOf
  cases W.heap[p.block]? with
  | none => rfl
  | some o => cases o <;> rfl

inductive Arg where
  | ints (l : List Int)
  | num (n : Int)
inductive ArgsOk (M : Mem) (ti tn : TypeId) : List TypeId → List Arg → List Value → Prop
  | nil : ArgsOk M ti tn [] [] []
  | ints {ts : List TypeId} {as : List Arg} {vs : List Value} {l : List Int} {v : Value} : Rd M (dints l) v → (∀ x ∈ l, InI x) → ArgsOk M ti tn ts as vs → ArgsOk M ti tn (ti :: ts) (.ints l :: as) (v :: vs)
  | num {ts : List TypeId} {as : List Arg} {vs : List Value} {n : Int} : InI n → ArgsOk M ti tn ts as vs → ArgsOk M ti tn (tn :: ts) (.num n :: as) (vint n :: vs)

theorem ArgsOk.ints_inv {M : Mem} {ti tn : TypeId} {ts : List TypeId} {as : List Arg} {vs : List Value} (h : ArgsOk M ti tn (ti :: ts) as vs) (hne : ti ≠ tn := by decide) :
    ∃ l v as' vs', as = .ints l :: as' ∧ vs = v :: vs' ∧ Rd M (dints l) v ∧ (∀ x ∈ l, InI x) ∧ ArgsOk M ti tn ts as' vs' := by
  generalize e : ti :: ts = ts0 at h
  cases h with
  | nil => cases e
  | ints h1 h2 h3 => simp only [List.cons.injEq] at e; obtain ⟨_, rfl⟩ := e; exact ⟨_, _, _, _, rfl, rfl, h1, h2, h3⟩
  | num h1 h3 => simp only [List.cons.injEq] at e; exact absurd e.1 hne
theorem ArgsOk.num_inv {M : Mem} {ti tn : TypeId} {ts : List TypeId} {as : List Arg} {vs : List Value} (hne : tn ≠ ti) (h : ArgsOk M ti tn (tn :: ts) as vs) :
    ∃ n as' vs', as = .num n :: as' ∧ vs = vint n :: vs' ∧ InI n ∧ ArgsOk M ti tn ts as' vs' := by
  generalize e : tn :: ts = ts0 at h
  cases h with
  | nil => cases e
  | ints h1 h2 h3 => simp only [List.cons.injEq] at e; exact absurd e.1 hne
  | num h1 h3 => simp only [List.cons.injEq] at e; obtain ⟨_, rfl⟩ := e; exact ⟨_, _, _, rfl, rfl, h1, h3⟩
theorem ArgsOk.nil_inv {M : Mem} {ti tn : TypeId} {as : List Arg} {vs : List Value} (h : ArgsOk M ti tn [] as vs) : as = [] ∧ vs = [] := by
  cases h; exact ⟨rfl, rfl⟩
section
variable {H : Type} {enc : TypeId × Value → H} {P : Program} {W : World}

theorem inI_of {n : Int} (h : (Lit.int .i64 n).wf = true) : InI n := by
  simp only [Lit.wf, Bool.and_eq_true, decide_eq_true_eq] at h
  unfold InI
  have h1 : IntKind.i64.min = -9223372036854775808 := by decide
  have h2 : IntKind.i64.max = 9223372036854775807 := by decide
  omega

/-- An argument that reads again, where the call has turned nothing that was there. -/
def Again (enc : TypeId × Value → H) (P : Program) (W : World) (t : TypeId) (v : Value) (d : DataW H) (p : List MemPlace) : Prop :=
  ∀ (W' : World) (sp : Nat → Bool), Below W.heap.size W W' → (∀ q ∈ p, sp q.block = true) → DataW.Trod enc P W' 0 sp true t v d p

theorem open_arg_ints {t e : TypeId} {v : Value} {d : DataW H} {p : List MemPlace} (ht : P.underlying t = some (.slice e)) (he : P.underlying e = some (.int .i64)) (hc : P.cellsOf e = 1)
    (hval : Value.okWide P W .any 0 t v ∨ ∃ a n c, v = .slice a n c) (h : DataW.Trod enc P W 0 (fun _ => true) true t v d p) (hsz : ∀ elems spare, d = .slice elems spare → elems.length + spare.length ≤ lim) :
    ∃ l, Rd (memOf W) (dints l) v ∧ (∀ x ∈ l, InI x) ∧ Again enc P W t v d p := by
  obtain ⟨a0, n0, c0, rfl⟩ : ∃ a n c, v = .slice a n c := by
    rcases hval with hv | hv
    · exact okWide_slice ht hv
    · exact hv
  have h0 := h
  obtain ⟨fuel, hf⟩ := h
  rcases open_ints ht he hc hf with ⟨hcs, hx⟩ | ⟨a, len, cap, zs, hcs, hb, hl, hm, hz, hx, hcell, hw⟩
  · obtain ⟨rfl, rfl, rfl⟩ : a0 = none ∧ n0 = 0 ∧ c0 = 0 := by simpa [Value.cells] using hcs
    simp only [Prod.mk.injEq] at hx
    obtain ⟨rfl, rfl⟩ := hx
    refine ⟨[], ?_, fun x hx => by simp at hx, fun W' sp _ _ => ⟨1, ?_⟩⟩
    · simp only [dints, Rd]
      exact ⟨none, 0, rfl, Nat.le_refl _, Nat.zero_le _, Nat.zero_le _, rfl, by simp, by simp [RdC]⟩
    · simp [DataW.trod, Value.cells, ht]
  · obtain ⟨rfl, rfl, rfl⟩ : a0 = some a ∧ n0 = len ∧ c0 = cap := by simpa [Value.cells] using hcs
    simp only [Prod.mk.injEq] at hx
    obtain ⟨rfl, rfl⟩ := hx
    simp only [if_true] at hz
    have hlen : (zs.take n0).length = n0 := by simp; omega
    have hlim : n0 ≤ lim := by
      have := hsz _ _ rfl
      simp [lits] at this
      omega
    refine ⟨zs.take n0, ?_, fun x hx => inI_of (hw x (List.mem_of_mem_take hx)), fun W' sp hB hsp => ?_⟩
    · simp only [dints, Rd, hlen]
      refine ⟨some a, c0, rfl, hl, hm, hlim, by simp; omega, fun _ => rfl, RdC.mk _ 0 fun k dd hk => ?_⟩
      have hkn : k < n0 := by
        rcases Nat.lt_or_ge k n0 with h | h
        · exact h
        · rw [List.getElem?_eq_none (by simp; omega)] at hk; cases hk
      have hdd : dd = dint (zs.getD k 0) := by
        have hkz : k < zs.length := by omega
        simp only [List.getElem?_map, List.getElem?_take_of_lt hkn, List.getElem?_eq_getElem hkz, Option.map_some, Option.some.injEq] at hk
        rw [← hk, List.getD_eq_getElem?_getD, List.getElem?_eq_getElem hkz]; rfl
      subst hdd
      refine ⟨vint (zs.getD k 0), ?_, Rd.i _⟩
      rw [cellM_memOf, Nat.zero_add]
      exact hcell k (by omega)
    · have hlt : zs ≠ [] → a.block < W.heap.size := fun hne => by
        have hp : 0 < zs.length := List.length_pos_iff.2 hne
        have := World.block_lt_of_cell? _ _ (hcell 0 hp)
        simpa [Addr.add] using this
      have hz2 : zs.length = (if sp a.block then c0 else n0) := by
        by_cases he0 : zs = []
        · subst he0
          have hz' : c0 = 0 := by simpa using hz.symm
          have hn' : n0 = 0 := by omega
          rw [hz', hn']; simp
        · have : sp a.block = true := by
            have hp : 0 < zs.length := List.length_pos_iff.2 he0
            have hq := hsp _ (MemPlace.mem_row.2 ⟨0, hp, rfl⟩)
            exact hq
          rw [this]; exact hz
      refine ⟨0 + 2, ?_⟩
      have := shut_ints (enc := enc) (P := P) (w := W') (base := 0) (spare := sp) (held := true) (a := a) (len := n0) (cap := c0) (zs := zs) 0 ht he hc hb hl hm hz2 (fun i hi => ?_) hw
      · simpa [Value.cells] using this
      · have h1 := hcell i hi
        have hbl : (a.add i).block < W.heap.size := World.block_lt_of_cell? _ _ h1
        unfold World.cell? at h1 ⊢
        rw [hB.block _ hbl]
        exact h1

theorem args_of {ti tn e : TypeId} (hti : P.underlying ti = some (.slice e)) (he : P.underlying e = some (.int .i64)) (hc : P.cellsOf e = 1) (htn : P.underlying tn = some (.int .i64)) :
    ∀ (ts : List TypeId) (vs : List Value) (ds : List (DataW H)) (p : List MemPlace), DataW.TrodAll enc P W 0 (fun _ => true) true ts vs ds p → (∀ t ∈ ts, t = ti ∨ t = tn) →
    (∀ (j : Nat) t v, ts[j]? = some t → vs[j]? = some v → ∃ b, Value.okWide P W .any b t v) → (∀ (j : Nat) elems spare, ts[j]? = some ti → ds[j]? = some (.slice elems spare) → elems.length + spare.length ≤ lim) →
    ∃ as, ArgsOk (memOf W) ti tn ts as vs ∧ ∀ (W' : World) (sp : Nat → Bool), Below W.heap.size W W' → (∀ q ∈ p, sp q.block = true) → DataW.TrodAll enc P W' 0 sp true ts vs ds p
  | [], vs, ds, p, h, _, _, _ => by
    obtain ⟨rfl, rfl, rfl⟩ := trodAll_nil h
    exact ⟨[], .nil, fun _ _ _ _ => rfl⟩
  | t :: ts, vs, ds, p, h, hts, hval, hsz => by
    obtain ⟨v, vs1, d, ds1, pa, pb, rfl, rfl, rfl, h1, h2⟩ := trodAll_cons h
    obtain ⟨as, h3, h4⟩ := args_of hti he hc htn ts vs1 ds1 pb h2 (fun x hx => hts x (List.mem_cons_of_mem _ hx)) (fun j x y hx hy => hval (j + 1) x y (by simpa using hx) (by simpa using hy)) (fun j x y hx hy => hsz (j + 1) x y (by simpa using hx) (by simpa using hy))
    obtain ⟨b, hv⟩ := hval 0 t v rfl rfl
    by_cases hi : t = ti
    · subst hi
      obtain ⟨l, k1, k2, k3⟩ := open_arg_ints hti he hc (.inr (okWide_slice hti hv)) h1 (fun x y hxy => hsz 0 x y rfl (by rw [hxy]; rfl))
      exact ⟨.ints l :: as, .ints k1 k2 h3, fun W' sp hB hq => ⟨pa, pb, k3 W' sp hB fun q hq' => hq q (List.mem_append_left _ hq'), h4 W' sp hB fun q hq' => hq q (List.mem_append_right _ hq'), rfl⟩⟩
    · have hn : t = tn := (hts t (List.mem_cons_self ..)).resolve_left hi
      subst hn
      obtain ⟨n, rfl, rfl, rfl, hw⟩ := open_int htn hv h1
      exact ⟨.num n :: as, .num (inI_of hw) h3, fun W' sp hB hq => ⟨[], pb, shut_int htn hw, h4 W' sp hB fun q hq' => hq q (by simpa using hq'), rfl⟩⟩

/-- What a call hands back that has turned nothing that was there. -/
theorem post_below {f : Func} {s : ChangeSpec} {apart fresh handsOn again : Bool} {W' : World} {args : Array Value} {v : Value} {ds gs : List (DataW H)} {before pa pv : List MemPlace}
    (hW : DataW.Whole enc P f.params.toList s.vars apart W args.toList ds gs before)
    (hres : ∀ (b : Nat) (sp : Nat → Bool) (hd : Bool), DataW.TrodAll enc P W' b sp hd f.resultTypes.toList (v.resultList f.resultTypes.size) (s.fn H (ds ++ gs)).results [])
    (hargs : ∀ sp : Nat → Bool, (∀ p ∈ before, sp p.block = true) → DataW.TrodAll enc P W' 0 sp true f.params.toList args.toList (s.fn H (ds ++ gs)).args pa)
    (hvars : ∀ sp : Nat → Bool, (∀ p ∈ before, sp p.block = true) → DataW.TrodVars enc P W' sp s.vars (s.fn H (ds ++ gs)).vars pv)
    (hps : before = pa ++ pv) (hb : Below W.heap.size W W')
    (hok : ∀ (j : Nat) (t : TypeId) (r : Value), f.resultTypes[j]? = some t → (v.resultList f.resultTypes.size)[j]? = some r → Value.okWide P W' .any 0 t r) :
    s.post enc P f apart fresh handsOn again W args v W' := by
  have hlt : ∀ p ∈ before, p.block < W.heap.size := fun p hp => hW.lt p hp
  have hold : ∀ p ∈ before, (fun b => decide (b < W.heap.size)) p.block = true := fun p hp => by simpa using hlt p hp
  refine ⟨ds, gs, before, [], pa, pv, hW, hres _ _ _, hargs _ hold, hvars _ hold, World.keptBut_mono (fun p hp => ⟨hp, ?_⟩) (hb.frame (· ∈ before)), fun _ => ?_⟩
  · rw [hps, List.mem_append] at hp
    exact Or.inr hp
  · obtain ⟨_, _, _, _, _, hz, hn⟩ := hW
    refine ⟨hok, _, _, ([] ++ pa) ++ pv, ⟨[] ++ pa, pv, trodAll_append (hargs _ (fun _ _ => rfl)) (hres _ _ _), hvars _ (fun _ _ => rfl), rfl, ?_, ?_⟩, ?_⟩
    · intro b off hp
      have hin : MemPlace.cell b off ∈ before := by rw [hps]; simpa using hp
      rw [hb.frozen (hlt _ hin)]
      exact hz b off hin
    · intro ha
      have := hn ha
      rw [hps] at this
      simpa using this
    · intro p hp _
      rw [hps]
      simpa using hp
end

/-- A law over integers and slices of integers, out of its walk. -/
theorem law_lifted {H : Type} {enc : TypeId × Value → H} {C : Checked} {os : Os} {f : FuncId} {fn : Func} {s : ChangeSpec} {ti tn e tb : TypeId} {fresh handsOn again : Bool} (own : ownKnob C.prog.godebug = none) (started : os.Started) (noInit : C.prog.inits.idxOf? f = none) (hfn : C.prog.funcs[f]? = some fn)
    (hti : C.prog.underlying ti = some (.slice e)) (he : C.prog.underlying e = some (.int .i64)) (hc : C.prog.cellsOf e = 1) (hbe : Nat.blt 0 (C.prog.bytesOf e) = true) (htn : C.prog.underlying tn = some (.int .i64)) (htb : C.prog.underlying tb = some .bool)
    (hts : (fn.params.toList.all fun t => t == ti || t == tn) = true) (hres : fn.resultTypes = #[tb]) (hvars : s.vars = []) (hspec : ∀ ds : List (DataW H), ds.length = fn.params.toList.length → s.fn H ds = { results := [.lit (.bool true)], args := ds, vars := [] })
    (witness : ∃ (w : World) (tape : Tape) (i : Input), w.os = os ∧ (w.forCall tape i).Shaped C.prog ∧ i.vars = [] ∧ Input.okWide C.prog (w.forCall tape i) .any w.heap.size f i ∧
      s.pre6 enc C.prog fn [] false (w.forCall tape i).memory i.args ∧ Assume.holds {} C.prog (lone (Frame.enter C.prog f i.args .normal) [] (w.forCall tape i)))
    (contract : ∀ (W : World) (as : List Arg) (vs : List Value), ArgsOk (memOf W) ti tn fn.params.toList as vs → CallOk C.prog W (memOf W) [] f vs.toArray (Is (memOf W) [] (.bool true))) :
    ReturnsInHanded {} C os f .any (s.pre6 enc C.prog fn [] false) (s.post enc C.prog fn false fresh handsOn again) := by
  refine returnsInHanded_of_change_sized own started noInit hfn witness ?_
  intro W base args ds gs before hval hW _ hsz _
  have hW' := hW
  obtain ⟨p, q, hA, hV, hb, hfz, hnd⟩ := hW
  rw [hvars] at hV
  obtain ⟨rfl, rfl⟩ := trodVars_none hV
  have hvt : s.plain.varTypes C.prog = [] := by
    have : s.plain.vars = [] := hvars
    unfold DataSpec.varTypes
    rw [this]; rfl
  rw [hvt, List.append_nil, List.append_nil] at hsz
  have hts' : ∀ t ∈ fn.params.toList, t = ti ∨ t = tn := fun t ht => by
    have := List.all_eq_true.1 hts t ht
    simpa using this
  have hbe' : 0 < C.prog.bytesOf e := by simpa [Nat.blt_eq] using hbe
  obtain ⟨as, h1, h2⟩ := args_of (enc := enc) hti he hc htn fn.params.toList args.toList ds p hA hts' (fun j t v ht hv => ⟨base, hval j t v (by simpa using ht) (by simpa using hv)⟩) (fun j elems spare ht hd => by
    have h3 := sized_slice hsz ht hd hti
    have h4 : elems.length + spare.length ≤ (elems.length + spare.length) * C.prog.bytesOf e := Nat.le_mul_of_pos_right _ hbe'
    have h5 := reachBytes_lt
    unfold lim
    omega)
  have hlen : ds.length = fn.params.toList.length := by
    have : ∀ (ts : List TypeId) (vs : List Value) (ds : List (DataW H)) (p : List MemPlace), DataW.TrodAll enc C.prog W 0 (fun _ => true) true ts vs ds p → ds.length = ts.length := by
      intro ts
      induction ts with
      | nil => intro vs ds p h; obtain ⟨_, rfl, _⟩ := trodAll_nil h; rfl
      | cons t ts ih =>
        intro vs ds p h
        obtain ⟨v, vs1, d, ds1, a, b, rfl, rfl, rfl, _, h2⟩ := trodAll_cons h
        simp [ih _ _ _ h2]
    exact this _ _ _ _ hA
  refine (contract W as args.toList h1 W (st_start W)).mono ?_
  rintro e' W' ⟨v, M', Γ', rfl, ⟨rfl, rfl, rfl⟩, hw'⟩
  refine ⟨_, rfl, ?_⟩
  have hB := below_of hw'
  have hfn' := hspec ds hlen
  refine post_below (pa := p) (pv := []) hW' (fun b sp hd => ?_) (fun sp hsp => ?_) (fun sp _ => ?_) (by rw [hb]) hB (fun j t r hj hr => ?_)
  · rw [List.append_nil, hfn', hres]
    exact trodAll_mk1 (shut_bool htb true)
  · rw [List.append_nil, hfn']
    exact h2 W' sp hB fun q hq => hsp q (by rw [hb, List.append_nil]; exact hq)
  · rw [List.append_nil, hfn', hvars]
    rfl
  · rw [hres] at hj hr
    have hj0 : j = 0 := by
      rcases Nat.eq_zero_or_pos j with h | h
      · exact h
      · rw [Array.getElem?_eq_none (by simp; omega)] at hj; cases hj
    subst hj0
    simp [Value.resultList] at hj hr
    subst hj hr
    exact okWide_bool_mk htb true
end Xe
