/-
  THE ENGINE, PART R: facts found in what is known of the state; sums that may run over. No program in sight.
-/
import Derived.Test.YtfgkhhfkodlbpaaXeQ
namespace Xe
open Go

/-- What holds in whatever such state. -/
def Kn (w0 : World) (M : Mem) (Γ : List As) (F : Prop) : Prop := ∀ w, St w0 M Γ w → F
section
variable {P : Program} {w0 : World} {M : Mem} {Γ : List As} {F : Prop}
theorem Kn.rds {ds : List D} {us : List Value} (h : As.rds ds us ∈ Γ) : Kn w0 M Γ (RdL M ds us) := fun _ hw => hw.all _ h
theorem Kn.rd {d : D} {u : Value} (h : As.rd d u ∈ Γ) : Kn w0 M Γ (Rd M d u) := fun _ hw => hw.all _ h
theorem Kn.via {Γ' : List As} (hC : ∀ w, St w0 M Γ' w → St w0 M Γ w) (h : Kn w0 M Γ F) : Kn w0 M Γ' F := fun w hw => h w (hC w hw)
theorem Kn.of (h : F) : Kn w0 M Γ F := fun _ _ => h
theorem CallOk.kn {f : FuncId} {args : Array Value} {R : Post} (h : Kn w0 M Γ F) (k : F → CallOk P w0 M Γ f args R) : CallOk P w0 M Γ f args R := fun w hw => k (h w hw) w hw
theorem CallOk.perm {Γ' : List As} {f : FuncId} {args : Array Value} {R : Post} (hp : List.Perm Γ Γ') (h : CallOk P w0 M Γ' f args R) : CallOk P w0 M Γ f args R := fun w hw => h w (hw.perm hp)
theorem CW.kn {n : Nat} {c : Code} {X : Pst} {L : Lm} (h : Kn w0 M Γ F) (k : F → CW P n w0 c X L M Γ) : CW P n w0 c X L M Γ := CW.know h k
theorem RL.kn {n : Nat} {ops : Array Oper} {rest : List Oper} {L : Lm} {K : Lm → Mem → List As → Prop} (h : Kn w0 M Γ F) (k : F → RL P n w0 ops rest L M Γ K) : RL P n w0 ops rest L M Γ K := RL.know h k
theorem QL.kn {n : Nat} {ops : Array Oper} {C0 : List As} {rest : List Oper} {L : Lm} {K : Lm → List As → Prop} (h : Kn w0 M Γ F) (k : F → QL P n w0 ops C0 M rest L Γ K) : QL P n w0 ops C0 M rest L Γ K := QL.know h k
theorem RL.addRds {n : Nat} {ops : Array Oper} {rest : List Oper} {L : Lm} {K : Lm → Mem → List As → Prop} {es : List D} {us : List Value} (hr : RdL M es us) (h : RL P n w0 ops rest L M (.rds es us :: Γ) K) : RL P n w0 ops rest L M Γ K :=
  h.pre (fun _ _ h => h) fun _ hw => hw.add (x := .rds es us) hr rfl
theorem Turn.addRds {G : Mem → List As → Prop} {es : List D} {us : List Value} (hr : RdL M es us) (h : Turn w0 M (.rds es us :: Γ) G) : Turn w0 M Γ G := fun w hw => h w (hw.add (x := .rds es us) hr rfl)
theorem Turn.kn {G : Mem → List As → Prop} (h : Kn w0 M Γ F) (k : F → Turn w0 M Γ G) : Turn w0 M Γ G := fun w hw => k (h w hw) w hw
/-- A struct that is known by what it reads as, into a block of its own. -/
theorem RL.storeRds {n : Nat} {ops : Array Oper} {rest : List Oper} {L : Lm} {K : Lm → Mem → List As → Prop} {ty : TypeId} {pos : String} {af : Array Edge} {t : TypeId} {x y : Operand} {b e : Nat} {cs vs : List Value} {ds : List D} {Γ' : List As} (sz : Nat) (hx : evL L x = some (.pointer (some (adr (some ⟨b, 0, none⟩) 0)))) (hy : evL L y = some (.agg vs.toArray))
    (hr : Repl (.own b e cs) (.own b e vs) Γ Γ') (hm : As.rds ds vs ∈ Γ) (hd : ds.length = sz) (hc : Kn w0 M Γ (cs.length = sz)) (ht : sizeB P t sz = true)
    (h : RL P n w0 ops rest L M Γ' K) : RL P n w0 ops (⟨none, .store t x y, ty, pos, af, none⟩ :: rest) L M Γ K := by
  refine RL.kn (Kn.rds hm) fun hv => RL.kn hc fun hcs => ?_
  have hl : vs.length = sz := by rw [hv.1, hd]
  exact RL.storeAgg vs hx hy hr (by simp [hl, hcs]) (by omega) (fun _ _ => hv.one) (by rw [hl]; exact ht) h
theorem Kn.lenRds {ds : List D} {us : List Value} {sz : Nat} (h : As.rds ds us ∈ Γ) (hd : ds.length = sz) : Kn w0 M Γ (us.length = sz) := fun _ hw => by
  have := (hw.all _ h : RdL M ds us).1
  rw [this, hd]
theorem Kn.lenLit {us : List Value} {sz : Nat} (h : us.length = sz) : Kn w0 M Γ (us.length = sz) := fun _ _ => h
end

theorem wanted_undef {n : Nat} {L : Lm} {a : Act} {ops : Array Oper} {op : Op} {ty : TypeId} {pos : String} {after : Array Edge} {j : Nat} {want : Bool} {d : Option Nat} {t : Nat} (ha : Sat n L a) (ht : (ops[j]?).bind (·.dst) = some t) (hu : getL L t = some undef) : Region.wanted (⟨d, op, ty, pos, after, some (j, want)⟩ : Oper) (yielded ops a.tmps) = false := by
  have := ha.get t _ hu
  simp only [Region.wanted, yielded, ht, Option.bind_some, this]
  rfl
theorem RL_noU {P : Program} {n : Nat} {w0 : World} {ops : Array Oper} {rest : List Oper} {L : Lm} {M : Mem} {Γ : List As} {K : Lm → Mem → List As → Prop} {op : Op} {ty : TypeId} {pos : String} {after : Array Edge} {j : Nat} {want : Bool} {d t : Nat} (ht : (ops[j]?).bind (·.dst) = some t) (hu : getL L t = some undef) (hd : Nat.blt d n = true)
    (h : RL P n w0 ops rest ((d, undef) :: L) M Γ K) : RL P n w0 ops (⟨some d, op, ty, pos, after, some (j, want)⟩ :: rest) L M Γ K := by
  intro R hR a w ha hw
  have hn := wanted_undef (op := op) (ty := ty) (pos := pos) (after := after) (want := want) (d := some d) ha ht hu
  unfold wpList
  rw [if_neg (by rw [hn]; simp)]
  exact h R hR _ _ (ha.put hd) hw
theorem QL_noU {P : Program} {n : Nat} {w0 : World} {ops : Array Oper} {C0 : List As} {rest : List Oper} {L : Lm} {M : Mem} {Γ : List As} {K : Lm → List As → Prop} {op : Op} {ty : TypeId} {pos : String} {after : Array Edge} {j : Nat} {want : Bool} {d t : Nat} (ht : (ops[j]?).bind (·.dst) = some t) (hu : getL L t = some undef) (hd : Nat.blt d n = true)
    (h : QL P n w0 ops C0 M rest ((d, undef) :: L) Γ K) : QL P n w0 ops C0 M (⟨some d, op, ty, pos, after, some (j, want)⟩ :: rest) L Γ K := by
  intro hex hC R hR a ha
  have hn := wanted_undef (op := op) (ty := ty) (pos := pos) (after := after) (want := want) (d := some d) ha ht hu
  unfold wpQuiet
  rw [if_neg (by rw [hn]; simp)]
  exact h hex hC R hR _ (ha.put hd)

/-- Cells that are known in whatever such state. -/
def CellsK (w0 : World) (M : Mem) (Γ : List As) (p : Addr) (vs : List Value) : Prop := ∀ w, St w0 M Γ w → ∀ j v, vs[j]? = some v → w.cell? (p.add j) = some v
theorem CellsK.own {w0 : World} {M : Mem} {Γ : List As} {b e : Nat} {vs : List Value} (h : As.own b e vs ∈ Γ) : CellsK w0 M Γ (adr (some ⟨b, 0, none⟩) 0) vs := fun w hw j v hj => by
  rw [adr_add]
  have := hw.own_cell h hj
  simpa using this
theorem CellsK.mono {w0 : World} {M : Mem} {Γ Γ' : List As} {p : Addr} {vs : List Value} (h : CellsK w0 M Γ p vs) (hs : ∀ w, St w0 M Γ' w → St w0 M Γ w) : CellsK w0 M Γ' p vs := fun w hw => h w (hs w hw)
theorem Y.loadK {P : Program} {w0 : World} {L : Lm} {M : Mem} {Γ : List As} {d : Option Nat} {ty : TypeId} {pos : String} {af : Array Edge} {g : Option (Nat × Bool)} {x : Operand} {t : TypeId} {p : Addr} {vs : List Value} (hx : evL L x = some (.pointer (some p))) (hc : CellsK w0 M Γ p vs) (hf : aggB P t vs.length = true) :
    Yq P w0 L M Γ ⟨d, .load t x, ty, pos, af, g⟩ (.agg vs.toArray) := Y.loadAgg hx hf hc

/-- A beginning of a slice that is only read. -/
theorem Rd.takeN {M : Mem} {α : Type} {enc : α → List D} {sz : Nat} (he : ∀ x, (enc x).length = sz) {l : List α} {a : Option Addr} {c : Nat} (hr : Rd M (.sl l.length sz (l.flatMap enc)) (.slice a l.length c)) (k : Nat) (hk : k ≤ l.length) :
    Rd M (.sl (l.take k).length sz ((l.take k).flatMap enc)) (.slice a (l.take k).length c) := by
  have hc : l.length ≤ c := by obtain ⟨a', c', h1, h2, _⟩ := hr.slice; simp only [Value.slice.injEq] at h1; omega
  have h := Rd.cut hr 0 k c (Nat.zero_le _) (by omega) (Nat.le_refl _) hk
  rw [cut0, Nat.zero_mul, List.drop_zero, Nat.sub_zero] at h
  have hl : (l.take k).length = k := by rw [List.length_take]; omega
  rw [flat_takeN he] at h
  rw [hl]
  exact h

theorem enterCell3 {P : Program} {f : FuncId} {fn : Func} {c : Code} {args : List Value} {w0 : World} {M : Mem} {Γ : List As} {R : Post} {r s1 s2 n : Nat} {t : TypeId}
    (hf : P.funcs[f]? = some fn) (hb : fn.body = some c) (hn : fn.ntmps = n) (hr : fn.results = #[.cell r t, .tmp s1, .tmp s2]) (ha : Nat.ble args.length n = true)
    (h : ∀ w1, St w0 M Γ w1 → CW P n w0 c (fun e L M Γ => match e with
      | .ret | .normal => ∃ v1 v2, getL L s1 = some v1 ∧ getL L s2 = some v2 ∧ CellAt P w0 r t L M Γ (fun u => R (.tuple #[u, v1, v2]))
      | _ => False) (slotsOf 0 args) M Γ) : CallOk P w0 M Γ f args.toArray R := by
  intro w hw
  refine calls_of_wp hf hb ?_
  rw [hn]
  refine wp_mono (h w hw _ w (sat_start n args ha) hw) ?_
  rintro e a w' ⟨L, M1, Γ1, hX, h1, h2⟩
  cases e with
  | normal | ret =>
    obtain ⟨v1, v2, hs1, hs2, b, e, cs, hv, hm, hag, hi⟩ := hX
    obtain ⟨M', Γ', hR, hw'⟩ := hi w' h2
    refine ⟨h1.defers, .tuple #[.agg cs.toArray, v1, v2], ?_, _, M', Γ', rfl, hR, hw'⟩
    have e1 := h1.get r _ hv
    have f1 := h1.get s1 _ hs1
    have f2 := h1.get s2 _ hs2
    simp [results, hr, e1, f1, f2, asAddr, run_loadOwn h2 hm hag]
  | _ => exact hX.elim
theorem enterCell4 {P : Program} {f : FuncId} {fn : Func} {c : Code} {args : List Value} {w0 : World} {M : Mem} {Γ : List As} {R : Post} {r s1 s2 s3 n : Nat} {t : TypeId}
    (hf : P.funcs[f]? = some fn) (hb : fn.body = some c) (hn : fn.ntmps = n) (hr : fn.results = #[.cell r t, .tmp s1, .tmp s2, .tmp s3]) (ha : Nat.ble args.length n = true)
    (h : ∀ w1, St w0 M Γ w1 → CW P n w0 c (fun e L M Γ => match e with
      | .ret | .normal => ∃ v1 v2 v3, getL L s1 = some v1 ∧ getL L s2 = some v2 ∧ getL L s3 = some v3 ∧ CellAt P w0 r t L M Γ (fun u => R (.tuple #[u, v1, v2, v3]))
      | _ => False) (slotsOf 0 args) M Γ) : CallOk P w0 M Γ f args.toArray R := by
  intro w hw
  refine calls_of_wp hf hb ?_
  rw [hn]
  refine wp_mono (h w hw _ w (sat_start n args ha) hw) ?_
  rintro e a w' ⟨L, M1, Γ1, hX, h1, h2⟩
  cases e with
  | normal | ret =>
    obtain ⟨v1, v2, v3, hs1, hs2, hs3, b, e, cs, hv, hm, hag, hi⟩ := hX
    obtain ⟨M', Γ', hR, hw'⟩ := hi w' h2
    refine ⟨h1.defers, .tuple #[.agg cs.toArray, v1, v2, v3], ?_, _, M', Γ', rfl, hR, hw'⟩
    have e1 := h1.get r _ hv
    have f1 := h1.get s1 _ hs1
    have f2 := h1.get s2 _ hs2
    have f3 := h1.get s3 _ hs3
    simp [results, hr, e1, f1, f2, f3, asAddr, run_loadOwn h2 hm hag]
  | _ => exact hX.elim

/-! ### Sums that may run over -/
def w64 (z : Int) : Int := IntKind.i64.wrap z
theorem w64_eq (z : Int) : w64 z = (z + 9223372036854775808) % 18446744073709551616 - 9223372036854775808 := by
  unfold w64 IntKind.wrap
  simp only [IntKind.signed, IntKind.bits]
  simp
  split <;> omega
theorem w64_add (a b : Int) : w64 (w64 a + b) = w64 (a + b) := by simp only [w64_eq]; omega
theorem w64_add2 (a b : Int) : w64 (a + w64 b) = w64 (a + b) := by simp only [w64_eq]; omega
theorem w64_in {z : Int} (h : -9223372036854775808 ≤ z ∧ z ≤ 9223372036854775807) : w64 z = z := by rw [w64_eq]; omega
theorem w64_inI (z : Int) : InI (w64 z) := by unfold InI; rw [w64_eq]; omega
section
variable {P : Program} {w0 : World} {L : Lm} {M : Mem} {Γ : List As} {d : Option Nat} {ty : TypeId} {pos : String} {af : Array Edge} {g : Option (Nat × Bool)}
namespace Y
/-- The whole of a block of the call's own, known by what it reads as. -/
theorem loadAllR {x : Operand} {t : TypeId} {b e : Nat} {us : List Value} {ds : List D} {sz : Nat} (hx : evL L x = some (.pointer (some (adr (some ⟨b, 0, none⟩) 0)))) (hm : As.own b e us ∈ Γ) (hr : As.rds ds us ∈ Γ) (hl : ds.length = sz) (hf : aggB P t sz = true) :
    Yq P w0 L M Γ ⟨d, .load t x, ty, pos, af, g⟩ (.agg us.toArray) := fun n a w ha hw => by
  have h1 : RdL M ds us := hw.all _ hr
  exact Y.loadAll (sz := sz) hx hm (by rw [h1.1, hl]) hf n a w ha hw
theorem addW {x y : Operand} {m k : Int} {t : TypeId} (hx : evL L x = some (.int .i64 m)) (hy : evL L y = some (.int .i64 k)) :
    Yq P w0 L M Γ ⟨d, .binOp .add t x y t, ty, pos, af, g⟩ (.int .i64 (w64 (m + k))) := fun n a w ha _ => by
  simp [execOp, ha.ev hx, ha.ev hy, eqGuard, Go.binOp, Op.intArith, w64]
theorem subW {x y : Operand} {m k : Int} {t : TypeId} (hx : evL L x = some (.int .i64 m)) (hy : evL L y = some (.int .i64 k)) :
    Yq P w0 L M Γ ⟨d, .binOp .sub t x y t, ty, pos, af, g⟩ (.int .i64 (w64 (m - k))) := fun n a w ha _ => by
  simp [execOp, ha.ev hx, ha.ev hy, eqGuard, Go.binOp, Op.intArith, w64]
theorem negW {x : Operand} {m : Int} {t : TypeId} (hx : evL L x = some (.int .i64 m)) :
    Yq P w0 L M Γ ⟨d, .unOp .neg t x, ty, pos, af, g⟩ (.int .i64 (w64 (-m))) := fun n a w ha _ => by
  simp only [execOp, ha.ev hx, Op.unary, Op.intArith, w64]
  simp
end Y
end
/-! ### Short names of searches -/
theorem MM {α : Type} {x : α} {l : List α} (h : x ∈ l := by first | ((repeat (first | exact List.Mem.head _ | apply List.Mem.tail | apply List.mem_append_right)); done) | fail) : x ∈ l := h
theorem RP {x x' : As} {l l' : List As} (h : Repl x x' l l' := by first | ((repeat (first | exact Repl.here _ | apply Repl.there)); done) | fail) : Repl x x' l l' := h
theorem PK {x : As} {l l' : List As} (h : Pick x l l' := by first | ((repeat (first | exact Pick.here _ | apply Pick.there)); done) | fail) : Pick x l l' := h
theorem SB {l l' : List As} (h : List.Sublist l l' := by first | ((repeat (first | exact List.Sublist.refl _ | apply List.Sublist.cons_cons | apply List.Sublist.cons)); done) | fail) : List.Sublist l l' := h
theorem KR {p : Prop} (h : p := by kernel_rfl) : p := h
theorem WG {ops : Array Oper} {L : Lm} {o : Oper} {b : Bool} (h : Want ops L o b := by exact ⟨_, _, rfl, rfl, rfl⟩) : Want ops L o b := h
theorem AO {p : Prop} (h : p := by first | assumption | omega) : p := h
theorem OM {p : Prop} (h : p := by omega) : p := h
theorem SM {w0 : World} {M : Mem} {Γ : List As} {a : Option Addr} (h : ∀ w, St w0 M Γ w → a.isSome = true := by first | exact fun _ hw => hw.rd_some MM (by omega) | exact fun _ hw => (hw.acc_cell MM (by assumption)).1 | exact fun _ _ => rfl) : ∀ w, St w0 M Γ w → a.isSome = true := h
/-- Such slots, by their numbers. -/
def selL (L : Lm) : List Nat → Option Lm
  | [] => some []
  | k :: ks => match getL L k with
    | some v => match selL L ks with
      | some r => some ((k, v) :: r)
      | none => none
    | none => none
theorem Keep.sel {L : Lm} : ∀ {ks : List Nat} {L' : Lm}, selL L ks = some L' → Keep L L'
  | [], L', h => by simp only [selL, Option.some.injEq] at h; subst h; exact Keep.nil L
  | k :: ks, L', h => by
    simp only [selL] at h
    cases hv : getL L k with
    | none => rw [hv] at h; cases h
    | some v =>
      rw [hv] at h
      cases hr : selL L ks with
      | none => rw [hr] at h; cases h
      | some r =>
        rw [hr] at h
        obtain rfl := Option.some.inj h
        exact Keep.cons k hv (Keep.sel hr)
theorem CW.kp {P : Program} {n : Nat} {w0 : World} {c : Code} {X : Pst} {L L' : Lm} {M : Mem} {Γ : List As} (ks : List Nat) (hs : selL L ks = some L') (h : CW P n w0 c X L' M Γ) : CW P n w0 c X L M Γ := CW.keep (Keep.sel hs) h
theorem KP {L L' : Lm} (ks : List Nat) (hs : selL L ks = some L' := by rfl) : Keep L L' := Keep.sel hs
end Xe
