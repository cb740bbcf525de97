/-
  THE ENGINE, PART I: results that live in memory; matrices; what was sealed for a while. No program in sight.
-/
import Derived.Test.YtjkcjbicleohkaaXeH
namespace Xe
open Go

/-! ### Results in memory -/
/-- What is asked at a return: the result's own block. -/
def CellAt (P : Program) (w0 : World) (r : Nat) (t : TypeId) (L : Lm) (M : Mem) (Γ : List As) (R : Post) : Prop :=
  ∃ b e cs, getL L r = some (.pointer (some (adr (some ⟨b, 0, none⟩) 0))) ∧ As.own b e cs ∈ Γ ∧ aggB P t cs.length = true ∧ Turn w0 M Γ (R (.agg cs.toArray))

theorem CellAt.mk {P : Program} {w0 : World} {r : Nat} {t : TypeId} {L : Lm} {M : Mem} {Γ : List As} {R : Post} {b e sz : Nat} {cs : List Value} (h1 : getL L r = some (.pointer (some (adr (some ⟨b, 0, none⟩) 0)))) (h2 : As.own b e cs ∈ Γ)
    (h3 : cs.length = sz) (h4 : aggB P t sz = true) (h5 : Turn w0 M Γ (R (.agg cs.toArray))) : CellAt P w0 r t L M Γ R := ⟨b, e, cs, h1, h2, by rw [h3]; exact h4, h5⟩

theorem run_loadOwn {P : Program} {w0 w : World} {M : Mem} {Γ : List As} {b : Nat} {e t : TypeId} {cs : List Value} (hw : St w0 M Γ w) (hm : As.own b e cs ∈ Γ) (ha : aggB P t cs.length = true) :
    (loadVar t (adr (some ⟨b, 0, none⟩) 0)).run P w = .ok (.agg cs.toArray) w := by
  obtain ⟨h1, h2⟩ := run_aggB (P := P) (w := w) ha
  have h3 := Y.run_loadCellsFrom (P := P) (w := w) (p := adr (some ⟨b, 0, none⟩) 0) cs 0 #[] (by
    intro j v hj
    rw [adr_add]
    simpa using hw.own_cell hm hj)
  simp [loadVar, h1, h2, loadCells, h3]

theorem enterCell {P : Program} {f : FuncId} {fn : Func} {c : Code} {args : List Value} {w0 : World} {M : Mem} {Γ : List As} {R : Post} {r n : Nat} {t : TypeId}
    (hf : P.funcs[f]? = some fn) (hb : fn.body = some c) (hn : fn.ntmps = n) (hr : fn.results = #[.cell r t]) (ha : Nat.ble args.length n = true)
    (h : ∀ w1, St w0 M Γ w1 → CW P n w0 c (fun e L M Γ => match e with
      | .ret | .normal => CellAt P w0 r t L M Γ R
      | _ => False) (slotsOf 0 args) M Γ) : CallOk P w0 M Γ f args.toArray R := by
  intro w hw
  refine calls_of_wp hf hb ?_
  rw [hn]
  refine wp_mono (h w hw _ w (sat_start n args ha) hw) ?_
  rintro e a w' ⟨L, M1, Γ1, hX, h1, h2⟩
  cases e with
  | normal | ret =>
    obtain ⟨b, e, cs, hv, hm, hag, hi⟩ := hX
    obtain ⟨M', Γ', hR, hw'⟩ := hi w' h2
    refine ⟨h1.defers, .agg cs.toArray, ?_, _, M', Γ', rfl, hR, hw'⟩
    have e1 := h1.get r _ hv
    simp [results, hr, e1, asAddr, run_loadOwn h2 hm hag]
  | _ => exact hX.elim

theorem enterCell2 {P : Program} {f : FuncId} {fn : Func} {c : Code} {args : List Value} {w0 : World} {M : Mem} {Γ : List As} {R : Post} {r s n : Nat} {t : TypeId}
    (hf : P.funcs[f]? = some fn) (hb : fn.body = some c) (hn : fn.ntmps = n) (hr : fn.results = #[.cell r t, .tmp s]) (ha : Nat.ble args.length n = true)
    (h : ∀ w1, St w0 M Γ w1 → CW P n w0 c (fun e L M Γ => match e with
      | .ret | .normal => ∃ v, getL L s = some v ∧ CellAt P w0 r t L M Γ (fun u => R (.tuple #[u, v]))
      | _ => False) (slotsOf 0 args) M Γ) : CallOk P w0 M Γ f args.toArray R := by
  intro w hw
  refine calls_of_wp hf hb ?_
  rw [hn]
  refine wp_mono (h w hw _ w (sat_start n args ha) hw) ?_
  rintro e a w' ⟨L, M1, Γ1, hX, h1, h2⟩
  cases e with
  | normal | ret =>
    obtain ⟨v, hs, b, e, cs, hv, hm, hag, hi⟩ := hX
    obtain ⟨M', Γ', hR, hw'⟩ := hi w' h2
    refine ⟨h1.defers, .tuple #[.agg cs.toArray, v], ?_, _, M', Γ', rfl, hR, hw'⟩
    have e1 := h1.get r _ hv
    have e2 := h1.get s _ hs
    simp [results, hr, e1, e2, asAddr, run_loadOwn h2 hm hag]
  | _ => exact hX.elim

theorem Turn.sealOwn {w0 : World} {M1 : Mem} {Γ Γ1 R : List As} {F : Mem → List As → Prop} {b : Nat} {e : TypeId} {sz n : Nat} {us : List Value} {ds : List D} (hp : Pick (.own b e us) Γ1 R) (hr : RdL M1 ds us) (hl : us.length = n * sz) (hn : n ≤ lim) (hs : List.Sublist Γ R)
    (hF : ∀ M', Sub M1 M' → Rd M' (.sl n sz ds) (.slice (some ⟨b, 0, none⟩) n n) → F M' Γ) : Turn w0 M1 Γ1 F := fun _ hw => by
  obtain ⟨M', h1, h2, h3⟩ := (hw.perm hp.perm).seal_own hr hl hn
  exact ⟨M', Γ, hF M' h1 h2, h3.sub (hs.trans (List.sublist_cons_self _ _))⟩

/-! ### Rows of numbers that are written -/
abbrev ints (l : List Int) : List Value := l.map fun n => .int .i64 n
/-- The rows, each in a block of its own. -/
def mat (l : List (Nat × List Int)) : List As := l.map fun p => .own p.1 3 (ints p.2)
def rowv (p : Nat × List Int) : Value := .slice (some ⟨p.1, 0, none⟩) p.2.length p.2.length
theorem mat_mem {l : List (Nat × List Int)} {k : Nat} {p : Nat × List Int} (h : l[k]? = some p) {Γ : List As} : As.own p.1 3 (ints p.2) ∈ mat l ++ Γ :=
  List.mem_append_left _ (List.mem_map.2 ⟨p, List.mem_of_getElem? h, rfl⟩)
theorem Repl.app {x x' : As} (Γ0 : List As) {Γ Γ' : List As} (h : Repl x x' Γ Γ') : Repl x x' (Γ0 ++ Γ) (Γ0 ++ Γ') := by
  induction Γ0 with
  | nil => exact h
  | cons y ys ih => exact .there y ih
theorem Repl.mat : ∀ {l : List (Nat × List Int)} {k : Nat} {b : Nat} {r : List Int} (_ : l[k]? = some (b, r)) (r' : List Int) (Γ : List As),
    Repl (.own b 3 (ints r)) (.own b 3 (ints r')) (Xe.mat l ++ Γ) (Xe.mat (l.set k (b, r')) ++ Γ)
  | [], _, _, _, h, _, _ => by simp at h
  | p :: l, 0, b, r, h, r', Γ => by
    simp only [List.getElem?_cons_zero, Option.some.injEq] at h
    subst h
    exact .here _
  | p :: l, k + 1, b, r, h, r', Γ => .there _ (Repl.mat (l := l) (k := k) (by simpa using h) r' Γ)

/-- Sealed for a while. -/
def Mem.putAll (M : Mem) : List (Nat × List Int) → Mem
  | [] => M
  | p :: l => (Mem.putAll M l).put p.1 (.cells (ints p.2).toArray 3 (0, 0))

theorem St.sealMat {w0 w : World} {M : Mem} {Γ : List As} : ∀ (l : List (Nat × List Int)), St w0 M (mat l ++ Γ) w →
    St w0 (M.putAll l) Γ w ∧ Sub M (M.putAll l) ∧ (∀ p ∈ l, M.putAll l p.1 = some (.cells (ints p.2).toArray 3 (0, 0)))
  | [], h => ⟨h, Sub.refl M, fun p hp => by simp at hp⟩
  | p :: l, h => by
    have hp : St w0 M (mat l ++ (.own p.1 3 (ints p.2) :: Γ)) w := h.perm (by
      show List.Perm (.own p.1 3 (ints p.2) :: (mat l ++ Γ)) _
      exact List.perm_middle.symm)
    obtain ⟨h1, h2, h3⟩ := St.sealMat l hp
    have hx := h1.all _ (List.mem_cons_self ..)
    have hs : Sub (M.putAll l) ((M.putAll l).put p.1 (.cells (ints p.2).toArray 3 (0, 0))) := Mem.put_sub hx.1
    refine ⟨h1.seal_block rfl hx.2, h2.trans hs, fun q hq => ?_⟩
    rcases List.mem_cons.1 hq with rfl | hq
    · simp [Mem.putAll, Mem.put]
    · exact hs _ _ (h3 q hq)

theorem mat_blks (l : List (Nat × List Int)) : (mat l).filterMap As.blk = l.map (·.1) := by
  induction l with
  | nil => rfl
  | cons p l ih => simp only [mat, List.map_cons, List.filterMap_cons, As.blk]; congr 1

/-- .. and no longer: what is known besides was known before, or speaks of a block of its own. -/
theorem St.unshut {w0 w w' : World} {M : Mem} {Γ Γ1 : List As} {l : List (Nat × List Int)} (h : St w0 M (mat l ++ Γ) w) (h' : St w0 (M.putAll l) (Γ1 ++ Γ) w') (hn : ∀ x ∈ Γ1, ∃ b e cs, x = As.own b e cs) : St w0 M (mat l ++ (Γ1 ++ Γ)) w' := by
  obtain ⟨hs1, hs2, hs3⟩ := St.sealMat l h
  refine ⟨h'.os, h'.tape, h'.output, h'.size, fun b o hb => h'.mem b o (hs2 b o hb), fun x hx => ?_, ?_⟩
  · rcases List.mem_append.1 hx with hx | hx
    · have h0 := h.all x (List.mem_append_left _ hx)
      obtain ⟨p, hp, rfl⟩ := List.mem_map.1 hx
      exact ⟨h0.1, h'.mem _ _ (hs3 p hp)⟩
    · have h2 := h'.all x hx
      rcases List.mem_append.1 hx with hx | hx
      · obtain ⟨b, e, cs, rfl⟩ := hn x hx
        refine ⟨?_, h2.2⟩
        cases hM : M b with
        | none => rfl
        | some o => have := hs2 b o hM; rw [h2.1] at this; cases this
      · have h0 := h.all x (List.mem_append_right _ hx)
        cases x with
        | rd d u => exact h0
        | rds d u => exact h0
        | own b e cs => exact ⟨h0.1, h2.2⟩
        | acc u e sz n us => exact ⟨h2.1, h0.2⟩
        | mp b l => exact ⟨h0.1, h2.2⟩
  · rw [List.filterMap_append, mat_blks]
    have hd := h.nodup
    rw [List.filterMap_append, mat_blks] at hd
    refine List.nodup_append.2 ⟨(List.nodup_append.1 hd).1, h'.nodup, fun a ha b hb => ?_⟩
    obtain ⟨p, hp, rfl⟩ := List.mem_map.1 ha
    obtain ⟨x, hx, hxb⟩ := List.mem_filterMap.1 hb
    rintro rfl
    have := (As.ok_blk_lt (h'.all x hx) hxb).2
    rw [hs3 p hp] at this
    cases this

/-! ### Parts of slices -/
def OptIs (L : Lm) : Option Operand → Nat → Nat → Prop
  | none, d, k => k = d
  | some x, _, k => ∃ z, evL L x = some (.int .i64 z) ∧ z = (k : Int)
theorem run_sliceBound {P : Program} {w : World} {z : Int} {y k : Nat} {c : BoundsCode} (h : z = (k : Int)) (hk : k ≤ y) : (Instr.sliceBound (.int .i64 z) y c).run P w = .ok k w := by
  subst h
  simp [Instr.sliceBound, asIntOf, hk]
def cutV (a : Option Addr) (l h m sz : Nat) : Value := .slice (if m = l then a else a.map (·.add (l * sz))) (h - l) (m - l)
theorem Y.slice {P : Program} {w0 : World} {L : Lm} {M : Mem} {Γ : List As} {d : Option Nat} {ty : TypeId} {pos : String} {af : Array Edge} {g : Option (Nat × Bool)} {x : Operand} {lo hi mx : Option Operand} {t e sz : Nat} {a : Option Addr} {n c : Nat} (l h m : Nat)
    (hx : evL L x = some (.slice a n c)) (hlo : OptIs L lo 0 l) (hhi : OptIs L hi n h) (hmx : OptIs L mx c m) (hb : hi.isSome = true ∨ mx.isSome = false) (h1 : l ≤ h) (h2 : h ≤ m) (h3 : m ≤ c) (ht : sliceB P t e sz = true) :
    Yq P w0 L M Γ ⟨d, .slice t x lo hi mx, ty, pos, af, g⟩ (cutV a l h m sz) := fun k ac w ha _ => by
  obtain ⟨e1, e2⟩ := sliceB_spec ht
  have r3 := run_sizeB (P := P) (w := w) e2
  have key : (Instr.slice t (.slice a n c) (lo.map ac.eval) (hi.map ac.eval) (mx.map ac.eval)).run P w = .ok (cutV a l h m sz) w := by
    have hl : lo = none ∧ l = 0 ∨ ∃ y z, lo = some y ∧ ac.eval y = .int .i64 z ∧ z = (l : Int) := by
      cases lo with
      | none => exact .inl ⟨rfl, hlo⟩
      | some y => obtain ⟨z, hz, e⟩ := hlo; exact .inr ⟨y, z, rfl, ha.ev hz, e⟩
    cases mx with
    | none =>
      simp only [OptIs] at hmx; subst hmx
      cases hi with
      | none =>
        simp only [OptIs] at hhi; subst hhi
        rcases hl with ⟨rfl, rfl⟩ | ⟨y, z, rfl, hy, hz⟩
        · simp [Instr.slice, run_underlying e1, Instr.sliceBounds, r3, cutV]
        · simp [Instr.slice, run_underlying e1, Instr.sliceBounds, hy, r3, run_sliceBound hz h1, cutV]
      | some y =>
        obtain ⟨z, hz, e⟩ := hhi
        rcases hl with ⟨rfl, rfl⟩ | ⟨y', z', rfl, hy, hz'⟩
        · simp [Instr.slice, run_underlying e1, Instr.sliceBounds, ha.ev hz, r3, run_sliceBound e h2, cutV]
        · simp [Instr.slice, run_underlying e1, Instr.sliceBounds, ha.ev hz, hy, r3, run_sliceBound e h2, run_sliceBound hz' h1, cutV]
    | some u =>
      obtain ⟨z', hz', e'⟩ := hmx
      cases hi with
      | none => simp at hb
      | some y =>
        obtain ⟨z, hz, e⟩ := hhi
        rcases hl with ⟨rfl, rfl⟩ | ⟨y', z'', rfl, hy, hz''⟩
        · simp [Instr.slice, run_underlying e1, Instr.sliceBounds, ha.ev hz, ha.ev hz', r3, run_sliceBound e h2, run_sliceBound e' h3, cutV]
        · simp [Instr.slice, run_underlying e1, Instr.sliceBounds, ha.ev hz, ha.ev hz', hy, r3, run_sliceBound e h2, run_sliceBound e' h3, run_sliceBound hz'' h1, cutV]
  simp [execOp, ha.ev hx, Instr.sliceAt, run_underlying e1, key]
theorem Rd.cut {M : Mem} {n sz : Nat} {cs : List D} {a : Option Addr} {c : Nat} (hr : Rd M (.sl n sz cs) (.slice a n c)) (l h m : Nat) (h1 : l ≤ h) (h2 : h ≤ m) (h3 : m ≤ c) (h4 : h ≤ n) :
    Rd M (.sl (h - l) sz ((cs.drop (l * sz)).take ((h - l) * sz))) (cutV a l h m sz) := by
  simp only [Rd] at hr ⊢
  obtain ⟨a', cap, e, k1, k2, k3, k4, k5, k6⟩ := hr
  simp only [Value.slice.injEq] at e
  obtain ⟨rfl, _, rfl⟩ := e
  refine ⟨_, _, rfl, by omega, by omega, by omega, ?_, ?_, ?_⟩
  · have := Nat.mul_le_mul_right sz h4
    simp only [List.length_take, List.length_drop, k4, Nat.sub_mul]
    omega
  · intro hp
    have := k5 (by omega)
    by_cases hm : m = l
    · omega
    · rw [if_neg hm]; simpa using this
  · by_cases hm : m = l
    · have : h - l = 0 := by omega
      simp [this, RdC]
    · rw [if_neg hm]
      refine RdC.mk _ 0 fun k d hk => ?_
      have hk' : cs[l * sz + k]? = some d := by
        rw [List.getElem?_take] at hk
        split at hk
        · simpa using hk
        · cases hk
      have hk2 : k < (h - l) * sz := by
        rw [List.getElem?_take] at hk
        split at hk
        · assumption
        · cases hk
      obtain ⟨u, q1, q2⟩ := RdC.get cs 0 k6 _ d hk'
      have hp : 0 < h - l := by
        rcases Nat.eq_zero_or_pos (h - l) with e | e
        · rw [e] at hk2; omega
        · exact e
      have := k5 (by omega)
      obtain ⟨b, rfl⟩ := Option.isSome_iff_exists.1 this
      refine ⟨u, ?_, q2⟩
      rw [Nat.zero_add] at q1 ⊢
      have : adr ((some b).map (·.add (l * sz))) k = adr (some b) (l * sz + k) := by
        have h0 : b.add (l * sz) = adr (some b) (l * sz) := rfl
        show (b.add (l * sz)).add k = _
        rw [h0, adr_add]
      rw [this]
      exact q1

/-! ### append to what is only read, without room: a new row -/
theorem St.own_acc2 {w0 w : World} {M : Mem} {Γ : List As} {b n cap : Nat} {e : TypeId} {sz : Nat} {cs us : List Value} (hw : St w0 M (.own b e cs :: Γ) w) (hl : us.length = n * sz) (hc : cs.length = cap * sz) (ht : cs.take (n * sz) = us) (hn : n ≤ cap) (hm : cap ≤ maxLen) :
    St w0 M (.acc (.slice (some ⟨b, 0, none⟩) n cap) e sz n us :: Γ) w := by
  have hx := hw.all _ (List.mem_cons_self ..)
  refine ⟨hw.os, hw.tape, hw.output, hw.size, hw.mem, fun y hy => ?_, by simpa [List.filterMap_cons, As.blk, Value.ownBlock] using hw.nodup⟩
  rcases List.mem_cons.1 hy with rfl | hy
  · refine ⟨⟨hl, .inr ⟨b, cap, cs.toArray, rfl, Nat.zero_le _, hx.2, hn, hm, by simpa using hc, by simpa using ht⟩⟩, fun k hk => ?_⟩
    simp only [Value.ownBlock, Option.some.injEq] at hk
    subst hk; exact hx.1
  · exact hw.all y (List.mem_cons_of_mem _ hy)

theorem append_fresh {P : Program} {w0 w : World} {M : Mem} {Γ : List As} {t ty e sz bytes n m : Nat} {a : Option Addr} {x : Value} {ds : List D} {news : List Value} (hE : ElemOk P t e sz bytes)
    (hw : St w0 M Γ w) (hr : Rd M (.sl n sz ds) (.slice a n n)) (hs : SrcOk w0 M Γ x sz m news) (hm0 : 0 < m) (hb : (n + m) * bytes ≤ 140737488355328) (hm : n + m ≤ lim) :
    ∃ a' c' us w', (Builtin.append_ #[t, t] ty #[.slice a n n, x]).run P w = .ok (.slice a' (n + m) c') w' ∧ RdL M ds us ∧ n + m ≤ c' ∧ St w0 M (.acc (.slice a' (n + m) c') e sz (n + m) (us ++ news) :: Γ) w' := by
  obtain ⟨ht, ⟨i, z, hi, hz, hsize, hby, hzs⟩, hpos⟩ := hE
  obtain ⟨hl, h1, hsrc⟩ := hs
  have h63 : n + m ≤ maxLen := by unfold lim at hm; unfold maxLen; omega
  rcases hsrc with ⟨p, c, rfl, hnews⟩ | ⟨rfl, c, rfl⟩
  · subst hsize
    simp only [Rd] at hr
    obtain ⟨a0, cap0, e0, k1, k2, k3, k4, k5, k6⟩ := hr
    simp only [Value.slice.injEq] at e0
    obtain ⟨rfl, _, rfl⟩ := e0
    have fin : ∀ (us : List Value), us.length = n * i.size → ∀ cap', n + m ≤ cap' → cap' ≤ maxLen → ∀ (arr : Array Value), arr = (us ++ news).toArray ++ Builtin.zeroCells z.cells (cap' - (n + m)) →
        St w0 M (.acc (.slice (some ⟨w.heap.size, 0, none⟩) (n + m) cap') e i.size (n + m) (us ++ news) :: Γ) (w.drew.alloc (.cells arr e (0, 0))) := by
      intro us hus cap' hc1 hc2 arr harr
      have h5 := (hw.draw (w.drawn + 1)).alloc e arr.toList
      have hzl : (Builtin.zeroCells z.cells (cap' - (n + m))).size = (cap' - (n + m)) * i.size := by rw [size_zeroCells, hzs]
      have h6 : St w0 M (.own w.heap.size e arr.toList :: Γ) (w.drew.alloc (.cells arr e (0, 0))) := by
        have : arr.toList.toArray = arr := by simp
        rw [this] at h5
        exact h5
      have hun : (us ++ news).length = (n + m) * i.size := by rw [List.length_append, hus, hl, Nat.add_mul]
      refine St.own_acc2 (cs := arr.toList) h6 hun ?_ ?_ hc1 hc2
      · rw [harr]
        simp only [Array.toList_append, List.length_append, Array.length_toList, hzl, hus, hl]
        rw [← Nat.add_mul, ← Nat.add_mul]
        congr 1
        omega
      · rw [harr]
        simp only [Array.toList_append]
        rw [List.take_append_of_le_length (by rw [hun]; exact Nat.le_refl _), List.take_of_length_le (by rw [hun]; exact Nat.le_refl _)]
    rcases Nat.eq_zero_or_pos n with rfl | hnp
    · have hd : ds = [] := List.eq_nil_of_length_eq_zero (by rw [k4]; simp)
      subst hd
      cases a with
      | none =>
        have hr2 := run_append_nil (P := P) w t ty e i z ht hi hz p m c news hl (hnews w hw) hm0 (by unfold lim at hm; omega) (by rw [hby]; simp at hb; omega)
        refine ⟨_, _, [], _, by simpa using hr2, RdL.nil _, ?_, ?_⟩
        · simpa using grownCap_ge w m 0 e
        · have := fin [] (by simp) (grownCap w m 0 e) (by simpa using grownCap_ge w m 0 e) (grownCap_le_maxLen w m 0 e (by omega)) _ rfl
          simpa using this
      | some b =>
        have hr2 := run_append_grow (P := P) w t ty e i z ht hi hz b 0 0 [] (by simp) (fun j v h => by simp at h) p m c news hl (hnews w hw) (by omega) (by unfold lim at hm; omega)
          (by rw [hby]; exact growslice_fits (by omega) hb)
        refine ⟨_, _, [], _, hr2, RdL.nil _, grownCap_ge w (0 + m) 0 e, ?_⟩
        have := fin [] (by simp) (grownCap w (0 + m) 0 e) (grownCap_ge w (0 + m) 0 e) (grownCap_le_maxLen w (0 + m) 0 e (by omega)) _ rfl
        simpa using this
    · obtain ⟨b, rfl⟩ := Option.isSome_iff_exists.1 (k5 hnp)
      obtain ⟨us, hus, hcell⟩ := cells_of (M := M) (a := some b) (q := 0) (ds := ds) (fun j e hj => RdC.get ds 0 k6 j e hj)
      have hul : us.length = n * i.size := by rw [hus.1, k4]
      have hr2 := run_append_grow (P := P) w t ty e i z ht hi hz b n n us hul (fun j v hj => by
          have := hw.cell (hcell j v hj)
          rwa [Nat.zero_add, ← adr_of] at this) p m c news hl (hnews w hw) (by omega) (by unfold lim at hm; omega)
          (by rw [hby]; exact growslice_fits (by omega) hb)
      refine ⟨_, _, us, _, hr2, hus, grownCap_ge w (n + m) n e, ?_⟩
      exact fin us hul (grownCap w (n + m) n e) (grownCap_ge w (n + m) n e) (grownCap_le_maxLen w (n + m) n e (by omega)) _ (by simp)
  · omega

section
variable {P : Program} {n : Nat} {w0 : World} {ops : Array Oper} {rest : List Oper} {L : Lm} {M : Mem} {Γ : List As} {K : Lm → Mem → List As → Prop} {ty : TypeId} {pos : String} {af : Array Edge} {d : Nat}
theorem RL.appendFresh {t e sz bytes k m : Nat} {x y : Operand} {a : Option Addr} {ds : List D} {xv : Value} {news : List Value} (hE : ElemOk P t e sz bytes) (hx : evL L x = some (.slice a k k)) (hy : evL L y = some xv) (hr : Rd M (.sl k sz ds) (.slice a k k))
    (hs : SrcOk w0 M Γ xv sz m news) (hm0 : 0 < m) (hb : (k + m) * bytes ≤ 140737488355328) (hm : k + m ≤ lim) (hd : Nat.blt d n = true)
    (h : ∀ a' c' us, k + m ≤ c' → RdL M ds us → RL P n w0 ops rest ((d, .slice a' (k + m) c') :: L) M (.acc (.slice a' (k + m) c') e sz (k + m) (us ++ news) :: Γ) K) : RL P n w0 ops (⟨some d, .call ⟨.builtin .append, #[x, y], #[t, t]⟩, ty, pos, af, none⟩ :: rest) L M Γ K := by
  refine RL.e (fun v M' Γ' => ∃ a' c' us, v = .slice a' (k + m) c' ∧ k + m ≤ c' ∧ RdL M ds us ∧ M' = M ∧ Γ' = .acc v e sz (k + m) (us ++ news) :: Γ) (fun n a w ha hw => ?_) hd ?_
  · obtain ⟨a', c', us, w', h1, h2, h3, h4⟩ := append_fresh (P := P) (ty := ty) hE hw hr hs hm0 hb hm
    refine ⟨_, w', M, _, ?_, ⟨a', c', us, rfl, h3, h2, rfl, rfl⟩, h4⟩
    simp [execOp, resolve, invoke, Go.builtin, ha.ev hx, ha.ev hy, h1]
  · rintro v M' Γ' ⟨a', c', us, rfl, h3, h2, rfl, rfl⟩
    exact h a' c' us h3 h2
/-- A block of whole elements may be grown. -/
theorem RL.ownAcc {b k e sz : Nat} {us : List Value} {R : List As} (hp : Pick (.own b e us) Γ R) (hl : us.length = k * sz) (hk : k ≤ maxLen) (h : RL P n w0 ops rest L M (.acc (.slice (some ⟨b, 0, none⟩) k k) e sz k us :: R) K) : RL P n w0 ops rest L M Γ K :=
  h.pre (fun _ _ h => h) fun _ hw => (hw.perm hp.perm).own_acc hl hk
theorem RL.addRd {dd : D} {u : Value} (hr : Rd M dd u) (h : RL P n w0 ops rest L M (.rd dd u :: Γ) K) : RL P n w0 ops rest L M Γ K :=
  h.pre (fun _ _ h => h) fun _ hw => hw.add (x := .rd dd u) hr rfl
theorem RL.sealAcc {u : Value} {e : TypeId} {sz k : Nat} {us : List Value} {ds : List D} {R : List As} (hp : Pick (.acc u e sz k us) Γ R) (hr : RdL M ds us) (hn : k ≤ lim)
    (h : ∀ M' a c', Sub M M' → u = .slice a k c' → k ≤ c' → Rd M' (.sl k sz ds) (.slice a k c') → RL P n w0 ops rest L M' (.rd (.sl k sz ds) (.slice a k c') :: R) K) : RL P n w0 ops rest L M Γ K := by
  refine RL.turn (F := fun M' Γ' => Sub M M' ∧ Rd M' (.sl k sz ds) u ∧ Γ' = .rd (.sl k sz ds) u :: R) (fun _ hw => ?_) ?_
  · obtain ⟨M', h1, h2, h3⟩ := (hw.perm hp.perm).sealAcc hr hn
    exact ⟨M', _, ⟨h1, h2, rfl⟩, h3⟩
  · rintro M' _ ⟨h1, h2, rfl⟩
    obtain ⟨a, c', rfl, h3, _⟩ := h2.slice
    exact h M' a c' h1 rfl h3 h2
end
theorem RdL.set {M : Mem} {ds : List D} {us : List Value} (h : RdL M ds us) (i : Nat) {d : D} {v : Value} (hv : Rd M d v) : RdL M (ds.set i d) (us.set i v) := by
  refine ⟨by simp [h.1], fun k e u h1 h2 => ?_⟩
  rw [List.getElem?_set] at h1 h2
  by_cases e : i = k
  · subst e
    simp only [if_true] at h1 h2
    split at h1
    · rename_i hlt
      rw [if_pos (by rw [h.1]; exact hlt)] at h2
      cases h1; cases h2; exact hv
    · cases h1
  · rw [if_neg e] at h1 h2
    exact h.2 k _ u h1 h2
theorem CW.sealOwn {P : Program} {n : Nat} {w0 : World} {c : Code} {X : Pst} {L : Lm} {M : Mem} {Γ R : List As} {b k : Nat} {e : TypeId} {sz : Nat} {us : List Value} {ds : List D} (hp : Pick (.own b e us) Γ R) (hr : RdL M ds us) (hl : us.length = k * sz) (hn : k ≤ lim)
    (h : ∀ M', Sub M M' → Rd M' (.sl k sz ds) (.slice (some ⟨b, 0, none⟩) k k) → CW P n w0 c X L M' R) : CW P n w0 c X L M Γ := by
  refine CW.turn (F := fun M' Γ' => Sub M M' ∧ Rd M' (.sl k sz ds) (.slice (some ⟨b, 0, none⟩) k k) ∧ Γ' = R) (fun _ hw => ?_) ?_
  · obtain ⟨M', h1, h2, h3⟩ := (hw.perm hp.perm).seal_own hr hl hn
    exact ⟨M', _, ⟨h1, h2, rfl⟩, h3.sub (List.sublist_cons_self _ _)⟩
  · rintro M' _ ⟨h1, h2, rfl⟩
    exact h M' h1 h2
end Xe
