/-
  THE ENGINE, PART F: loops with a frame; slices that grow; slices that are made; what is sealed. No program in sight.
-/
import Derived.Test.YtjkcjbicleohkaaXeE
namespace Xe
open Go

/-! ### A loop: only what a round turns is written out -/
def EndR (w0 : World) (M : Mem) (L0 : Lm) (Γ0 : List As) (I : Nat → Lm → Mem → List As → Prop) (m : Nat) (L2 : Lm) (M2 : Mem) (Γ2 : List As) : Prop :=
  ∃ m' Lc, m' < m ∧ Keep L2 (Lc ++ L0) ∧ Turn w0 M2 Γ2 (fun M3 Γ3 => ∃ Γc, Γ3 = Γc ++ Γ0 ∧ Sub M M3 ∧ I m' Lc M3 Γc)

theorem CW.loopF {P : Program} {n : Nat} {w0 : World} {X : Pst} {L : Lm} {M : Mem} {Γ : List As} {c : Code} (I : Nat → Lm → Mem → List As → Prop) (m : Nat) (Lc : Lm) (Γc : List As) {L0 : Lm} {Γ0 : List As}
    (hL : L = Lc ++ L0) (hG : Γ = Γc ++ Γ0) (h0 : I m Lc M Γc)
    (round : ∀ m Lc M1 Γc, Sub M M1 → I m Lc M1 Γc → CW P n w0 c (thenX (EndR w0 M L0 Γ0 I m) X) (Lc ++ L0) M1 (Γc ++ Γ0)) : CW P n w0 (.loop c) X L M Γ := by
  subst hL hG
  refine CW.loop (fun m L M1 Γ => ∃ Lc Γc, L = Lc ++ L0 ∧ Γ = Γc ++ Γ0 ∧ Sub M M1 ∧ I m Lc M1 Γc) m ⟨Lc, Γc, rfl, rfl, Sub.refl M, h0⟩ ?_
  rintro m L M1 Γ ⟨Lc, Γc, rfl, rfl, hs, hI⟩
  intro a w ha hw
  refine wp_mono (round m Lc M1 Γc hs hI a w ha hw) ?_
  rintro e a w ⟨L2, M2, Γ2, hX, h1, h2⟩
  cases e with
  | normal =>
    obtain ⟨m', Lc', hlt, hk, ht⟩ := hX
    obtain ⟨M3, Γ3, ⟨Γc', rfl, hs3, hI3⟩, hw3⟩ := ht w h2
    exact ⟨Lc' ++ L0, M3, Γc' ++ Γ0, ⟨m', hlt, Lc', Γc', rfl, rfl, hs3, hI3⟩, h1.keep hk, hw3⟩
  | _ => exact ⟨L2, M2, Γ2, hX, h1, h2⟩

/-! ### Made by the call: sealed -/
def Mem.put (M : Mem) (b : Nat) (o : Obj) : Mem := fun k => if k = b then some o else M k
theorem Mem.put_sub {M : Mem} {b : Nat} {o : Obj} (h : M b = none) : Sub M (M.put b o) := fun k x hk => by
  unfold Mem.put
  by_cases e : k = b
  · subst e; rw [h] at hk; cases hk
  · rw [if_neg e]; exact hk

theorem St.seal_block {w0 w : World} {M : Mem} {Γ : List As} {x : As} {b : Nat} {o : Obj} (hw : St w0 M (x :: Γ) w) (hx : x.blk = some b) (ho : w.heap[b]? = some o) : St w0 (M.put b o) Γ w := by
  have hb := As.ok_blk_lt (hw.all x (List.mem_cons_self ..)) hx
  have hs : Sub M (M.put b o) := Mem.put_sub hb.2
  have hnd := hw.nodup
  simp only [List.filterMap_cons, hx] at hnd
  refine ⟨hw.os, hw.tape, hw.output, hw.size, fun k y hk => ?_, fun y hy => ?_, (List.nodup_cons.1 hnd).2⟩
  · unfold Mem.put at hk
    by_cases e : k = b
    · subst e; rw [if_pos rfl] at hk; cases hk; exact ho
    · rw [if_neg e] at hk; exact hw.mem k y hk
  · have hy' := hw.all y (List.mem_cons_of_mem _ hy)
    refine As.ok_keep hy' hs fun k hk => ⟨rfl, ?_⟩
    have hne : k ≠ b := fun e => by subst e; exact (List.nodup_cons.1 hnd).1 (mem_blk hy hk)
    unfold Mem.put
    rw [if_neg hne]
    exact (As.ok_blk_lt hy' hk).2

theorem cellM_put {M : Mem} {b : Nat} {c : Array Value} {e : TypeId} {i : Nat} {v : Value} (h : c[i]? = some v) : cellM (M.put b (.cells c e (0, 0))) (adr (some ⟨b, 0, none⟩) i) = some v := by
  rw [adr_some]
  simp [cellM, Mem.put, h]

/-- A slice that the call has grown is from now on only read. -/
theorem St.sealAcc {w0 w : World} {M : Mem} {Γ : List As} {u : Value} {e : TypeId} {sz n : Nat} {us : List Value} {ds : List D} (hw : St w0 M (.acc u e sz n us :: Γ) w) (hr : RdL M ds us) (hn : n ≤ lim) :
    ∃ M', Sub M M' ∧ Rd M' (.sl n sz ds) u ∧ St w0 M' (.rd (.sl n sz ds) u :: Γ) w := by
  have hx := hw.all _ (List.mem_cons_self ..)
  obtain ⟨⟨hl, hh⟩, hM⟩ := hx
  rcases hh with ⟨rfl, rfl⟩ | ⟨b, cap, cur, rfl, _, hb, hnc, hcm, hcs, htk⟩
  · have hd : ds = [] := by
      have h1 := hr.1
      have : us.length = 0 := by simpa using hl
      rw [this] at h1
      exact List.eq_nil_of_length_eq_zero h1.symm
    subst hd
    have hrd : Rd M (.sl 0 sz []) (.slice none 0 0) := by
      simp only [Rd]
      exact ⟨none, 0, rfl, Nat.le_refl _, Nat.zero_le _, Nat.zero_le _, by simp, by simp, by simp [RdC]⟩
    refine ⟨M, Sub.refl M, hrd, ?_⟩
    exact (hw.sub (List.sublist_cons_self _ _)).add (x := .rd (.sl 0 sz []) (.slice none 0 0)) hrd rfl
  · have hMb : M b = none := hM b rfl
    have hs : Sub M (M.put b (.cells cur e (0, 0))) := Mem.put_sub hMb
    have hw' := hw.seal_block (b := b) rfl hb
    have hrd : Rd (M.put b (.cells cur e (0, 0))) (.sl n sz ds) (.slice (some ⟨b, 0, none⟩) n cap) := by
      simp only [Rd]
      refine ⟨some ⟨b, 0, none⟩, cap, rfl, hnc, hcm, hn, by rw [← hr.1]; exact hl, fun _ => rfl, RdC.mk ds 0 fun k d hk => ?_⟩
      obtain ⟨v, h1, h2⟩ := RdL.get hr hk
      refine ⟨v, ?_, Rd.mono hs d v h2⟩
      rw [Nat.zero_add]
      apply cellM_put
      have hk' : k < n * sz := by
        rw [← hl]
        rcases Nat.lt_or_ge k us.length with h | h
        · exact h
        · rw [List.getElem?_eq_none h] at h1; cases h1
      rw [← htk, List.getElem?_take_of_lt hk'] at h1
      simpa using h1
    exact ⟨_, hs, hrd, hw'.add (x := .rd _ _) hrd rfl⟩

/-- A block of the call's own of whole elements is from now on only read. -/
theorem St.seal_own {w0 w : World} {M : Mem} {Γ : List As} {b n : Nat} {e : TypeId} {sz : Nat} {us : List Value} {ds : List D} (hw : St w0 M (.own b e us :: Γ) w) (hr : RdL M ds us) (hl : us.length = n * sz) (hn : n ≤ lim) :
    ∃ M', Sub M M' ∧ Rd M' (.sl n sz ds) (.slice (some ⟨b, 0, none⟩) n n) ∧ St w0 M' (.rd (.sl n sz ds) (.slice (some ⟨b, 0, none⟩) n n) :: Γ) w := by
  have hx := hw.all _ (List.mem_cons_self ..)
  obtain ⟨hM, hb⟩ := hx
  have hs : Sub M (M.put b (.cells us.toArray e (0, 0))) := Mem.put_sub hM
  have hw' := hw.seal_block (b := b) rfl hb
  have hrd : Rd (M.put b (.cells us.toArray e (0, 0))) (.sl n sz ds) (.slice (some ⟨b, 0, none⟩) n n) := by
    simp only [Rd]
    refine ⟨some ⟨b, 0, none⟩, n, rfl, Nat.le_refl _, by unfold lim at hn; unfold maxLen; omega, hn, by rw [← hr.1]; exact hl, fun _ => rfl, RdC.mk ds 0 fun k d hk => ?_⟩
    obtain ⟨v, h1, h2⟩ := RdL.get hr hk
    refine ⟨v, ?_, Rd.mono hs d v h2⟩
    rw [Nat.zero_add]
    apply cellM_put
    simpa using h1
  exact ⟨_, hs, hrd, hw'.add (x := .rd _ _) hrd rfl⟩

/-- A block of the call's own of whole elements may be grown. -/
theorem St.own_acc {w0 w : World} {M : Mem} {Γ : List As} {b n : Nat} {e : TypeId} {sz : Nat} {us : List Value} (hw : St w0 M (.own b e us :: Γ) w) (hl : us.length = n * sz) (hn : n ≤ maxLen) :
    St w0 M (.acc (.slice (some ⟨b, 0, none⟩) n n) e sz n us :: Γ) w := by
  have hx := hw.all _ (List.mem_cons_self ..)
  refine ⟨hw.os, hw.tape, hw.output, hw.size, hw.mem, fun y hy => ?_, by simpa [List.filterMap_cons, As.blk, Value.ownBlock] using hw.nodup⟩
  rcases List.mem_cons.1 hy with rfl | hy
  · refine ⟨⟨hl, .inr ⟨b, n, us.toArray, rfl, Nat.zero_le _, hx.2, Nat.le_refl _, hn, by simpa using hl, ?_⟩⟩, fun k hk => ?_⟩
    · rw [List.take_of_length_le (by simp; omega)]
    · simp only [Value.ownBlock, Option.some.injEq] at hk
      subst hk; exact hx.1
  · exact hw.all y (List.mem_cons_of_mem _ hy)

theorem St.acc_nil {w0 w : World} {M : Mem} {Γ : List As} (hw : St w0 M Γ w) (e sz : Nat) : St w0 M (.acc (.slice none 0 0) e sz 0 [] :: Γ) w :=
  hw.add ⟨World.ownsRow_nil w 0 e sz, fun b hb => by simp [Value.ownBlock] at hb⟩ rfl

/-! ### append -/
/-- The facts on a slice type whose values are grown. -/
structure ElemOk (P : Program) (t e sz bytes : Nat) : Prop where
  ut : P.underlying t = some (.slice e)
  info : ∃ i z, P.info? e = some i ∧ i.zero = some z ∧ i.size = sz ∧ i.bytes = bytes ∧ z.cells.size = sz
  pos : 0 < sz
theorem ElemOk.mk' {P : Program} {t e sz bytes : Nat} {z : Value} (h1 : P.underlying t = some (.slice e)) (h2 : (P.info? e).map (fun i => (i.zero, i.size, i.bytes)) = some (some z, sz, bytes)) (h3 : z.cells.size = sz) (h4 : Nat.blt 0 sz = true) : ElemOk P t e sz bytes := by
  refine ⟨h1, ?_, by simpa [Nat.blt_eq] using h4⟩
  cases hi : P.info? e with
  | none => simp [hi] at h2
  | some i =>
    simp only [hi, Option.map_some, Option.some.injEq, Prod.mk.injEq] at h2
    exact ⟨i, z, rfl, h2.1, h2.2.1, h2.2.2, h3⟩

/-- The new cells lie in memory, each where it should. -/
def SrcOk (w0 : World) (M : Mem) (Γ : List As) (x : Value) (sz m : Nat) (news : List Value) : Prop :=
  news.length = m * sz ∧ (∀ u ∈ news, u.oneCell' = true) ∧
  ((∃ p c, x = .slice (some p) m c ∧ ∀ w, St w0 M Γ w → ∀ j u, news[j]? = some u → w.cell? (p.add j) = some u) ∨ (m = 0 ∧ ∃ c, x = .slice none 0 c))

theorem St.grown {w0 w w' : World} {M : Mem} {Γ : List As} {u u' : Value} {e : TypeId} {sz n n' : Nat} {us us' : List Value} (hw : St w0 M (.acc u e sz n us :: Γ) w)
    (hg : w.grownBy w' u.ownBlock) (ho : w'.ownsRow 0 e sz u' n' us') (hb : ∀ b, u'.ownBlock = some b → u.ownBlock = some b ∨ w.heap.size ≤ b) : St w0 M (.acc u' e sz n' us' :: Γ) w' := by
  have hx := hw.all _ (List.mem_cons_self ..)
  have hold : ∀ k, k < w.heap.size → u.ownBlock ≠ some k → w'.heap[k]? = w.heap[k]? := fun k hk hne => hg.block k hk (fun e => hne e.symm)
  have hnd := hw.nodup
  have hrest : ∀ y ∈ Γ, ∀ k, y.blk = some k → u.ownBlock ≠ some k := fun y hy k hk e => by
    simp only [List.filterMap_cons, As.blk, e] at hnd
    exact (List.nodup_cons.1 hnd).1 (mem_blk hy hk)
  refine ⟨hg.os.trans hw.os, hg.tape.trans hw.tape, hg.output.trans hw.output, Nat.le_trans hw.size hg.size, fun k o hk => ?_, fun y hy => ?_, ?_⟩
  · rw [hold k (hw.lt hk) (fun e => by rw [hx.2 k e] at hk; cases hk)]; exact hw.mem k o hk
  · rcases List.mem_cons.1 hy with rfl | hm
    · refine ⟨ho, fun b hbb => ?_⟩
      rcases hb b hbb with h | h
      · exact hx.2 b h
      · cases hM : M b with
        | none => rfl
        | some o => have := hw.lt hM; omega
    · have hy' := hw.all y (List.mem_cons_of_mem _ hm)
      refine As.ok_keep hy' (Sub.refl M) fun k hk => ⟨hold k (As.ok_blk_lt hy' hk).1 (hrest y hm k hk), (As.ok_blk_lt hy' hk).2⟩
  · simp only [List.filterMap_cons, As.blk] at hnd ⊢
    cases hu' : u'.ownBlock with
    | none =>
      cases hu : u.ownBlock with
      | none => simpa [hu] using hnd
      | some k => rw [hu] at hnd; exact (List.nodup_cons.1 hnd).2
    | some b =>
      have hnd2 : (List.filterMap As.blk Γ).Nodup := by
        cases hu : u.ownBlock with
        | none => simpa [hu] using hnd
        | some k => rw [hu] at hnd; exact (List.nodup_cons.1 hnd).2
      refine List.nodup_cons.2 ⟨fun hm => ?_, hnd2⟩
      obtain ⟨y, hy, hk⟩ := List.mem_filterMap.1 hm
      rcases hb b hu' with h | h
      · exact hrest y hy b hk h
      · have := (As.ok_blk_lt (hw.all y (List.mem_cons_of_mem _ hy)) hk).1
        omega

theorem append_acc {P : Program} {w0 w : World} {M : Mem} {Γ : List As} {t ty e sz bytes n m : Nat} {u x : Value} {us news : List Value} (hE : ElemOk P t e sz bytes)
    (hw : St w0 M (.acc u e sz n us :: Γ) w) (hs : SrcOk w0 M (.acc u e sz n us :: Γ) x sz m news) (hb : (n + m) * bytes ≤ 140737488355328) (hm : n + m ≤ lim) :
    ∃ u' w', (Builtin.append_ #[t, t] ty #[u, x]).run P w = .ok u' w' ∧ St w0 M (.acc u' e sz (n + m) (us ++ news) :: Γ) w' := by
  obtain ⟨ht, ⟨i, z, hi, hz, hsize, hby, hzs⟩, hpos⟩ := hE
  obtain ⟨hl, h1, hsrc⟩ := hs
  have hx := hw.all _ (List.mem_cons_self ..)
  have h63 : n + m ≤ maxLen := by unfold lim at hm; unfold maxLen; omega
  rcases hsrc with ⟨p, c, rfl, hnews⟩ | ⟨rfl, c, rfl⟩
  · obtain ⟨v', w', hr, ho, hg, _⟩ := run_append_own (P := P) w 0 t ty e i z sz bytes ht hi hz hsize hby hzs hpos u n us hx.1 p m c news hl (hnews w hw) h1 h63 hb (Nat.zero_le _)
    refine ⟨v', w', hr, hw.grown hg ho fun b hbb => ?_⟩
    subst hsize
    obtain ⟨hlen, hh⟩ := hx.1
    rcases hh with ⟨rfl, rfl⟩ | ⟨b0, cap, cur, rfl, _, hb0, hnc, hcm, hcs, htk⟩
    · rcases Nat.eq_zero_or_pos m with rfl | hmp
      · have e0 : news = [] := List.eq_nil_of_length_eq_zero (by simpa using hl)
        subst e0
        have hr2 : (Builtin.append_ #[t, t] ty #[.slice none 0 0, .slice (some p) 0 c]).run P w = .ok (.slice none 0 0) w := by
          have hf := run_firstCells_some (P := P) w i.size 0 p 0 c [] (by simp) (by simp)
          simp [Builtin.append_, run_underlying ht, Go.sizeOf, typeInfo, hi, Builtin.lenOf, hf]
        rw [hr2] at hr
        cases hr
        simp [Value.ownBlock] at hbb
      · have hr2 := run_append_nil (P := P) w t ty e i z ht hi hz p m c news hl (hnews w hw) hmp (by unfold lim at hm; omega) (by rw [hby]; simp at hb; omega)
        rw [hr2] at hr
        cases hr
        simp only [Value.ownBlock, Option.some.injEq] at hbb
        right; omega
    · by_cases hroom : n + m ≤ cap
      · have hr2 := run_append_room (P := P) w t ty e i ht hi b0 n cap cur hb0 p m c news hl (hnews w hw) h1 hroom (by rw [hl, hcs, ← Nat.add_mul]; exact Nat.mul_le_mul_right _ hroom)
        rw [hr2] at hr
        cases hr
        exact .inl hbb
      · have holds : ∀ j v, us[j]? = some v → w.cell? ((⟨b0, 0, none⟩ : Addr).add j) = some v := hx.1.cells rfl
        have hr2 := run_append_grow (P := P) w t ty e i z ht hi hz ⟨b0, 0, none⟩ n cap us hlen holds p m c news hl (hnews w hw) (by omega) (by unfold lim at hm; omega)
          (by rw [hby]; exact growslice_fits (by omega) hb)
        rw [hr2] at hr
        cases hr
        simp only [Value.ownBlock, Option.some.injEq] at hbb
        right; omega
  · have e0 : news = [] := List.eq_nil_of_length_eq_zero (by simpa using hl)
    subst e0
    refine ⟨u, w, ?_, by simpa using hw⟩
    obtain ⟨hlen, hh⟩ := hx.1
    rcases hh with ⟨rfl, rfl⟩ | ⟨b0, cap, cur, rfl, _, hb0, hnc, hcm, hcs, htk⟩
    · simp [Builtin.append_, run_underlying ht, Go.sizeOf, typeInfo, hi, Builtin.lenOf, Builtin.firstCells]
    · simp [Builtin.append_, run_underlying ht, Go.sizeOf, typeInfo, hi, Builtin.lenOf, Builtin.firstCells, hnc, storeCells]

end Xe
