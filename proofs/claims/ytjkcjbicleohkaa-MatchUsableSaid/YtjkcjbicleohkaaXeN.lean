/-
  THE ENGINE, PART N: tables whose rows may have room to grow: written, cut, grown, and then only read. No program in sight.
-/
import Derived.Test.YtjkcjbicleohkaaXeL
namespace Xe
open Go

/-- A row that the call may grow: where it lies, its room, its numbers. -/
abbrev RowT := (Option Addr × Nat) × List Int
abbrev rowvA (p : RowT) : Value := .slice p.1.1 p.2.length p.1.2
abbrev rowA (p : RowT) : As := .acc (rowvA p) 3 1 p.2.length (ints p.2)
def matA (l : List RowT) : List As := l.map rowA
theorem matA_owns (l : List (RowT)) : ∀ x ∈ matA l, x.owns := fun x hx => by
  obtain ⟨p, _, rfl⟩ := List.mem_map.1 hx
  trivial
theorem matA_perm {l : List (RowT)} {k : Nat} {p : RowT} (h : l[k]? = some p) (p' : RowT) :
    List.Perm (matA l) (rowA p :: matA (l.eraseIdx k)) ∧ List.Perm (matA (l.set k p')) (rowA p' :: matA (l.eraseIdx k)) := by
  induction l generalizing k with
  | nil => simp at h
  | cons q l ih =>
    cases k with
    | zero =>
      simp only [List.getElem?_cons_zero, Option.some.injEq] at h
      subst h
      exact ⟨List.Perm.refl _, List.Perm.refl _⟩
    | succ k =>
      obtain ⟨h1, h2⟩ := ih (k := k) (by simpa using h)
      refine ⟨?_, ?_⟩
      · exact (h1.cons (rowA q)).trans (List.Perm.swap _ _ _)
      · exact (h2.cons (rowA q)).trans (List.Perm.swap _ _ _)
theorem matA_snoc (l : List (RowT)) (p : RowT) : matA (l ++ [p]) = matA l ++ [rowA p] := by simp [matA]
theorem matA_in {l : List (RowT)} {p : RowT} (h : p ∈ l) : rowA p ∈ matA l := List.mem_map.2 ⟨p, h, rfl⟩
theorem ints_of_rd {M : Mem} : ∀ {l : List Int} {us : List Value}, RdL M (l.map dint) us → us = ints l
  | [], us, h => by have := h.1; exact List.eq_nil_of_length_eq_zero (by simpa using this)
  | n :: l, us, h => by
    cases us with
    | nil => have := h.1; simp at this
    | cons u us =>
      have h0 := h.2 0 (dint n) u rfl rfl
      simp only [Rd] at h0
      have h1 : RdL M (l.map dint) us := ⟨by have := h.1; simpa using this, fun k e x h1 h2 => h.2 (k + 1) e x (by simpa using h1) (by simpa using h2)⟩
      rw [ints_of_rd h1, h0.1]; rfl

section
variable {w0 w : World} {M : Mem} {Γ : List As}
/-- A prefix of a slice that is grown. -/
theorem St.accTake {a : Option Addr} {n c e sz k : Nat} {us : List Value} (hw : St w0 M (.acc (.slice a n c) e sz n us :: Γ) w) (hk : k ≤ n) : St w0 M (.acc (.slice a k c) e sz k (us.take (k * sz)) :: Γ) w := by
  have hx := hw.all _ (List.mem_cons_self ..)
  have hob : (Value.slice a k c).ownBlock = (Value.slice a n c).ownBlock := by cases a <;> rfl
  refine ⟨hw.os, hw.tape, hw.output, hw.size, hw.mem, fun y hy0 => ?_, by have := hw.nodup; simp only [List.filterMap_cons, As.blk] at this ⊢; rw [hob]; exact this⟩
  rcases List.mem_cons.1 hy0 with rfl | hy
  · obtain ⟨⟨hl, hh⟩, hM⟩ := hx
    refine ⟨⟨?_, ?_⟩, fun b hb => hM b (by rw [← hob]; exact hb)⟩
    · rw [List.length_take, hl]
      exact Nat.min_eq_left (Nat.mul_le_mul_right _ hk)
    · rcases hh with ⟨e1, e2⟩ | ⟨b, cap, cur, e1, g, hb, hnc, hcm, hcs, htk⟩
      · simp only [Value.slice.injEq] at e1
        obtain ⟨rfl, rfl, rfl⟩ := e1
        obtain rfl : k = 0 := by omega
        exact .inl ⟨rfl, rfl⟩
      · simp only [Value.slice.injEq] at e1
        obtain ⟨rfl, _, rfl⟩ := e1
        refine .inr ⟨b, c, cur, rfl, g, hb, by omega, hcm, hcs, ?_⟩
        rw [← htk, List.take_take, Nat.min_eq_left (Nat.mul_le_mul_right _ hk)]
  · exact hw.all y (List.mem_cons_of_mem _ hy)
theorem cut0 (a : Option Addr) (h m sz : Nat) : cutV a 0 h m sz = .slice a h m := by
  unfold cutV
  rw [Nat.zero_mul, Nat.sub_zero, Nat.sub_zero]
  cases a with
  | none => split <;> rfl
  | some x => split <;> simp [Addr.add]
theorem St.setAcc {a : Option Addr} {n c e sz q : Nat} {us : List Value} {v : Value} (hw : St w0 M (.acc (.slice a n c) e sz n us :: Γ) w) (hq : q < us.length) :
    St w0 M (.acc (.slice a n c) e sz n (us.set q v) :: Γ) (w.setCell (adr a q) v) ∧ (w.cell? (adr a q)).isSome = true ∧ w.frozen? (adr a q) = false := by
  have hx := hw.all _ (List.mem_cons_self ..)
  obtain ⟨⟨hl, hh⟩, hM⟩ := hx
  rcases hh with ⟨e1, e2⟩ | ⟨b, cap, cur, e1, g, hb, hnc, hcm, hcs, htk⟩
  · simp only [Value.slice.injEq] at e1
    obtain ⟨rfl, rfl, rfl⟩ := e1
    simp at hl; subst hl; simp at hq
  · simp only [Value.slice.injEq] at e1
    obtain ⟨rfl, _, rfl⟩ := e1
    have hlt : b < w.heap.size := (Array.getElem?_eq_some_iff.1 hb).1
    have hbe : w.heap[b] = .cells cur e (0, 0) := (Array.getElem?_eq_some_iff.1 hb).2
    have hqc : q < cur.size := by
      have : n * sz ≤ c * sz := Nat.mul_le_mul_right _ hnc
      omega
    have hset : w.setCell (adr (some ⟨b, 0, none⟩) q) v = { w with heap := w.heap.setIfInBounds b (.cells (cur.setIfInBounds q v) e (0, 0)) } := by
      rw [adr_some]
      simp only [World.setCell]
      congr 1
      apply Array.ext
      · simp
      · intro i h1 h2
        by_cases hi : b = i
        · subst hi
          simp [Array.getElem_modify, hbe]
        · rw [Array.getElem_modify, if_neg hi, Array.getElem_setIfInBounds_ne (by simpa using h1) hi]
    refine ⟨?_, by rw [adr_some]; simp [World.cell?, hb, hqc], by rw [adr_some]; simp [World.frozen?, hb]⟩
    rw [hset]
    have hne : ∀ k, k ≠ b → (w.heap.setIfInBounds b (.cells (cur.setIfInBounds q v) e (0, 0)))[k]? = w.heap[k]? := fun k hk => Array.getElem?_setIfInBounds_ne (by omega)
    have hnd := hw.nodup
    simp only [List.filterMap_cons, As.blk, Value.ownBlock] at hnd
    refine ⟨hw.os, hw.tape, hw.output, by simp; exact hw.size, fun k o hk => ?_, fun y hy0 => ?_, by simpa [List.filterMap_cons, As.blk, Value.ownBlock] using hw.nodup⟩
    · rw [hne k (fun e' => by subst e'; rw [hM _ rfl] at hk; cases hk)]; exact hw.mem k o hk
    · rcases List.mem_cons.1 hy0 with rfl | hy
      · refine ⟨⟨by simpa using hl, .inr ⟨b, c, cur.setIfInBounds q v, rfl, g, by simp [hlt], hnc, hcm, by simpa using hcs, ?_⟩⟩, hM⟩
        rw [Array.toList_setIfInBounds, List.take_set, htk]
      · have hy' := hw.all y (List.mem_cons_of_mem _ hy)
        refine As.ok_keep hy' (Sub.refl M) fun k hk => ⟨hne k fun e' => ?_, (As.ok_blk_lt hy' hk).2⟩
        subst e'
        exact (List.nodup_cons.1 hnd).1 (mem_blk hy hk)
end

section
variable {P : Program} {n : Nat} {w0 : World} {ops : Array Oper} {rest : List Oper} {L : Lm} {M : Mem} {Γ : List As} {K : Lm → Mem → List As → Prop} {ty : TypeId} {pos : String} {af : Array Edge} {d : Nat}
theorem RL.perm {Γ' : List As} (hp : List.Perm Γ Γ') (h : RL P n w0 ops rest L M Γ' K) : RL P n w0 ops rest L M Γ K :=
  h.pre (fun _ _ h => h) fun _ hw => hw.perm hp
theorem CW.perm {c : Code} {X : Pst} {Γ' : List As} (hp : List.Perm Γ Γ') (h : CW P n w0 c X L M Γ') : CW P n w0 c X L M Γ := h.pre (Keep.refl L) fun _ hw => hw.perm hp
theorem RL.accTake {a : Option Addr} {m c e sz k : Nat} {us : List Value} (hk : k ≤ m) (h : RL P n w0 ops rest L M (.acc (.slice a k c) e sz k (us.take (k * sz)) :: Γ) K) : RL P n w0 ops rest L M (.acc (.slice a m c) e sz m us :: Γ) K :=
  h.pre (fun _ _ h => h) fun _ hw => hw.accTake hk
/-- A cell of a slice that is grown, at the list's head. -/
theorem RL.storeAcc {t : TypeId} {x y : Operand} {a : Option Addr} {m c e sz q : Nat} {us : List Value} {v : Value} (us' : List Value) (hx : evL L x = some (.pointer (some (adr a q)))) (hy : evL L y = some v)
    (hs : us.set q v = us') (hq : q < us.length) (h1 : v.oneCell' = true) (ht : sizeB P t 1 = true)
    (h : RL P n w0 ops rest L M (.acc (.slice a m c) e sz m us' :: Γ) K) : RL P n w0 ops (⟨none, .store t x y, ty, pos, af, none⟩ :: rest) L M (.acc (.slice a m c) e sz m us :: Γ) K := by
  refine RL.s (Γ' := .acc (.slice a m c) e sz m us' :: Γ) (fun n a' w ha hw => ?_) h
  subst hs
  obtain ⟨k1, k2, k3⟩ := hw.setAcc (q := q) (v := v) hq
  refine ⟨_, ?_, k1⟩
  have hcells : v.cells = #[v] := by cases v <;> first | rfl | simp [Value.oneCell'] at h1
  have h2 : (adr a q).add 0 = adr a q := by rw [adr_add]; rfl
  have h3 : (Go.store (adr a q) v).run P w = .ok () (w.setCell (adr a q) v) := by
    rw [run_store P w _ v _ h1]
    cases hc : w.cell? (adr a q) with
    | none => rw [hc] at k2; cases k2
    | some z => simp [k3]
  simp [execOp, ha.ev hx, ha.ev hy, Instr.storeAt, Instr.sureAddr, storeVar, hcells, run_sizeB ht, storeCells, h2, h3]
end

/-- What is there may from now on be read as a table. -/
def SealT (w0 : World) (M : Mem) (Γ : List As) (xs : List (List Int)) (u : Value) (B : List As) : Prop := ∀ w, St w0 M Γ w → ∃ M', Sub M M' ∧ Rd M' (dtab xs) u ∧ St w0 M' B w
theorem Lent.rowA {w0 : World} {M M' : Mem} {Γs Γ : List As} (h : Lent w0 M Γs Γ M') : ∀ (l : List (RowT)), (∀ p ∈ l, Xe.rowA p ∈ Γs) → (∀ p ∈ l, p.2.length ≤ lim) → RdL M' ((l.map (·.2)).map dints) (l.map rowvA)
  | [], _, _ => RdL.nil _
  | p :: l, h1, h2 => by
    refine RdL.cons ?_ (Lent.rowA h l (fun q hq => h1 q (List.mem_cons_of_mem _ hq)) fun q hq => h2 q (List.mem_cons_of_mem _ hq))
    exact h.acc (h1 p (List.mem_cons_self ..)) (ints_rd p.2) (h2 p (List.mem_cons_self ..))
theorem sealT_mk {w0 : World} {M : Mem} {Γ R B : List As} {u : Value} {n : Nat} {l : List (RowT)} (hp : List.Perm Γ ((.acc u 22 1 n (l.map rowvA) :: matA l) ++ R)) (h1 : ∀ p ∈ l, p.2.length ≤ lim) (h2 : l.length ≤ lim) (hn : n = l.length) (hs : List.Sublist B R) :
    SealT w0 M Γ (l.map (·.2)) u B := fun w hw => by
  obtain ⟨M', k1, k2⟩ := St.lend _ (fun x hx => by
    rcases List.mem_cons.1 hx with rfl | hx
    · trivial
    · exact matA_owns l x hx) (hw.perm hp)
  subst hn
  refine ⟨M', k1.sub, ?_, k2.sub hs⟩
  have hr := k1.rowA l (fun p hp => List.mem_cons_of_mem _ (matA_in hp)) h1
  have := k1.acc (List.mem_cons_self ..) hr h2
  unfold dtab
  rwa [List.length_map]
theorem CW.sealT {P : Program} {n : Nat} {w0 : World} {c : Code} {X : Pst} {L : Lm} {M : Mem} {Γ B : List As} {xs : List (List Int)} {u : Value} (h : SealT w0 M Γ xs u B) (k : ∀ M', Sub M M' → Rd M' (dtab xs) u → CW P n w0 c X L M' B) : CW P n w0 c X L M Γ := by
  refine CW.turn (F := fun M' Γ' => Sub M M' ∧ Rd M' (dtab xs) u ∧ Γ' = B) (fun w hw => ?_) ?_
  · obtain ⟨M', k1, k2, k3⟩ := h w hw
    exact ⟨M', B, ⟨k1, k2, rfl⟩, k3⟩
  · rintro M' _ ⟨k1, k2, rfl⟩
    exact k M' k1 k2
theorem CW.matAPush {P : Program} {n : Nat} {w0 : World} {c : Code} {X : Pst} {L : Lm} {M : Mem} {R : List As} (pre : List As) {l : List (RowT)} (p : RowT) (h : CW P n w0 c X L M (pre ++ (matA (l ++ [p]) ++ R))) : CW P n w0 c X L M (rowA p :: (pre ++ (matA l ++ R))) :=
  h.pre (Keep.refl L) fun _ hw => hw.perm (by
    rw [matA_snoc]
    refine List.Perm.trans (List.perm_middle (l₁ := pre)).symm ?_
    refine List.Perm.append_left pre ?_
    simpa using (List.perm_middle (l₁ := matA l)).symm)
theorem take_rows {l : List (RowT)} (k : Nat) : List.Perm (matA l) (matA (l.take k) ++ matA (l.drop k)) := by
  have : matA l = matA (l.take k ++ l.drop k) := by rw [List.take_append_drop]
  rw [this, matA, List.map_append]
  exact List.Perm.refl _
theorem sealT_set {w0 : World} {M : Mem} {R B : List As} {u : Value} {n k : Nat} {l : List RowT} {p : RowT} (p' : RowT) {us : List Value} (h : l[k]? = some p) (hus : us = (l.set k p').map rowvA) (h1 : ∀ q ∈ l, q.2.length ≤ lim) (hp' : p'.2.length ≤ lim) (h2 : l.length ≤ lim) (hn : n = l.length) (hs : List.Sublist B R) :
    SealT w0 M (rowA p' :: .acc u 22 1 n us :: (matA (l.eraseIdx k) ++ R)) ((l.set k p').map (·.2)) u B := by
  subst hus
  refine sealT_mk (l := l.set k p') (R := R) (n := n) ?_ (fun q hq => ?_) (by rw [List.length_set]; exact h2) (by rw [List.length_set]; exact hn) hs
  · refine (List.Perm.swap _ _ _).trans ?_
    exact List.Perm.cons _ (((matA_perm h p').2.append_right R).symm)
  · rcases List.mem_or_eq_of_mem_set hq with hq | rfl
    · exact h1 q hq
    · exact hp'
theorem sealT_take {w0 : World} {M : Mem} {R B : List As} {a : Option Addr} {c n k : Nat} {l : List RowT} (hk : k ≤ n) (h1 : ∀ q ∈ l, q.2.length ≤ lim) (h2 : l.length ≤ lim) (hn : n = l.length) (hs : List.Sublist B R) :
    SealT w0 M (.acc (.slice a n c) 22 1 n (l.map rowvA) :: (matA l ++ R)) ((l.take k).map (·.2)) (.slice a k c) B := fun w hw => by
  have h3 := hw.accTake (k := k) hk
  rw [Nat.mul_one, ← List.map_take] at h3
  have h4 := h3.perm (List.Perm.cons _ (((take_rows (l := l) k).append_right R)))
  have hlen : (l.take k).length = k := by rw [List.length_take]; omega
  refine sealT_mk (l := l.take k) (R := matA (l.drop k) ++ R) (u := .slice a k c) (n := k) (B := B) (M := M) (w0 := w0) (List.Perm.refl _) (fun q hq => h1 q (List.mem_of_mem_take hq)) (by rw [hlen]; omega) hlen.symm (hs.trans (List.sublist_append_right _ _)) w ?_
  simpa using h4
theorem rowvA_set {l : List RowT} {k : Nat} {p p' : RowT} (h : l[k]? = some p) (he : rowvA p' = rowvA p) : (l.set k p').map rowvA = l.map rowvA := by
  have hlt := (List.getElem?_eq_some_iff.1 h).1
  rw [List.map_set, he]
  apply List.ext_getElem?
  intro j
  rw [List.getElem?_set]
  by_cases e : k = j
  · subst e
    rw [if_pos rfl, if_pos (by simpa using hlt), List.getElem?_map, h]; rfl
  · rw [if_neg e]
theorem acc_le {w0 w : World} {M : Mem} {Γ : List As} {a : Option Addr} {n c e sz : Nat} {us : List Value} (hw : St w0 M Γ w) (hm : As.acc (.slice a n c) e sz n us ∈ Γ) : n ≤ c ∧ (0 < n * sz → a.isSome = true) := by
  obtain ⟨⟨hl, hh⟩, _⟩ := hw.all _ hm
  rcases hh with ⟨e1, e2⟩ | ⟨b, cap, cur, e1, g, hb, hnc, _⟩
  · simp only [Value.slice.injEq] at e1
    obtain ⟨rfl, rfl, rfl⟩ := e1
    exact ⟨Nat.le_refl _, fun h => by simp at h⟩
  · simp only [Value.slice.injEq] at e1
    obtain ⟨rfl, _, rfl⟩ := e1
    exact ⟨hnc, fun _ => rfl⟩
theorem sealT_pre {w0 : World} {M : Mem} {Γ Γ' B : List As} {xs : List (List Int)} {u : Value} (h : ∀ w, St w0 M Γ w → St w0 M Γ' w) (k : SealT w0 M Γ' xs u B) : SealT w0 M Γ xs u B := fun w hw => k w (h w hw)
theorem sealT_eq {w0 : World} {M : Mem} {Γ B : List As} {xs xs' : List (List Int)} {u : Value} (h : xs' = xs) (k : SealT w0 M Γ xs' u B) : SealT w0 M Γ xs u B := h ▸ k
theorem Y.slice0 {P : Program} {w0 : World} {L : Lm} {M : Mem} {Γ : List As} {d : Option Nat} {ty : TypeId} {pos : String} {af : Array Edge} {g : Option (Nat × Bool)} {x : Operand} {hi mx : Option Operand} {t e sz : Nat} {a : Option Addr} {n c : Nat} (h m : Nat)
    (hx : evL L x = some (.slice a n c)) (hhi : OptIs L hi n h) (hmx : OptIs L mx c m) (hb : hi.isSome = true ∨ mx.isSome = false) (h2 : h ≤ m) (h3 : m ≤ c) (ht : sliceB P t e sz = true) :
    Yq P w0 L M Γ ⟨d, .slice t x none hi mx, ty, pos, af, g⟩ (.slice a h m) := by
  have := Y.slice (P := P) (w0 := w0) (M := M) (Γ := Γ) (d := d) (ty := ty) (pos := pos) (af := af) (g := g) (lo := none) 0 h m hx rfl hhi hmx hb (Nat.zero_le _) h2 h3 ht
  rwa [cut0] at this
end Xe
