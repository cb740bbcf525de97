/-
  THE ENGINE, PART W: a struct stored into an element of a slice that is being grown; readings split. No program in sight.
-/
import Derived.Test.YtfgkhhfkodlbpaaXeV
namespace Xe
open Go
theorem run_storeCells_acc {P : Program} {w0 : World} {M : Mem} {Γ : List As} {a : Option Addr} {n c e sz q : Nat} : ∀ (vs : List Value) (i : Nat) (w : World) (us : List Value), St w0 M (.acc (.slice a n c) e sz n us :: Γ) w → q + i + vs.length ≤ us.length → (∀ v ∈ vs, v.oneCell' = true) →
    ∃ w', (storeCells (adr a q) vs i).run P w = .ok () w' ∧ St w0 M (.acc (.slice a n c) e sz n (us.take (q + i) ++ vs ++ us.drop (q + i + vs.length)) :: Γ) w'
  | [], i, w, us, hw, _, _ => ⟨w, by simp [storeCells], by simpa using hw⟩
  | v :: vs, i, w, us, hw, hl, h1 => by
    simp only [List.length_cons] at hl
    obtain ⟨k1, k2, k3⟩ := hw.setAcc (q := q + i) (v := v) (by omega)
    obtain ⟨w', r1, r2⟩ := run_storeCells_acc (q := q) vs (i + 1) _ _ k1 (by simp; omega) (fun x hx => h1 x (List.mem_cons_of_mem _ hx))
    have h3 : (Go.store ((adr a q).add i) v).run P w = .ok () (w.setCell (adr a (q + i)) v) := by
      rw [adr_add, run_store P w _ v _ (h1 v (List.mem_cons_self ..))]
      cases hc : w.cell? (adr a (q + i)) with
      | none => rw [hc] at k2; cases k2
      | some z => simp [k3]
    refine ⟨w', by simp [storeCells, h3]; exact r1, ?_⟩
    have he : (us.set (q + i) v).take (q + (i + 1)) ++ vs ++ (us.set (q + i) v).drop (q + (i + 1) + vs.length) = us.take (q + i) ++ v :: vs ++ us.drop (q + i + (v :: vs).length) := by
      have hk : q + i < us.length := by omega
      have e1 : (us.set (q + i) v).take (q + (i + 1)) = us.take (q + i) ++ [v] := by
        rw [← Nat.add_assoc, List.take_succ_eq_append_getElem (by simpa using hk), List.take_set, List.set_eq_of_length_le (by rw [List.length_take]; omega), List.getElem_set_self]
      have e2 : (us.set (q + i) v).drop (q + (i + 1) + vs.length) = us.drop (q + i + (v :: vs).length) := by
        rw [List.drop_set, if_pos (by omega)]
        congr 1
        simp only [List.length_cons]; omega
      rw [e1, e2]
      simp
    rw [he] at r2
    exact r2
theorem RL_storeAggAcc {P : Program} {n : Nat} {w0 : World} {ops : Array Oper} {rest : List Oper} {L : Lm} {M : Mem} {Γ : List As} {K : Lm → Mem → List As → Prop} {ty : TypeId} {pos : String} {af : Array Edge} {t : TypeId} {x y : Operand} {a : Option Addr} {m c e sz q : Nat} {us vs : List Value} (us' : List Value) (hx : evL L x = some (.pointer (some (adr a q)))) (hy : evL L y = some (.agg vs.toArray))
    (hs : us.take q ++ vs ++ us.drop (q + vs.length) = us') (hq : q + vs.length ≤ us.length) (h1 : ∀ v ∈ vs, v.oneCell' = true) (ht : sizeB P t vs.length = true)
    (h : RL P n w0 ops rest L M (.acc (.slice a m c) e sz m us' :: Γ) K) : RL P n w0 ops (⟨none, .store t x y, ty, pos, af, none⟩ :: rest) L M (.acc (.slice a m c) e sz m us :: Γ) K := by
  refine RL.s (Γ' := .acc (.slice a m c) e sz m us' :: Γ) (fun n a' w ha hw => ?_) h
  subst hs
  obtain ⟨w', r1, r2⟩ := run_storeCells_acc (P := P) vs 0 w us hw (by simpa using hq) h1
  refine ⟨w', ?_, by simpa using r2⟩
  simp [execOp, ha.ev hx, ha.ev hy, Instr.storeAt, Instr.sureAddr, storeVar, Value.cells, run_sizeB ht, r1]
theorem RL.front {P : Program} {n : Nat} {w0 : World} {ops : Array Oper} {rest : List Oper} {L : Lm} {M : Mem} {Γ R : List As} {K : Lm → Mem → List As → Prop} {x : As} (hp : Pick x Γ R) (h : RL P n w0 ops rest L M (x :: R) K) : RL P n w0 ops rest L M Γ K := RL.perm hp.perm h
theorem RdL.split {M : Mem} {ds es : List D} {us : List Value} (h : RdL M (ds ++ es) us) : RdL M ds (us.take ds.length) ∧ RdL M es (us.drop ds.length) := by
  have hl := h.1
  rw [List.length_append] at hl
  have h1 := h.cut 0 ds.length
  have h2 := h.cut ds.length es.length
  rw [List.drop_zero, List.drop_zero, List.take_left] at h1
  rw [List.drop_left, List.take_length, List.take_of_length_le (by rw [List.length_drop]; omega)] at h2
  exact ⟨h1, h2⟩
theorem partGet {us uk : List Value} {q n : Nat} (h : uk = (us.drop q).take n) {j : Nat} {v : Value} (hj : uk[j]? = some v) : us[q + j]? = some v := by
  rw [h] at hj
  have hjn : j < n := by
    rcases Nat.lt_or_ge j n with h | h
    · exact h
    · rw [List.getElem?_eq_none (by simp; omega)] at hj; cases hj
  rwa [List.getElem?_take_of_lt hjn, List.getElem?_drop] at hj
theorem flatLen {α : Type} {enc : α → List D} {sz : Nat} (he : ∀ x, (enc x).length = sz) : ∀ l : List α, (l.flatMap enc).length = l.length * sz
  | [] => by simp
  | x :: xs => by rw [List.flatMap_cons, List.length_append, he, flatLen he xs, List.length_cons, Nat.succ_mul, Nat.add_comm]
/-- One element put in the place of another. -/
theorem splice_rd {M : Mem} {α : Type} {enc : α → List D} {sz : Nat} (he : ∀ x, (enc x).length = sz) {l : List α} {us xs : List Value} {k : Nat} (h : RdL M (l.flatMap enc) us) (hk : k < l.length) {x : α} (hx : RdL M (enc x) xs) :
    RdL M ((l.take k ++ ([x] ++ l.drop (k + 1))).flatMap enc) (us.take (k * sz) ++ (xs ++ us.drop (k * sz + sz))) := by
  have hl : l = l.take k ++ (l[k] :: l.drop (k + 1)) := by rw [← List.drop_eq_getElem_cons hk, List.take_append_drop]
  rw [hl, List.flatMap_append] at h
  obtain ⟨h1, h2⟩ := h.split
  rw [flatLen he, List.length_take, Nat.min_eq_left (by omega)] at h1 h2
  rw [List.flatMap_cons] at h2
  obtain ⟨_, h3⟩ := h2.split
  rw [he, List.drop_drop] at h3
  rw [List.flatMap_append, List.flatMap_append]
  refine h1.append (RdL.append ?_ h3)
  simpa using hx
/-- A slice without its first elements. -/
theorem Rd.dropN {M : Mem} {α : Type} {enc : α → List D} {sz : Nat} (he : ∀ x, (enc x).length = sz) {l : List α} {a : Option Addr} {c : Nat} (h : Rd M (.sl l.length sz (l.flatMap enc)) (.slice a l.length c)) (k : Nat) (hk : k ≤ l.length) :
    Rd M (.sl (l.drop k).length sz ((l.drop k).flatMap enc)) (cutV a k l.length c sz) := by
  have hc : l.length ≤ c := by obtain ⟨a', c', h1, h2, _⟩ := h.slice; simp only [Value.slice.injEq] at h1; omega
  have := Rd.cut h k l.length c hk hc (Nat.le_refl _) (Nat.le_refl _)
  rw [List.length_drop]
  have e : ((l.flatMap enc).drop (k * sz)).take ((l.length - k) * sz) = (l.drop k).flatMap enc := by
    have hl : l.flatMap enc = (l.take k).flatMap enc ++ (l.drop k).flatMap enc := by rw [← List.flatMap_append, List.take_append_drop]
    have hn : k * sz = ((l.take k).flatMap enc).length := by rw [flatLen he, List.length_take, Nat.min_eq_left hk]
    rw [hl, hn, List.drop_left, List.take_of_length_le (by rw [flatLen he, List.length_drop]; omega)]
  rwa [e] at this
end Xe
