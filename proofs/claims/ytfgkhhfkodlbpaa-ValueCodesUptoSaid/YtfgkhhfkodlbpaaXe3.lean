/- THE ENGINE, parts LMNOP. No program in sight. -/
import Derived.Test.YtfgkhhfkodlbpaaXe2
import Derived.Test.YtfgkhhfkodlbpaaPure
import Derived.ProofKit
import Derived.SizedLaws
import Derived.Below
import Derived.Recover
/-
  THE ENGINE, PART L: tables of numbers whose rows are written: read by calls, sealed, grown. No program in sight.
-/
namespace Xe
open Go

theorem CallOk.mono {P : Program} {w0 : World} {M : Mem} {Γ : List As} {f : FuncId} {args : Array Value} {R R' : Post} (h : CallOk P w0 M Γ f args R) (hr : ∀ v M' Γ', R v M' Γ' → R' v M' Γ') : CallOk P w0 M Γ f args R' :=
  fun w hw => (h w hw).mono fun _ _ ⟨v, M', Γ', h1, h2, h3⟩ => ⟨v, M', Γ', h1, hr _ _ _ h2, h3⟩
theorem mat_owns (l : List (Nat × List Int)) : ∀ x ∈ mat l, x.owns := fun x hx => by
  obtain ⟨p, _, rfl⟩ := List.mem_map.1 hx
  trivial
theorem mat_snoc (l : List (Nat × List Int)) (p : Nat × List Int) : mat (l ++ [p]) = mat l ++ [.own p.1 3 (ints p.2)] := by simp [mat]
theorem mat_in {l : List (Nat × List Int)} {p : Nat × List Int} (h : p ∈ l) : As.own p.1 3 (ints p.2) ∈ mat l := List.mem_map.2 ⟨p, h, rfl⟩
abbrev rows (l : List (Nat × List Int)) : List (List Int) := l.map (·.2)

theorem dints_eq (r : List Int) : dints r = .sl r.length 1 (r.map fun n => .v (.int .i64 n)) := rfl
theorem Lent.rowL {w0 : World} {M M' : Mem} {Γs Γ : List As} (h : Lent w0 M Γs Γ M') : ∀ (l : List (Nat × List Int)), (∀ p ∈ l, As.own p.1 3 (ints p.2) ∈ Γs) → (∀ p ∈ l, p.2.length ≤ lim) → RdL M' ((rows l).map dints) (l.map rowv)
  | [], _, _ => RdL.nil _
  | p :: l, h1, h2 => by
    refine RdL.cons ?_ (Lent.rowL h l (fun q hq => h1 q (List.mem_cons_of_mem _ hq)) fun q hq => h2 q (List.mem_cons_of_mem _ hq))
    exact h.own (h1 p (List.mem_cons_self ..)) (ints_rd p.2) (by simp) (h2 p (List.mem_cons_self ..))
/-- A lent table reads as its numbers. -/
theorem Lent.tab {w0 : World} {M M' : Mem} {Γ : List As} {bO : Nat} {l : List (Nat × List Int)} (h : Lent w0 M (.own bO 22 (l.map rowv) :: mat l) Γ M') (h1 : ∀ p ∈ l, p.2.length ≤ lim) (h2 : l.length ≤ lim) :
    Rd M' (dtab (rows l)) (.slice (some ⟨bO, 0, none⟩) l.length l.length) := by
  have hr := h.rowL l (fun p hp => List.mem_cons_of_mem _ (mat_in hp)) h1
  have := h.own (n := l.length) (sz := 1) (List.mem_cons_self ..) hr (by simp) h2
  unfold dtab
  rwa [List.length_map]
theorem Lent.tabAcc {w0 : World} {M M' : Mem} {Γ : List As} {u : Value} {n : Nat} {l : List (Nat × List Int)} (h : Lent w0 M (.acc u 22 1 n (l.map rowv) :: mat l) Γ M') (h1 : ∀ p ∈ l, p.2.length ≤ lim) (h2 : l.length ≤ lim) (hn : n = l.length) :
    Rd M' (dtab (rows l)) u := by
  subst hn
  have hr := h.rowL l (fun p hp => List.mem_cons_of_mem _ (mat_in hp)) h1
  have := h.acc (List.mem_cons_self ..) hr h2
  unfold dtab
  rwa [List.length_map]

section
variable {P : Program} {n : Nat} {w0 : World} {X : Pst} {L : Lm} {M : Mem} {Γ : List As} {c : Code}
/-- The table is from now on only read. -/
theorem CW.sealTab {R : List As} {bO : Nat} {l : List (Nat × List Int)} (hp : List.Perm Γ ((.own bO 22 (l.map rowv) :: mat l) ++ R)) (h1 : ∀ p ∈ l, p.2.length ≤ lim) (h2 : l.length ≤ lim)
    (h : ∀ M', Sub M M' → Rd M' (dtab (rows l)) (.slice (some ⟨bO, 0, none⟩) l.length l.length) → CW P n w0 c X L M' R) : CW P n w0 c X L M Γ := by
  refine CW.turn (F := fun M' Γ' => Sub M M' ∧ Rd M' (dtab (rows l)) (.slice (some ⟨bO, 0, none⟩) l.length l.length) ∧ Γ' = R) (fun _ hw => ?_) ?_
  · obtain ⟨M', k1, k2⟩ := St.lend _ (fun x hx => by
      rcases List.mem_cons.1 hx with rfl | hx
      · trivial
      · exact mat_owns l x hx) (hw.perm hp)
    exact ⟨M', R, ⟨k1.sub, k1.tab h1 h2, rfl⟩, k2⟩
  · rintro M' _ ⟨k1, k2, rfl⟩
    exact h M' k1 k2
theorem Turn.sealTabAcc {R : List As} {u : Value} {k : Nat} {l : List (Nat × List Int)} {F : Mem → List As → Prop} (hp : List.Perm Γ ((.acc u 22 1 k (l.map rowv) :: mat l) ++ R)) (h1 : ∀ p ∈ l, p.2.length ≤ lim) (h2 : l.length ≤ lim) (hk : k = l.length)
    {Γ' : List As} (hs : List.Sublist Γ' R) (h : ∀ M', Sub M M' → Rd M' (dtab (rows l)) u → F M' Γ') : Turn w0 M Γ F := fun w hw => by
  obtain ⟨M', k1, k2⟩ := St.lend _ (fun x hx => by
      rcases List.mem_cons.1 hx with rfl | hx
      · trivial
      · exact mat_owns l x hx) (hw.perm hp)
  exact ⟨M', Γ', h M' k1.sub (k1.tabAcc h1 h2 hk), k2.sub hs⟩
/-- A row more. -/
theorem CW.matPush {R : List As} (pre : List As) {l : List (Nat × List Int)} (p : Nat × List Int) (h : CW P n w0 c X L M (pre ++ (mat (l ++ [p]) ++ R))) : CW P n w0 c X L M (.own p.1 3 (ints p.2) :: (pre ++ (mat l ++ R))) :=
  h.pre (Keep.refl L) fun _ hw => hw.perm (by
    rw [mat_snoc]
    refine List.Perm.trans (List.perm_middle (l₁ := pre)).symm ?_
    refine List.Perm.append_left pre ?_
    simpa using (List.perm_middle (l₁ := mat l)).symm)
end
theorem tab_perm {x : As} {l : List (Nat × List Int)} (R : List As) : List.Perm (x :: (mat l ++ R)) ((x :: mat l) ++ R) := List.Perm.refl _
theorem sub_head {x : As} {Γ : List As} : List.Sublist [x] (x :: Γ) := List.Sublist.cons_cons x (List.nil_sublist _)
theorem rows_set {l : List (Nat × List Int)} {i : Nat} {b : Nat} {r : List Int} (_h : l[i]? = some (b, r)) (r' : List Int) : rows (l.set i (b, r')) = (rows l).set i r' := by simp [rows, List.map_set]
theorem rowv_set {l : List (Nat × List Int)} {i : Nat} {b : Nat} {r : List Int} (h : l[i]? = some (b, r)) {r' : List Int} (hl : r'.length = r.length) : (l.set i (b, r')).map rowv = l.map rowv := by
  rw [List.map_set]
  apply List.ext_getElem?
  intro k
  rw [List.getElem?_set]
  split
  · rename_i e
    subst e
    split
    · simp [h, rowv, hl]
    · rename_i hlt
      simp at hlt
      simp [hlt]
  · rfl
theorem rows_get {l : List (Nat × List Int)} {i : Nat} {b : Nat} {r : List Int} (h : l[i]? = some (b, r)) : (rows l)[i]? = some r := by simp [rows, h]
theorem rows_ex {l : List (Nat × List Int)} {i : Nat} (h : i < l.length) : ∃ b r, l[i]? = some (b, r) := ⟨l[i].1, l[i].2, by simp [h]⟩
section
variable {P : Program} {n : Nat} {w0 : World} {ops : Array Oper} {Mc : Mem} {Γc : List As} {fuel : Nat} {listed : Array Bool} {L : Lm} {M : Mem} {Γ : List As} {K : Lm → Mem → List As → Prop}
theorem HL.step3 (i j k : Nat) {oi oj ok : Oper} (hi : ops[i]? = some oi) (hj : ops[j]? = some oj) (hk : ops[k]? = some ok) (hr : Region.ready .any ops listed = [i, j, k])
    (gi : RL P n w0 ops [oi] L M Γ (fun L' M' Γ' => ((∃ w, St w0 Mc Γc w) → ∀ w, St w0 M' Γ' w → St w0 Mc Γc w) ∧ HL P n w0 ops Mc Γc fuel (listed.setIfInBounds i true) L' M' Γ' K))
    (gj : RL P n w0 ops [oj] L M Γ (fun L' M' Γ' => ((∃ w, St w0 Mc Γc w) → ∀ w, St w0 M' Γ' w → St w0 Mc Γc w) ∧ HL P n w0 ops Mc Γc fuel (listed.setIfInBounds j true) L' M' Γ' K))
    (gk : RL P n w0 ops [ok] L M Γ (fun L' M' Γ' => ((∃ w, St w0 Mc Γc w) → ∀ w, St w0 M' Γ' w → St w0 Mc Γc w) ∧ HL P n w0 ops Mc Γc fuel (listed.setIfInBounds k true) L' M' Γ' K)) : HL P n w0 ops Mc Γc (fuel + 1) listed L M Γ K := by
  intro hex R hR a w ha hw hc
  refine wpAnyH_all hr (by simp) fun x hx => ?_
  simp only [List.mem_cons, List.not_mem_nil, or_false] at hx
  rcases hx with rfl | rfl | rfl
  · exact wpOp_of_RL hi gi (fun L' M' Γ' hK a' w' ha' hw' => ⟨hK.1 hex w' hw', hK.2 hex R hR a' w' ha' hw' (hK.1 hex w' hw')⟩) ha hw
  · exact wpOp_of_RL hj gj (fun L' M' Γ' hK a' w' ha' hw' => ⟨hK.1 hex w' hw', hK.2 hex R hR a' w' ha' hw' (hK.1 hex w' hw')⟩) ha hw
  · exact wpOp_of_RL hk gk (fun L' M' Γ' hK a' w' ha' hw' => ⟨hK.1 hex w' hw', hK.2 hex R hR a' w' ha' hw' (hK.1 hex w' hw')⟩) ha hw
theorem HL.step4 (i j k l : Nat) {oi oj ok ol : Oper} (hi : ops[i]? = some oi) (hj : ops[j]? = some oj) (hk : ops[k]? = some ok) (hl : ops[l]? = some ol) (hr : Region.ready .any ops listed = [i, j, k, l])
    (gi : RL P n w0 ops [oi] L M Γ (fun L' M' Γ' => ((∃ w, St w0 Mc Γc w) → ∀ w, St w0 M' Γ' w → St w0 Mc Γc w) ∧ HL P n w0 ops Mc Γc fuel (listed.setIfInBounds i true) L' M' Γ' K))
    (gj : RL P n w0 ops [oj] L M Γ (fun L' M' Γ' => ((∃ w, St w0 Mc Γc w) → ∀ w, St w0 M' Γ' w → St w0 Mc Γc w) ∧ HL P n w0 ops Mc Γc fuel (listed.setIfInBounds j true) L' M' Γ' K))
    (gk : RL P n w0 ops [ok] L M Γ (fun L' M' Γ' => ((∃ w, St w0 Mc Γc w) → ∀ w, St w0 M' Γ' w → St w0 Mc Γc w) ∧ HL P n w0 ops Mc Γc fuel (listed.setIfInBounds k true) L' M' Γ' K))
    (gl : RL P n w0 ops [ol] L M Γ (fun L' M' Γ' => ((∃ w, St w0 Mc Γc w) → ∀ w, St w0 M' Γ' w → St w0 Mc Γc w) ∧ HL P n w0 ops Mc Γc fuel (listed.setIfInBounds l true) L' M' Γ' K)) : HL P n w0 ops Mc Γc (fuel + 1) listed L M Γ K := by
  intro hex R hR a w ha hw hc
  refine wpAnyH_all hr (by simp) fun x hx => ?_
  simp only [List.mem_cons, List.not_mem_nil, or_false] at hx
  rcases hx with rfl | rfl | rfl | rfl
  · exact wpOp_of_RL hi gi (fun L' M' Γ' hK a' w' ha' hw' => ⟨hK.1 hex w' hw', hK.2 hex R hR a' w' ha' hw' (hK.1 hex w' hw')⟩) ha hw
  · exact wpOp_of_RL hj gj (fun L' M' Γ' hK a' w' ha' hw' => ⟨hK.1 hex w' hw', hK.2 hex R hR a' w' ha' hw' (hK.1 hex w' hw')⟩) ha hw
  · exact wpOp_of_RL hk gk (fun L' M' Γ' hK a' w' ha' hw' => ⟨hK.1 hex w' hw', hK.2 hex R hR a' w' ha' hw' (hK.1 hex w' hw')⟩) ha hw
  · exact wpOp_of_RL hl gl (fun L' M' Γ' hK a' w' ha' hw' => ⟨hK.1 hex w' hw', hK.2 hex R hR a' w' ha' hw' (hK.1 hex w' hw')⟩) ha hw
theorem HL.step5 (i j k l m : Nat) {oi oj ok ol om : Oper} (hi : ops[i]? = some oi) (hj : ops[j]? = some oj) (hk : ops[k]? = some ok) (hl : ops[l]? = some ol) (hm : ops[m]? = some om) (hr : Region.ready .any ops listed = [i, j, k, l, m])
    (gi : RL P n w0 ops [oi] L M Γ (fun L' M' Γ' => ((∃ w, St w0 Mc Γc w) → ∀ w, St w0 M' Γ' w → St w0 Mc Γc w) ∧ HL P n w0 ops Mc Γc fuel (listed.setIfInBounds i true) L' M' Γ' K))
    (gj : RL P n w0 ops [oj] L M Γ (fun L' M' Γ' => ((∃ w, St w0 Mc Γc w) → ∀ w, St w0 M' Γ' w → St w0 Mc Γc w) ∧ HL P n w0 ops Mc Γc fuel (listed.setIfInBounds j true) L' M' Γ' K))
    (gk : RL P n w0 ops [ok] L M Γ (fun L' M' Γ' => ((∃ w, St w0 Mc Γc w) → ∀ w, St w0 M' Γ' w → St w0 Mc Γc w) ∧ HL P n w0 ops Mc Γc fuel (listed.setIfInBounds k true) L' M' Γ' K))
    (gl : RL P n w0 ops [ol] L M Γ (fun L' M' Γ' => ((∃ w, St w0 Mc Γc w) → ∀ w, St w0 M' Γ' w → St w0 Mc Γc w) ∧ HL P n w0 ops Mc Γc fuel (listed.setIfInBounds l true) L' M' Γ' K))
    (gm : RL P n w0 ops [om] L M Γ (fun L' M' Γ' => ((∃ w, St w0 Mc Γc w) → ∀ w, St w0 M' Γ' w → St w0 Mc Γc w) ∧ HL P n w0 ops Mc Γc fuel (listed.setIfInBounds m true) L' M' Γ' K)) : HL P n w0 ops Mc Γc (fuel + 1) listed L M Γ K := by
  intro hex R hR a w ha hw hc
  refine wpAnyH_all hr (by simp) fun x hx => ?_
  simp only [List.mem_cons, List.not_mem_nil, or_false] at hx
  rcases hx with rfl | rfl | rfl | rfl | rfl
  · exact wpOp_of_RL hi gi (fun L' M' Γ' hK a' w' ha' hw' => ⟨hK.1 hex w' hw', hK.2 hex R hR a' w' ha' hw' (hK.1 hex w' hw')⟩) ha hw
  · exact wpOp_of_RL hj gj (fun L' M' Γ' hK a' w' ha' hw' => ⟨hK.1 hex w' hw', hK.2 hex R hR a' w' ha' hw' (hK.1 hex w' hw')⟩) ha hw
  · exact wpOp_of_RL hk gk (fun L' M' Γ' hK a' w' ha' hw' => ⟨hK.1 hex w' hw', hK.2 hex R hR a' w' ha' hw' (hK.1 hex w' hw')⟩) ha hw
  · exact wpOp_of_RL hl gl (fun L' M' Γ' hK a' w' ha' hw' => ⟨hK.1 hex w' hw', hK.2 hex R hR a' w' ha' hw' (hK.1 hex w' hw')⟩) ha hw
  · exact wpOp_of_RL hm gm (fun L' M' Γ' hK a' w' ha' hw' => ⟨hK.1 hex w' hw', hK.2 hex R hR a' w' ha' hw' (hK.1 hex w' hw')⟩) ha hw
end
theorem Y.loadAggP {P : Program} {w0 : World} {L : Lm} {M : Mem} {Γ : List As} {d : Option Nat} {ty : TypeId} {pos : String} {af : Array Edge} {g : Option (Nat × Bool)} {x : Operand} {t : TypeId} {n sz : Nat} {cs : List D} {a : Option Addr} {l c q : Nat} (vs : List Value) (hx : evL L x = some (.pointer (some (adr a q)))) (hr : Rd M (.sl n sz cs) (.slice a l c)) (hq : (cs.drop q).take vs.length = vs.map D.v) (hf : aggB P t vs.length = true) :
    Yq P w0 L M Γ ⟨d, .load t x, ty, pos, af, g⟩ (.agg vs.toArray) := Y.loadAgg hx hf fun w hw j v hj => by
      obtain ⟨u, h1, h2⟩ := hr.cell (sub_get hq (Y.vs_get hj))
      simp only [Rd] at h2
      rw [← h2.1, adr_add]
      exact hw.cell h1
theorem RL.sealOwn {P : Program} {n : Nat} {w0 : World} {ops : Array Oper} {rest : List Oper} {L : Lm} {M : Mem} {Γ R : List As} {K : Lm → Mem → List As → Prop} {b k : Nat} {e : TypeId} {sz : Nat} {us : List Value} {ds : List D} (hp : Pick (.own b e us) Γ R) (hr : RdL M ds us) (hl : us.length = k * sz) (hn : k ≤ lim)
    (h : ∀ M', Sub M M' → Rd M' (.sl k sz ds) (.slice (some ⟨b, 0, none⟩) k k) → RL P n w0 ops rest L M' R K) : RL P n w0 ops rest L M Γ K := by
  refine RL.turn (F := fun M' Γ' => Sub M M' ∧ Rd M' (.sl k sz ds) (.slice (some ⟨b, 0, none⟩) k k) ∧ Γ' = R) (fun _ hw => ?_) ?_
  · obtain ⟨M', h1, h2, h3⟩ := (hw.perm hp.perm).seal_own hr hl hn
    exact ⟨M', _, ⟨h1, h2, rfl⟩, h3.sub (List.sublist_cons_self _ _)⟩
  · rintro M' _ ⟨h1, h2, rfl⟩
    exact h M' h1 h2
theorem fill3 {sz : Nat} {v v' v'' : Value} {out out' out'' : List Value} (h : cellsL v = out) (hl : out.length = sz) (h' : cellsL v' = out') (hl' : out'.length = sz) (h'' : cellsL v'' = out'') (hl'' : out''.length = sz) : ∀ zs : List Value, zs.length = 3 * sz → fillL (fun i => some (i * sz, sz)) zs ([(0, v), (1, v'), (2, v'')].map fun p => (p.1, cellsL p.2)) = some (out ++ out' ++ out'') := fun zs hz => by
  have h1 : (splice zs 0 out).length = 3 * sz := by rw [splice_length (by omega), hz]
  have h2 : (splice (splice zs 0 out) sz out').length = 3 * sz := by rw [splice_length (by omega), h1]
  simp only [List.map_cons, List.map_nil, h, h', h'', fillL, hl, hl', hl'', hz, Nat.zero_mul, Nat.zero_add, Nat.one_mul]
  rw [if_pos ⟨trivial, by omega⟩, h1, if_pos ⟨trivial, by omega⟩, h2, if_pos ⟨trivial, by omega⟩]
  congr 1
  have e0 : splice zs 0 out = out ++ zs.drop sz := by simp [splice, hl]
  have e1 : splice (out ++ zs.drop sz) sz out' = out ++ out' ++ zs.drop (sz + sz) := by
    simp only [splice, hl']
    rw [List.take_append_of_le_length (by omega), List.take_of_length_le (by omega), List.drop_append, List.drop_of_length_le (by omega), hl, List.drop_drop]
    simp only [List.nil_append]
    congr 2
    omega
  rw [e0, e1]
  simp only [splice, hl'']
  have el : (out ++ out').length = 2 * sz := by simp [hl, hl']; omega
  rw [List.take_append_of_le_length (by omega), List.take_of_length_le (by omega), List.drop_of_length_le (by simp [hl, hl', hz]; omega)]
  simp
theorem tdiv_in (z : Int) (h : -9223372036854775808 ≤ z ∧ z ≤ 9223372036854775807) : -9223372036854775808 ≤ z.tdiv 16 ∧ z.tdiv 16 ≤ 9223372036854775807 := by
  by_cases h0 : 0 ≤ z
  · rw [Int.tdiv_eq_ediv_of_nonneg h0]; omega
  · have e : z.tdiv 16 = -((-z) / 16) := by
      rw [← Int.tdiv_eq_ediv_of_nonneg (by omega), Int.neg_tdiv]; omega
    rw [e]; omega
end Xe

/-
  THE ENGINE, PART M: from a law's arguments (integers, slices of integers) to the engine, and back to what the row asks. No program in sight.
-/
namespace Xe
open Go Go.ChangeShapes Go.WideShapes Go.RowKit

abbrev memOf (W : World) : Mem := fun b => W.heap[b]?
theorem st_start (W : World) : St W (memOf W) [] W := ⟨rfl, rfl, rfl, Nat.le_refl _, fun _ _ h => h, fun _ h => by simp at h, by simp⟩
theorem below_of {W w' : World} (h : St W (memOf W) [] w') : Below W.heap.size W w' :=
  ⟨h.os, h.tape, h.output, h.size, fun k hk => by
    have e : memOf W k = some W.heap[k] := Array.getElem?_eq_getElem hk
    rw [h.mem k _ e]; exact e.symm⟩
theorem cellM_memOf (W : World) (p : Addr) : cellM (memOf W) p = W.cell? p := by
  unfold cellM World.cell? memOf
  cases W.heap[p.block]? with
  | none => rfl
  | some o => cases o <;> rfl

inductive Arg where
  | ints (l : List Int)
  | num (n : Int)
inductive ArgsOk (M : Mem) (ti tn : TypeId) : List TypeId → List Arg → List Value → Prop
  | nil : ArgsOk M ti tn [] [] []
  | ints {ts : List TypeId} {as : List Arg} {vs : List Value} {l : List Int} {v : Value} : Rd M (dints l) v → (∀ x ∈ l, InI x) → ArgsOk M ti tn ts as vs → ArgsOk M ti tn (ti :: ts) (.ints l :: as) (v :: vs)
  | num {ts : List TypeId} {as : List Arg} {vs : List Value} {n : Int} : InI n → ArgsOk M ti tn ts as vs → ArgsOk M ti tn (tn :: ts) (.num n :: as) (vint n :: vs)

theorem ArgsOk.ints_inv {M : Mem} {ti tn : TypeId} {ts : List TypeId} {as : List Arg} {vs : List Value} (h : ArgsOk M ti tn (ti :: ts) as vs) (hne : ti ≠ tn := by decide) :
    ∃ l v as' vs', as = .ints l :: as' ∧ vs = v :: vs' ∧ Rd M (dints l) v ∧ (∀ x ∈ l, InI x) ∧ ArgsOk M ti tn ts as' vs' := by
  generalize e : ti :: ts = ts0 at h
  cases h with
  | nil => cases e
  | ints h1 h2 h3 => simp only [List.cons.injEq] at e; obtain ⟨_, rfl⟩ := e; exact ⟨_, _, _, _, rfl, rfl, h1, h2, h3⟩
  | num h1 h3 => simp only [List.cons.injEq] at e; exact absurd e.1 hne
theorem ArgsOk.num_inv {M : Mem} {ti tn : TypeId} {ts : List TypeId} {as : List Arg} {vs : List Value} (hne : tn ≠ ti) (h : ArgsOk M ti tn (tn :: ts) as vs) :
    ∃ n as' vs', as = .num n :: as' ∧ vs = vint n :: vs' ∧ InI n ∧ ArgsOk M ti tn ts as' vs' := by
  generalize e : tn :: ts = ts0 at h
  cases h with
  | nil => cases e
  | ints h1 h2 h3 => simp only [List.cons.injEq] at e; exact absurd e.1 hne
  | num h1 h3 => simp only [List.cons.injEq] at e; obtain ⟨_, rfl⟩ := e; exact ⟨_, _, _, rfl, rfl, h1, h3⟩
theorem ArgsOk.nil_inv {M : Mem} {ti tn : TypeId} {as : List Arg} {vs : List Value} (h : ArgsOk M ti tn [] as vs) : as = [] ∧ vs = [] := by
  cases h; exact ⟨rfl, rfl⟩
section
variable {H : Type} {enc : TypeId × Value → H} {P : Program} {W : World}

theorem inI_of {n : Int} (h : (Lit.int .i64 n).wf = true) : InI n := by
  simp only [Lit.wf, Bool.and_eq_true, decide_eq_true_eq] at h
  unfold InI
  have h1 : IntKind.i64.min = -9223372036854775808 := by decide
  have h2 : IntKind.i64.max = 9223372036854775807 := by decide
  omega

/-- An argument that reads again, where the call has turned nothing that was there. -/
def Again (enc : TypeId × Value → H) (P : Program) (W : World) (t : TypeId) (v : Value) (d : DataW H) (p : List MemPlace) : Prop :=
  ∀ (W' : World) (sp : Nat → Bool), Below W.heap.size W W' → (∀ q ∈ p, sp q.block = true) → DataW.Trod enc P W' 0 sp true t v d p

theorem open_arg_ints {t e : TypeId} {v : Value} {d : DataW H} {p : List MemPlace} (ht : P.underlying t = some (.slice e)) (he : P.underlying e = some (.int .i64)) (hc : P.cellsOf e = 1)
    (hval : Value.okWide P W .any 0 t v ∨ ∃ a n c, v = .slice a n c) (h : DataW.Trod enc P W 0 (fun _ => true) true t v d p) (hsz : ∀ elems spare, d = .slice elems spare → elems.length + spare.length ≤ lim) :
    ∃ l, Rd (memOf W) (dints l) v ∧ (∀ x ∈ l, InI x) ∧ Again enc P W t v d p := by
  obtain ⟨a0, n0, c0, rfl⟩ : ∃ a n c, v = .slice a n c := by
    rcases hval with hv | hv
    · exact okWide_slice ht hv
    · exact hv
  have h0 := h
  obtain ⟨fuel, hf⟩ := h
  rcases open_ints ht he hc hf with ⟨hcs, hx⟩ | ⟨a, len, cap, zs, hcs, hb, hl, hm, hz, hx, hcell, hw⟩
  · obtain ⟨rfl, rfl, rfl⟩ : a0 = none ∧ n0 = 0 ∧ c0 = 0 := by simpa [Value.cells] using hcs
    simp only [Prod.mk.injEq] at hx
    obtain ⟨rfl, rfl⟩ := hx
    refine ⟨[], ?_, fun x hx => by simp at hx, fun W' sp _ _ => ⟨1, ?_⟩⟩
    · simp only [dints, Rd]
      exact ⟨none, 0, rfl, Nat.le_refl _, Nat.zero_le _, Nat.zero_le _, rfl, by simp, by simp [RdC]⟩
    · simp [DataW.trod, Value.cells, ht]
  · obtain ⟨rfl, rfl, rfl⟩ : a0 = some a ∧ n0 = len ∧ c0 = cap := by simpa [Value.cells] using hcs
    simp only [Prod.mk.injEq] at hx
    obtain ⟨rfl, rfl⟩ := hx
    simp only [if_true] at hz
    have hlen : (zs.take n0).length = n0 := by simp; omega
    have hlim : n0 ≤ lim := by
      have := hsz _ _ rfl
      simp [lits] at this
      omega
    refine ⟨zs.take n0, ?_, fun x hx => inI_of (hw x (List.mem_of_mem_take hx)), fun W' sp hB hsp => ?_⟩
    · simp only [dints, Rd, hlen]
      refine ⟨some a, c0, rfl, hl, hm, hlim, by simp; omega, fun _ => rfl, RdC.mk _ 0 fun k dd hk => ?_⟩
      have hkn : k < n0 := by
        rcases Nat.lt_or_ge k n0 with h | h
        · exact h
        · rw [List.getElem?_eq_none (by simp; omega)] at hk; cases hk
      have hdd : dd = dint (zs.getD k 0) := by
        have hkz : k < zs.length := by omega
        simp only [List.getElem?_map, List.getElem?_take_of_lt hkn, List.getElem?_eq_getElem hkz, Option.map_some, Option.some.injEq] at hk
        rw [← hk, List.getD_eq_getElem?_getD, List.getElem?_eq_getElem hkz]; rfl
      subst hdd
      refine ⟨vint (zs.getD k 0), ?_, Rd.i _⟩
      rw [cellM_memOf, Nat.zero_add]
      exact hcell k (by omega)
    · have hlt : zs ≠ [] → a.block < W.heap.size := fun hne => by
        have hp : 0 < zs.length := List.length_pos_iff.2 hne
        have := World.block_lt_of_cell? _ _ (hcell 0 hp)
        simpa [Addr.add] using this
      have hz2 : zs.length = (if sp a.block then c0 else n0) := by
        by_cases he0 : zs = []
        · subst he0
          have hz' : c0 = 0 := by simpa using hz.symm
          have hn' : n0 = 0 := by omega
          rw [hz', hn']; simp
        · have : sp a.block = true := by
            have hp : 0 < zs.length := List.length_pos_iff.2 he0
            have hq := hsp _ (MemPlace.mem_row.2 ⟨0, hp, rfl⟩)
            exact hq
          rw [this]; exact hz
      refine ⟨0 + 2, ?_⟩
      have := shut_ints (enc := enc) (P := P) (w := W') (base := 0) (spare := sp) (held := true) (a := a) (len := n0) (cap := c0) (zs := zs) 0 ht he hc hb hl hm hz2 (fun i hi => ?_) hw
      · simpa [Value.cells] using this
      · have h1 := hcell i hi
        have hbl : (a.add i).block < W.heap.size := World.block_lt_of_cell? _ _ h1
        unfold World.cell? at h1 ⊢
        rw [hB.block _ hbl]
        exact h1

theorem args_of {ti tn e : TypeId} (hti : P.underlying ti = some (.slice e)) (he : P.underlying e = some (.int .i64)) (hc : P.cellsOf e = 1) (htn : P.underlying tn = some (.int .i64)) :
    ∀ (ts : List TypeId) (vs : List Value) (ds : List (DataW H)) (p : List MemPlace), DataW.TrodAll enc P W 0 (fun _ => true) true ts vs ds p → (∀ t ∈ ts, t = ti ∨ t = tn) →
    (∀ (j : Nat) t v, ts[j]? = some t → vs[j]? = some v → ∃ b, Value.okWide P W .any b t v) → (∀ (j : Nat) elems spare, ts[j]? = some ti → ds[j]? = some (.slice elems spare) → elems.length + spare.length ≤ lim) →
    ∃ as, ArgsOk (memOf W) ti tn ts as vs ∧ ∀ (W' : World) (sp : Nat → Bool), Below W.heap.size W W' → (∀ q ∈ p, sp q.block = true) → DataW.TrodAll enc P W' 0 sp true ts vs ds p
  | [], vs, ds, p, h, _, _, _ => by
    obtain ⟨rfl, rfl, rfl⟩ := trodAll_nil h
    exact ⟨[], .nil, fun _ _ _ _ => rfl⟩
  | t :: ts, vs, ds, p, h, hts, hval, hsz => by
    obtain ⟨v, vs1, d, ds1, pa, pb, rfl, rfl, rfl, h1, h2⟩ := trodAll_cons h
    obtain ⟨as, h3, h4⟩ := args_of hti he hc htn ts vs1 ds1 pb h2 (fun x hx => hts x (List.mem_cons_of_mem _ hx)) (fun j x y hx hy => hval (j + 1) x y (by simpa using hx) (by simpa using hy)) (fun j x y hx hy => hsz (j + 1) x y (by simpa using hx) (by simpa using hy))
    obtain ⟨b, hv⟩ := hval 0 t v rfl rfl
    by_cases hi : t = ti
    · subst hi
      obtain ⟨l, k1, k2, k3⟩ := open_arg_ints hti he hc (.inr (okWide_slice hti hv)) h1 (fun x y hxy => hsz 0 x y rfl (by rw [hxy]; rfl))
      exact ⟨.ints l :: as, .ints k1 k2 h3, fun W' sp hB hq => ⟨pa, pb, k3 W' sp hB fun q hq' => hq q (List.mem_append_left _ hq'), h4 W' sp hB fun q hq' => hq q (List.mem_append_right _ hq'), rfl⟩⟩
    · have hn : t = tn := (hts t (List.mem_cons_self ..)).resolve_left hi
      subst hn
      obtain ⟨n, rfl, rfl, rfl, hw⟩ := open_int htn hv h1
      exact ⟨.num n :: as, .num (inI_of hw) h3, fun W' sp hB hq => ⟨[], pb, shut_int htn hw, h4 W' sp hB fun q hq' => hq q (by simpa using hq'), rfl⟩⟩

/-- What a call hands back that has turned nothing that was there. -/
theorem post_below {f : Func} {s : ChangeSpec} {apart fresh handsOn again : Bool} {W' : World} {args : Array Value} {v : Value} {ds gs : List (DataW H)} {before pa pv : List MemPlace}
    (hW : DataW.Whole enc P f.params.toList s.vars apart W args.toList ds gs before)
    (hres : ∀ (b : Nat) (sp : Nat → Bool) (hd : Bool), DataW.TrodAll enc P W' b sp hd f.resultTypes.toList (v.resultList f.resultTypes.size) (s.fn H (ds ++ gs)).results [])
    (hargs : ∀ sp : Nat → Bool, (∀ p ∈ before, sp p.block = true) → DataW.TrodAll enc P W' 0 sp true f.params.toList args.toList (s.fn H (ds ++ gs)).args pa)
    (hvars : ∀ sp : Nat → Bool, (∀ p ∈ before, sp p.block = true) → DataW.TrodVars enc P W' sp s.vars (s.fn H (ds ++ gs)).vars pv)
    (hps : before = pa ++ pv) (hb : Below W.heap.size W W')
    (hok : ∀ (j : Nat) (t : TypeId) (r : Value), f.resultTypes[j]? = some t → (v.resultList f.resultTypes.size)[j]? = some r → Value.okWide P W' .any 0 t r) :
    s.post enc P f apart fresh handsOn again W args v W' := by
  have hlt : ∀ p ∈ before, p.block < W.heap.size := fun p hp => hW.lt p hp
  have hold : ∀ p ∈ before, (fun b => decide (b < W.heap.size)) p.block = true := fun p hp => by simpa using hlt p hp
  refine ⟨ds, gs, before, [], pa, pv, hW, hres _ _ _, hargs _ hold, hvars _ hold, World.keptBut_mono (fun p hp => ⟨hp, ?_⟩) (hb.frame (· ∈ before)), fun _ => ?_⟩
  · rw [hps, List.mem_append] at hp
    exact Or.inr hp
  · obtain ⟨_, _, _, _, _, hz, hn⟩ := hW
    refine ⟨hok, _, _, ([] ++ pa) ++ pv, ⟨[] ++ pa, pv, trodAll_append (hargs _ (fun _ _ => rfl)) (hres _ _ _), hvars _ (fun _ _ => rfl), rfl, ?_, ?_⟩, ?_⟩
    · intro b off hp
      have hin : MemPlace.cell b off ∈ before := by rw [hps]; simpa using hp
      rw [hb.frozen (hlt _ hin)]
      exact hz b off hin
    · intro ha
      have := hn ha
      rw [hps] at this
      simpa using this
    · intro p hp _
      rw [hps]
      simpa using hp
end

/-- A law over integers and slices of integers, out of its walk. -/
theorem law_lifted {H : Type} {enc : TypeId × Value → H} {C : Checked} {os : Os} {f : FuncId} {fn : Func} {s : ChangeSpec} {ti tn e tb : TypeId} {fresh handsOn again : Bool} (own : ownKnob C.prog.godebug = none) (started : os.Started) (noInit : C.prog.inits.idxOf? f = none) (hfn : C.prog.funcs[f]? = some fn)
    (hti : C.prog.underlying ti = some (.slice e)) (he : C.prog.underlying e = some (.int .i64)) (hc : C.prog.cellsOf e = 1) (hbe : Nat.blt 0 (C.prog.bytesOf e) = true) (htn : C.prog.underlying tn = some (.int .i64)) (htb : C.prog.underlying tb = some .bool)
    (hts : (fn.params.toList.all fun t => t == ti || t == tn) = true) (hres : fn.resultTypes = #[tb]) (hvars : s.vars = []) (hspec : ∀ ds : List (DataW H), ds.length = fn.params.toList.length → s.fn H ds = { results := [.lit (.bool true)], args := ds, vars := [] })
    (witness : ∃ (w : World) (tape : Tape) (i : Input), w.os = os ∧ (w.forCall tape i).Shaped C.prog ∧ i.vars = [] ∧ Input.okWide C.prog (w.forCall tape i) .any w.heap.size f i ∧
      s.pre6 enc C.prog fn [] false (w.forCall tape i).memory i.args ∧ Assume.holds {} C.prog (lone (Frame.enter C.prog f i.args .normal) [] (w.forCall tape i)))
    (contract : ∀ (W : World) (as : List Arg) (vs : List Value), ArgsOk (memOf W) ti tn fn.params.toList as vs → CallOk C.prog W (memOf W) [] f vs.toArray (Is (memOf W) [] (.bool true))) :
    ReturnsInHanded {} C os f .any (s.pre6 enc C.prog fn [] false) (s.post enc C.prog fn false fresh handsOn again) := by
  refine returnsInHanded_of_change_sized own started noInit hfn witness ?_
  intro W base args ds gs before hval hW _ hsz _
  have hW' := hW
  obtain ⟨p, q, hA, hV, hb, hfz, hnd⟩ := hW
  rw [hvars] at hV
  obtain ⟨rfl, rfl⟩ := trodVars_none hV
  have hvt : s.plain.varTypes C.prog = [] := by
    have : s.plain.vars = [] := hvars
    unfold DataSpec.varTypes
    rw [this]; rfl
  rw [hvt, List.append_nil, List.append_nil] at hsz
  have hts' : ∀ t ∈ fn.params.toList, t = ti ∨ t = tn := fun t ht => by
    have := List.all_eq_true.1 hts t ht
    simpa using this
  have hbe' : 0 < C.prog.bytesOf e := by simpa [Nat.blt_eq] using hbe
  obtain ⟨as, h1, h2⟩ := args_of (enc := enc) hti he hc htn fn.params.toList args.toList ds p hA hts' (fun j t v ht hv => ⟨base, hval j t v (by simpa using ht) (by simpa using hv)⟩) (fun j elems spare ht hd => by
    have h3 := sized_slice hsz ht hd hti
    have h4 : elems.length + spare.length ≤ (elems.length + spare.length) * C.prog.bytesOf e := Nat.le_mul_of_pos_right _ hbe'
    have h5 := reachBytes_lt
    unfold lim
    omega)
  have hlen : ds.length = fn.params.toList.length := by
    have : ∀ (ts : List TypeId) (vs : List Value) (ds : List (DataW H)) (p : List MemPlace), DataW.TrodAll enc C.prog W 0 (fun _ => true) true ts vs ds p → ds.length = ts.length := by
      intro ts
      induction ts with
      | nil => intro vs ds p h; obtain ⟨_, rfl, _⟩ := trodAll_nil h; rfl
      | cons t ts ih =>
        intro vs ds p h
        obtain ⟨v, vs1, d, ds1, a, b, rfl, rfl, rfl, _, h2⟩ := trodAll_cons h
        simp [ih _ _ _ h2]
    exact this _ _ _ _ hA
  refine (contract W as args.toList h1 W (st_start W)).mono ?_
  rintro e' W' ⟨v, M', Γ', rfl, ⟨rfl, rfl, rfl⟩, hw'⟩
  refine ⟨_, rfl, ?_⟩
  have hB := below_of hw'
  have hfn' := hspec ds hlen
  refine post_below (pa := p) (pv := []) hW' (fun b sp hd => ?_) (fun sp hsp => ?_) (fun sp _ => ?_) (by rw [hb]) hB (fun j t r hj hr => ?_)
  · rw [List.append_nil, hfn', hres]
    exact trodAll_mk1 (shut_bool htb true)
  · rw [List.append_nil, hfn']
    exact h2 W' sp hB fun q hq => hsp q (by rw [hb, List.append_nil]; exact hq)
  · rw [List.append_nil, hfn', hvars]
    rfl
  · rw [hres] at hj hr
    have hj0 : j = 0 := by
      rcases Nat.eq_zero_or_pos j with h | h
      · exact h
      · rw [Array.getElem?_eq_none (by simp; omega)] at hj; cases hj
    subst hj0
    simp [Value.resultList] at hj hr
    subst hj hr
    exact okWide_bool_mk htb true
end Xe

/-
  THE ENGINE, PART N: tables whose rows may have room to grow: written, cut, grown, and then only read. No program in sight.
-/
namespace Xe
open Go

/-- A row that the call may grow: where it lies, its room, its numbers. -/
abbrev RowT := (Option Addr × Nat) × List Int
abbrev rowvA (p : RowT) : Value := .slice p.1.1 p.2.length p.1.2
abbrev rowA (p : RowT) : As := .acc (rowvA p) 3 1 p.2.length (ints p.2)
def matA (l : List RowT) : List As := l.map rowA
theorem matA_owns (l : List (RowT)) : ∀ x ∈ matA l, x.owns := fun x hx => by
  obtain ⟨p, _, rfl⟩ := List.mem_map.1 hx
  trivial
theorem matA_perm {l : List (RowT)} {k : Nat} {p : RowT} (h : l[k]? = some p) (p' : RowT) :
    List.Perm (matA l) (rowA p :: matA (l.eraseIdx k)) ∧ List.Perm (matA (l.set k p')) (rowA p' :: matA (l.eraseIdx k)) := by
  induction l generalizing k with
  | nil => simp at h
  | cons q l ih =>
    cases k with
    | zero =>
      simp only [List.getElem?_cons_zero, Option.some.injEq] at h
      subst h
      exact ⟨List.Perm.refl _, List.Perm.refl _⟩
    | succ k =>
      obtain ⟨h1, h2⟩ := ih (k := k) (by simpa using h)
      refine ⟨?_, ?_⟩
      · exact (h1.cons (rowA q)).trans (List.Perm.swap _ _ _)
      · exact (h2.cons (rowA q)).trans (List.Perm.swap _ _ _)
theorem matA_snoc (l : List (RowT)) (p : RowT) : matA (l ++ [p]) = matA l ++ [rowA p] := by simp [matA]
theorem matA_in {l : List (RowT)} {p : RowT} (h : p ∈ l) : rowA p ∈ matA l := List.mem_map.2 ⟨p, h, rfl⟩
theorem ints_of_rd {M : Mem} : ∀ {l : List Int} {us : List Value}, RdL M (l.map dint) us → us = ints l
  | [], us, h => by have := h.1; exact List.eq_nil_of_length_eq_zero (by simpa using this)
  | n :: l, us, h => by
    cases us with
    | nil => have := h.1; simp at this
    | cons u us =>
      have h0 := h.2 0 (dint n) u rfl rfl
      simp only [Rd] at h0
      have h1 : RdL M (l.map dint) us := ⟨by have := h.1; simpa using this, fun k e x h1 h2 => h.2 (k + 1) e x (by simpa using h1) (by simpa using h2)⟩
      rw [ints_of_rd h1, h0.1]; rfl

section
variable {w0 w : World} {M : Mem} {Γ : List As}
/-- A prefix of a slice that is grown. -/
theorem St.accTake {a : Option Addr} {n c e sz k : Nat} {us : List Value} (hw : St w0 M (.acc (.slice a n c) e sz n us :: Γ) w) (hk : k ≤ n) : St w0 M (.acc (.slice a k c) e sz k (us.take (k * sz)) :: Γ) w := by
  have hx := hw.all _ (List.mem_cons_self ..)
  have hob : (Value.slice a k c).ownBlock = (Value.slice a n c).ownBlock := by cases a <;> rfl
  refine ⟨hw.os, hw.tape, hw.output, hw.size, hw.mem, fun y hy0 => ?_, by have := hw.nodup; simp only [List.filterMap_cons, As.blk] at this ⊢; rw [hob]; exact this⟩
  rcases List.mem_cons.1 hy0 with rfl | hy
  · obtain ⟨⟨hl, hh⟩, hM⟩ := hx
    refine ⟨⟨?_, ?_⟩, fun b hb => hM b (by rw [← hob]; exact hb)⟩
    · rw [List.length_take, hl]
      exact Nat.min_eq_left (Nat.mul_le_mul_right _ hk)
    · rcases hh with ⟨e1, e2⟩ | ⟨b, cap, cur, e1, g, hb, hnc, hcm, hcs, htk⟩
      · simp only [Value.slice.injEq] at e1
        obtain ⟨rfl, rfl, rfl⟩ := e1
        obtain rfl : k = 0 := by omega
        exact .inl ⟨rfl, rfl⟩
      · simp only [Value.slice.injEq] at e1
        obtain ⟨rfl, _, rfl⟩ := e1
        refine .inr ⟨b, c, cur, rfl, g, hb, by omega, hcm, hcs, ?_⟩
        rw [← htk, List.take_take, Nat.min_eq_left (Nat.mul_le_mul_right _ hk)]
  · exact hw.all y (List.mem_cons_of_mem _ hy)
theorem cut0 (a : Option Addr) (h m sz : Nat) : cutV a 0 h m sz = .slice a h m := by
  unfold cutV
  rw [Nat.zero_mul, Nat.sub_zero, Nat.sub_zero]
  cases a with
  | none => split <;> rfl
  | some x => split <;> simp [Addr.add]
theorem St.setAcc {a : Option Addr} {n c e sz q : Nat} {us : List Value} {v : Value} (hw : St w0 M (.acc (.slice a n c) e sz n us :: Γ) w) (hq : q < us.length) :
    St w0 M (.acc (.slice a n c) e sz n (us.set q v) :: Γ) (w.setCell (adr a q) v) ∧ (w.cell? (adr a q)).isSome = true ∧ w.frozen? (adr a q) = false := by
  have hx := hw.all _ (List.mem_cons_self ..)
  obtain ⟨⟨hl, hh⟩, hM⟩ := hx
  rcases hh with ⟨e1, e2⟩ | ⟨b, cap, cur, e1, g, hb, hnc, hcm, hcs, htk⟩
  · simp only [Value.slice.injEq] at e1
    obtain ⟨rfl, rfl, rfl⟩ := e1
    simp at hl; subst hl; simp at hq
  · simp only [Value.slice.injEq] at e1
    obtain ⟨rfl, _, rfl⟩ := e1
    have hlt : b < w.heap.size := (Array.getElem?_eq_some_iff.1 hb).1
    have hbe : w.heap[b] = .cells cur e (0, 0) := (Array.getElem?_eq_some_iff.1 hb).2
    have hqc : q < cur.size := by
      have : n * sz ≤ c * sz := Nat.mul_le_mul_right _ hnc
      omega
    have hset : w.setCell (adr (some ⟨b, 0, none⟩) q) v = { w with heap := w.heap.setIfInBounds b (.cells (cur.setIfInBounds q v) e (0, 0)) } := by
      rw [adr_some]
      simp only [World.setCell]
      congr 1
      apply Array.ext
      · simp
      · intro i h1 h2
        by_cases hi : b = i
        · subst hi
          simp [Array.getElem_modify, hbe]
        · rw [Array.getElem_modify, if_neg hi, Array.getElem_setIfInBounds_ne (by simpa using h1) hi]
    refine ⟨?_, by rw [adr_some]; simp [World.cell?, hb, hqc], by rw [adr_some]; simp [World.frozen?, hb]⟩
    rw [hset]
    have hne : ∀ k, k ≠ b → (w.heap.setIfInBounds b (.cells (cur.setIfInBounds q v) e (0, 0)))[k]? = w.heap[k]? := fun k hk => Array.getElem?_setIfInBounds_ne (by omega)
    have hnd := hw.nodup
    simp only [List.filterMap_cons, As.blk, Value.ownBlock] at hnd
    refine ⟨hw.os, hw.tape, hw.output, by simp; exact hw.size, fun k o hk => ?_, fun y hy0 => ?_, by simpa [List.filterMap_cons, As.blk, Value.ownBlock] using hw.nodup⟩
    · rw [hne k (fun e' => by subst e'; rw [hM _ rfl] at hk; cases hk)]; exact hw.mem k o hk
    · rcases List.mem_cons.1 hy0 with rfl | hy
      · refine ⟨⟨by simpa using hl, .inr ⟨b, c, cur.setIfInBounds q v, rfl, g, by simp [hlt], hnc, hcm, by simpa using hcs, ?_⟩⟩, hM⟩
        rw [Array.toList_setIfInBounds, List.take_set, htk]
      · have hy' := hw.all y (List.mem_cons_of_mem _ hy)
        refine As.ok_keep hy' (Sub.refl M) fun k hk => ⟨hne k fun e' => ?_, (As.ok_blk_lt hy' hk).2⟩
        subst e'
        exact (List.nodup_cons.1 hnd).1 (mem_blk hy hk)
end

section
variable {P : Program} {n : Nat} {w0 : World} {ops : Array Oper} {rest : List Oper} {L : Lm} {M : Mem} {Γ : List As} {K : Lm → Mem → List As → Prop} {ty : TypeId} {pos : String} {af : Array Edge} {d : Nat}
theorem RL.perm {Γ' : List As} (hp : List.Perm Γ Γ') (h : RL P n w0 ops rest L M Γ' K) : RL P n w0 ops rest L M Γ K :=
  h.pre (fun _ _ h => h) fun _ hw => hw.perm hp
theorem CW.perm {c : Code} {X : Pst} {Γ' : List As} (hp : List.Perm Γ Γ') (h : CW P n w0 c X L M Γ') : CW P n w0 c X L M Γ := h.pre (Keep.refl L) fun _ hw => hw.perm hp
theorem RL.accTake {a : Option Addr} {m c e sz k : Nat} {us : List Value} (hk : k ≤ m) (h : RL P n w0 ops rest L M (.acc (.slice a k c) e sz k (us.take (k * sz)) :: Γ) K) : RL P n w0 ops rest L M (.acc (.slice a m c) e sz m us :: Γ) K :=
  h.pre (fun _ _ h => h) fun _ hw => hw.accTake hk
/-- A cell of a slice that is grown, at the list's head. -/
theorem RL.storeAcc {t : TypeId} {x y : Operand} {a : Option Addr} {m c e sz q : Nat} {us : List Value} {v : Value} (us' : List Value) (hx : evL L x = some (.pointer (some (adr a q)))) (hy : evL L y = some v)
    (hs : us.set q v = us') (hq : q < us.length) (h1 : v.oneCell' = true) (ht : sizeB P t 1 = true)
    (h : RL P n w0 ops rest L M (.acc (.slice a m c) e sz m us' :: Γ) K) : RL P n w0 ops (⟨none, .store t x y, ty, pos, af, none⟩ :: rest) L M (.acc (.slice a m c) e sz m us :: Γ) K := by
  refine RL.s (Γ' := .acc (.slice a m c) e sz m us' :: Γ) (fun n a' w ha hw => ?_) h
  subst hs
  obtain ⟨k1, k2, k3⟩ := hw.setAcc (q := q) (v := v) hq
  refine ⟨_, ?_, k1⟩
  have hcells : v.cells = #[v] := by cases v <;> first | rfl | simp [Value.oneCell'] at h1
  have h2 : (adr a q).add 0 = adr a q := by rw [adr_add]; rfl
  have h3 : (Go.store (adr a q) v).run P w = .ok () (w.setCell (adr a q) v) := by
    rw [run_store P w _ v _ h1]
    cases hc : w.cell? (adr a q) with
    | none => rw [hc] at k2; cases k2
    | some z => simp [k3]
  simp [execOp, ha.ev hx, ha.ev hy, Instr.storeAt, Instr.sureAddr, storeVar, hcells, run_sizeB ht, storeCells, h2, h3]
end

/-- What is there may from now on be read as a table. -/
def SealT (w0 : World) (M : Mem) (Γ : List As) (xs : List (List Int)) (u : Value) (B : List As) : Prop := ∀ w, St w0 M Γ w → ∃ M', Sub M M' ∧ Rd M' (dtab xs) u ∧ St w0 M' B w
theorem Lent.rowA {w0 : World} {M M' : Mem} {Γs Γ : List As} (h : Lent w0 M Γs Γ M') : ∀ (l : List (RowT)), (∀ p ∈ l, Xe.rowA p ∈ Γs) → (∀ p ∈ l, p.2.length ≤ lim) → RdL M' ((l.map (·.2)).map dints) (l.map rowvA)
  | [], _, _ => RdL.nil _
  | p :: l, h1, h2 => by
    refine RdL.cons ?_ (Lent.rowA h l (fun q hq => h1 q (List.mem_cons_of_mem _ hq)) fun q hq => h2 q (List.mem_cons_of_mem _ hq))
    exact h.acc (h1 p (List.mem_cons_self ..)) (ints_rd p.2) (h2 p (List.mem_cons_self ..))
theorem sealT_mk {w0 : World} {M : Mem} {Γ R B : List As} {u : Value} {n : Nat} {l : List (RowT)} (hp : List.Perm Γ ((.acc u 22 1 n (l.map rowvA) :: matA l) ++ R)) (h1 : ∀ p ∈ l, p.2.length ≤ lim) (h2 : l.length ≤ lim) (hn : n = l.length) (hs : List.Sublist B R) :
    SealT w0 M Γ (l.map (·.2)) u B := fun w hw => by
  obtain ⟨M', k1, k2⟩ := St.lend _ (fun x hx => by
    rcases List.mem_cons.1 hx with rfl | hx
    · trivial
    · exact matA_owns l x hx) (hw.perm hp)
  subst hn
  refine ⟨M', k1.sub, ?_, k2.sub hs⟩
  have hr := k1.rowA l (fun p hp => List.mem_cons_of_mem _ (matA_in hp)) h1
  have := k1.acc (List.mem_cons_self ..) hr h2
  unfold dtab
  rwa [List.length_map]
theorem CW.sealT {P : Program} {n : Nat} {w0 : World} {c : Code} {X : Pst} {L : Lm} {M : Mem} {Γ B : List As} {xs : List (List Int)} {u : Value} (h : SealT w0 M Γ xs u B) (k : ∀ M', Sub M M' → Rd M' (dtab xs) u → CW P n w0 c X L M' B) : CW P n w0 c X L M Γ := by
  refine CW.turn (F := fun M' Γ' => Sub M M' ∧ Rd M' (dtab xs) u ∧ Γ' = B) (fun w hw => ?_) ?_
  · obtain ⟨M', k1, k2, k3⟩ := h w hw
    exact ⟨M', B, ⟨k1, k2, rfl⟩, k3⟩
  · rintro M' _ ⟨k1, k2, rfl⟩
    exact k M' k1 k2
theorem CW.matAPush {P : Program} {n : Nat} {w0 : World} {c : Code} {X : Pst} {L : Lm} {M : Mem} {R : List As} (pre : List As) {l : List (RowT)} (p : RowT) (h : CW P n w0 c X L M (pre ++ (matA (l ++ [p]) ++ R))) : CW P n w0 c X L M (rowA p :: (pre ++ (matA l ++ R))) :=
  h.pre (Keep.refl L) fun _ hw => hw.perm (by
    rw [matA_snoc]
    refine List.Perm.trans (List.perm_middle (l₁ := pre)).symm ?_
    refine List.Perm.append_left pre ?_
    simpa using (List.perm_middle (l₁ := matA l)).symm)
theorem take_rows {l : List (RowT)} (k : Nat) : List.Perm (matA l) (matA (l.take k) ++ matA (l.drop k)) := by
  have : matA l = matA (l.take k ++ l.drop k) := by rw [List.take_append_drop]
  rw [this, matA, List.map_append]
  exact List.Perm.refl _
theorem sealT_set {w0 : World} {M : Mem} {R B : List As} {u : Value} {n k : Nat} {l : List RowT} {p : RowT} (p' : RowT) {us : List Value} (h : l[k]? = some p) (hus : us = (l.set k p').map rowvA) (h1 : ∀ q ∈ l, q.2.length ≤ lim) (hp' : p'.2.length ≤ lim) (h2 : l.length ≤ lim) (hn : n = l.length) (hs : List.Sublist B R) :
    SealT w0 M (rowA p' :: .acc u 22 1 n us :: (matA (l.eraseIdx k) ++ R)) ((l.set k p').map (·.2)) u B := by
  subst hus
  refine sealT_mk (l := l.set k p') (R := R) (n := n) ?_ (fun q hq => ?_) (by rw [List.length_set]; exact h2) (by rw [List.length_set]; exact hn) hs
  · refine (List.Perm.swap _ _ _).trans ?_
    exact List.Perm.cons _ (((matA_perm h p').2.append_right R).symm)
  · rcases List.mem_or_eq_of_mem_set hq with hq | rfl
    · exact h1 q hq
    · exact hp'
theorem sealT_take {w0 : World} {M : Mem} {R B : List As} {a : Option Addr} {c n k : Nat} {l : List RowT} (hk : k ≤ n) (h1 : ∀ q ∈ l, q.2.length ≤ lim) (h2 : l.length ≤ lim) (hn : n = l.length) (hs : List.Sublist B R) :
    SealT w0 M (.acc (.slice a n c) 22 1 n (l.map rowvA) :: (matA l ++ R)) ((l.take k).map (·.2)) (.slice a k c) B := fun w hw => by
  have h3 := hw.accTake (k := k) hk
  rw [Nat.mul_one, ← List.map_take] at h3
  have h4 := h3.perm (List.Perm.cons _ (((take_rows (l := l) k).append_right R)))
  have hlen : (l.take k).length = k := by rw [List.length_take]; omega
  refine sealT_mk (l := l.take k) (R := matA (l.drop k) ++ R) (u := .slice a k c) (n := k) (B := B) (M := M) (w0 := w0) (List.Perm.refl _) (fun q hq => h1 q (List.mem_of_mem_take hq)) (by rw [hlen]; omega) hlen.symm (hs.trans (List.sublist_append_right _ _)) w ?_
  simpa using h4
theorem rowvA_set {l : List RowT} {k : Nat} {p p' : RowT} (h : l[k]? = some p) (he : rowvA p' = rowvA p) : (l.set k p').map rowvA = l.map rowvA := by
  have hlt := (List.getElem?_eq_some_iff.1 h).1
  rw [List.map_set, he]
  apply List.ext_getElem?
  intro j
  rw [List.getElem?_set]
  by_cases e : k = j
  · subst e
    rw [if_pos rfl, if_pos (by simpa using hlt), List.getElem?_map, h]; rfl
  · rw [if_neg e]
theorem acc_le {w0 w : World} {M : Mem} {Γ : List As} {a : Option Addr} {n c e sz : Nat} {us : List Value} (hw : St w0 M Γ w) (hm : As.acc (.slice a n c) e sz n us ∈ Γ) : n ≤ c ∧ (0 < n * sz → a.isSome = true) := by
  obtain ⟨⟨hl, hh⟩, _⟩ := hw.all _ hm
  rcases hh with ⟨e1, e2⟩ | ⟨b, cap, cur, e1, g, hb, hnc, _⟩
  · simp only [Value.slice.injEq] at e1
    obtain ⟨rfl, rfl, rfl⟩ := e1
    exact ⟨Nat.le_refl _, fun h => by simp at h⟩
  · simp only [Value.slice.injEq] at e1
    obtain ⟨rfl, _, rfl⟩ := e1
    exact ⟨hnc, fun _ => rfl⟩
theorem sealT_pre {w0 : World} {M : Mem} {Γ Γ' B : List As} {xs : List (List Int)} {u : Value} (h : ∀ w, St w0 M Γ w → St w0 M Γ' w) (k : SealT w0 M Γ' xs u B) : SealT w0 M Γ xs u B := fun w hw => k w (h w hw)
theorem sealT_eq {w0 : World} {M : Mem} {Γ B : List As} {xs xs' : List (List Int)} {u : Value} (h : xs' = xs) (k : SealT w0 M Γ xs' u B) : SealT w0 M Γ xs u B := h ▸ k
theorem Y.slice0 {P : Program} {w0 : World} {L : Lm} {M : Mem} {Γ : List As} {d : Option Nat} {ty : TypeId} {pos : String} {af : Array Edge} {g : Option (Nat × Bool)} {x : Operand} {hi mx : Option Operand} {t e sz : Nat} {a : Option Addr} {n c : Nat} (h m : Nat)
    (hx : evL L x = some (.slice a n c)) (hhi : OptIs L hi n h) (hmx : OptIs L mx c m) (hb : hi.isSome = true ∨ mx.isSome = false) (h2 : h ≤ m) (h3 : m ≤ c) (ht : sliceB P t e sz = true) :
    Yq P w0 L M Γ ⟨d, .slice t x none hi mx, ty, pos, af, g⟩ (.slice a h m) := by
  have := Y.slice (P := P) (w0 := w0) (M := M) (Γ := Γ) (d := d) (ty := ty) (pos := pos) (af := af) (g := g) (lo := none) 0 h m hx rfl hhi hmx hb (Nat.zero_le _) h2 h3 ht
  rwa [cut0] at this
end Xe

/-
  THE ENGINE, PART O: calls that may panic. No program in sight.
-/
namespace Xe
open Go
abbrev PPost := List PanicEntry → Mem → List As → Prop
/-- It returns, or it panics. -/
def EndP (w0 : World) (R : Post) (G : PPost) (e : Ending) (w' : World) : Prop :=
  (∃ v M Γ, e = .returned v ∧ R v M Γ ∧ St w0 M Γ w') ∨ (∃ ch M Γ, e = .panicked ch ∧ G ch M Γ ∧ St w0 M Γ w')
def CallP (P : Program) (w0 : World) (M : Mem) (Γ : List As) (f : FuncId) (args : Array Value) (R : Post) (G : PPost) : Prop :=
  ∀ w, St w0 M Γ w → Calls P f args w (EndP w0 R G)
theorem CallOk.toP {P : Program} {w0 : World} {M : Mem} {Γ : List As} {f : FuncId} {args : Array Value} {R : Post} (h : CallOk P w0 M Γ f args R) (G : PPost) : CallP P w0 M Γ f args R G :=
  fun w hw => (h w hw).mono fun _ _ h => .inl h
theorem CallP.mono {P : Program} {w0 : World} {M : Mem} {Γ : List As} {f : FuncId} {args : Array Value} {R R' : Post} {G G' : PPost} (h : CallP P w0 M Γ f args R G) (hr : ∀ v M' Γ', R v M' Γ' → R' v M' Γ') (hg : ∀ c M' Γ', G c M' Γ' → G' c M' Γ') : CallP P w0 M Γ f args R' G' :=
  fun w hw => (h w hw).mono fun _ _ h => h.imp (fun ⟨v, M, Γ, h1, h2, h3⟩ => ⟨v, M, Γ, h1, hr _ _ _ h2, h3⟩) (fun ⟨v, M, Γ, h1, h2, h3⟩ => ⟨v, M, Γ, h1, hg _ _ _ h2, h3⟩)
theorem CallP.toOk {P : Program} {w0 : World} {M : Mem} {Γ : List As} {f : FuncId} {args : Array Value} {R : Post} (h : CallP P w0 M Γ f args R fun _ _ _ => False) : CallOk P w0 M Γ f args R :=
  fun w hw => (h w hw).mono fun _ _ h => h.elim id fun ⟨_, _, _, _, h, _⟩ => h.elim
theorem CallP.pick {P : Program} {w0 : World} {M : Mem} {Γ R : List As} {x : As} {f : FuncId} {args : Array Value} {F : Post} {G : PPost} (hp : Pick x Γ R) (h : CallP P w0 M (x :: R) f args F G) : CallP P w0 M Γ f args F G :=
  fun w hw => h w (hw.perm hp.perm)

theorem upon_normX {P : Program} {o : Oper} {a : Act} {K : Act → World → Prop} {R : Act → World → Prop} {Q : Exit → Act → World → Prop} {r : Result Next} (h : o.upon P a K (Norm R) r) : o.upon P a K Q r := by
  cases r with
  | ok x w =>
    cases x <;> simp only [Oper.upon] at h ⊢ <;> first | exact h | (refine h.mono fun e w'' he => ?_; cases e <;> first | exact he | exact he.elim | (obtain ⟨a, w, hf⟩ := he; exact hf.elim))
  | halt x w => cases x <;> simp only [Oper.upon] at h ⊢ <;> first | exact h | exact h.elim

/-! ### A region in the order of the text, out of which a panic may go -/
def RX (P : Program) (n : Nat) (w0 : World) (ops : Array Oper) (rest : List Oper) (L : Lm) (M : Mem) (Γ : List As) (X : Pst) : Prop :=
  ∀ a w, Sat n L a → St w0 M Γ w → wpList P ops (Real n w0 X) rest a w
section
variable {P : Program} {n : Nat} {w0 : World} {ops : Array Oper} {rest : List Oper} {L : Lm} {M : Mem} {Γ : List As} {X : Pst}
theorem RX.done (h : X .normal L M Γ) : RX P n w0 ops [] L M Γ X := fun _ _ ha hw => ⟨L, M, Γ, h, ha, hw⟩
theorem CW.regionX {id : Nat} {l : List Oper} (h : RX P n w0 l.toArray l L M Γ X) : CW P n w0 (.region id l.toArray false) X L M Γ :=
  fun a w ha hw => wp_region_lit (h a w ha hw)
/-- One operation that does not panic. -/
theorem RX.step {o : Oper} (h : RL P n w0 ops [o] L M Γ fun L' M' Γ' => RX P n w0 ops rest L' M' Γ' X) : RX P n w0 ops (o :: rest) L M Γ X := by
  intro a w ha hw
  have h1 := h (Norm fun a w => wpList P ops (Real n w0 X) rest a w) (fun L' M' Γ' hK a' w' ha' hw' => hK a' w' ha' hw') a w ha hw
  unfold wpList at h1 ⊢
  split
  · rename_i hwt
    rw [if_pos hwt] at h1
    rcases h1 with h1 | ⟨_, a, w, hf⟩
    · exact .inl (upon_normX h1)
    · exact hf.elim
  · rename_i hwt
    rw [if_neg hwt] at h1
    exact h1
/-- All the rest, where nothing panics. -/
theorem RX.of (h : RL P n w0 ops rest L M Γ (X .normal)) : RX P n w0 ops rest L M Γ X :=
  fun a w ha hw => h _ (fun L M Γ hX _ _ ha hw => ⟨L, M, Γ, hX, ha, hw⟩) a w ha hw
/-- A call. -/
theorem RX.c {op : Op} {ty : TypeId} {pos : String} {after : Array Edge} {g : Option (Nat × Bool)} {d : Nat} {f : FuncId} {args : Array Value} {R : Post} {G : PPost} (hg : Want ops L ⟨some d, op, ty, pos, after, g⟩ true)
    (hy : ∀ n a w, Sat n L a → (execOp a.eval ⟨some d, op, ty, pos, after, g⟩).run P w = .ok (.enter f args) w) (hd : Nat.blt d n = true)
    (hc : CallP P w0 M Γ f args R G) (h : ∀ v M' Γ', R v M' Γ' → RX P n w0 ops rest ((d, v) :: L) M' Γ' X) (hp : ∀ ch M' Γ', G ch M' Γ' → X (.panic ch) L M' Γ') : RX P n w0 ops (⟨some d, op, ty, pos, after, g⟩ :: rest) L M Γ X := by
  intro a w ha hw
  unfold wpList
  rw [if_pos (hg.spec ha)]
  refine .inl ?_
  unfold Oper.wp
  rw [hy n a w ha]
  refine (hc w hw).mono ?_
  rintro e w' (⟨v, M', Γ', rfl, hF, hw'⟩ | ⟨ch, M', Γ', rfl, hG, hw'⟩)
  · exact h v M' Γ' hF _ _ (ha.put hd) hw'
  · exact ⟨L, M', Γ', hp ch M' Γ' hG, ha, hw'⟩
variable {ty : TypeId} {pos : String} {af : Array Edge} {d : Nat}
theorem RX.call {g : Option (Nat × Bool)} {f : FuncId} {xs : List Operand} {ts : Array TypeId} {vs : List Value} {F : Post} {G : PPost} (hg : Want ops L ⟨some d, .call ⟨.value (.func f), xs.toArray, ts⟩, ty, pos, af, g⟩ true) (hf : funcB P f = true) (hx : evs L xs = some vs) (hd : Nat.blt d n = true)
    (hc : CallP P w0 M Γ f vs.toArray F G) (h : ∀ v M' Γ', F v M' Γ' → RX P n w0 ops rest ((d, v) :: L) M' Γ' X) (hp : ∀ ch M' Γ', G ch M' Γ' → X (.panic ch) L M' Γ') :
    RX P n w0 ops (⟨some d, .call ⟨.value (.func f), xs.toArray, ts⟩, ty, pos, af, g⟩ :: rest) L M Γ X := RX.c hg (call_enter hf hx) hd hc h hp
theorem RX.callf {g : Option (Nat × Bool)} {f : FuncId} {y : Operand} {first captured : Array Value} {xs : List Operand} {ts : Array TypeId} {vs : List Value} {F : Post} {G : PPost} (hg : Want ops L ⟨some d, .call ⟨.value y, xs.toArray, ts⟩, ty, pos, af, g⟩ true) (hf : funcB P f = true) (hy : evL L y = some (.func (.func f) first captured)) (hx : evs L xs = some vs) (hd : Nat.blt d n = true)
    (hc : CallP P w0 M Γ f (first ++ vs.toArray ++ captured) F G) (h : ∀ v M' Γ', F v M' Γ' → RX P n w0 ops rest ((d, v) :: L) M' Γ' X) (hp : ∀ ch M' Γ', G ch M' Γ' → X (.panic ch) L M' Γ') :
    RX P n w0 ops (⟨some d, .call ⟨.value y, xs.toArray, ts⟩, ty, pos, af, g⟩ :: rest) L M Γ X := RX.c hg (call_value hf hy hx) hd hc h hp
/-- A panic of the text's own. -/
theorem RX.halt {o : Oper} {v : Value} (hg : Want ops L o true) (hy : ∀ n a w, Sat n L a → St w0 M Γ w → (execOp a.eval o).run P w = .halt (.panic v) w) (hp : X (.panic [{ v, recovered := false }]) L M Γ) : RX P n w0 ops (o :: rest) L M Γ X := by
  intro a w ha hw
  unfold wpList
  rw [if_pos (hg.spec ha)]
  refine .inl ?_
  unfold Oper.wp
  rw [hy n a w ha hw]
  exact ⟨L, M, Γ, hp, ha, hw⟩
end
/-! ### Ways in -/
def endXP (w0 : World) (r : Nat) (R : Post) (G : PPost) : Pst
  | .panic ch, _, M, Γ => Turn w0 M Γ (G ch)
  | e, L, M, Γ => endX w0 r R e L M Γ
theorem enterP {P : Program} {f : FuncId} {fn : Func} {c : Code} {args : List Value} {w0 : World} {M : Mem} {Γ : List As} {R : Post} {G : PPost} {r n : Nat}
    (hf : P.funcs[f]? = some fn) (hb : fn.body = some c) (hn : fn.ntmps = n) (hr : fn.results = #[.tmp r]) (ha : Nat.ble args.length n = true)
    (h : ∀ w1, St w0 M Γ w1 → CW P n w0 c (endXP w0 r R G) (slotsOf 0 args) M Γ) : CallP P w0 M Γ f args.toArray R G := by
  intro w hw
  refine calls_of_wp hf hb ?_
  rw [hn]
  refine wp_mono (h w hw _ w (sat_start n args ha) hw) ?_
  rintro e a w' ⟨L, M1, Γ1, hX, h1, h2⟩
  cases e with
  | normal | ret =>
    obtain ⟨v, hv, hi⟩ := hX
    obtain ⟨M', Γ', hR, hw'⟩ := hi w' h2
    refine ⟨h1.defers, v, ?_, .inl ⟨v, M', Γ', rfl, hR, hw'⟩⟩
    have := h1.get r v hv
    simp [results, hr, this]
  | panic ch =>
    obtain ⟨M', Γ', hG, hw'⟩ := hX w' h2
    exact ⟨h1.defers, .inr ⟨ch, M', Γ', rfl, hG, hw'⟩⟩
  | _ => exact hX.elim
theorem enterCellP {P : Program} {f : FuncId} {fn : Func} {c : Code} {args : List Value} {w0 : World} {M : Mem} {Γ : List As} {R : Post} {G : PPost} {r n : Nat} {t : TypeId}
    (hf : P.funcs[f]? = some fn) (hb : fn.body = some c) (hn : fn.ntmps = n) (hr : fn.results = #[.cell r t]) (ha : Nat.ble args.length n = true)
    (h : ∀ w1, St w0 M Γ w1 → CW P n w0 c (fun e L M Γ => match e with
      | .ret | .normal => CellAt P w0 r t L M Γ R
      | .panic ch => Turn w0 M Γ (G ch)
      | _ => False) (slotsOf 0 args) M Γ) : CallP P w0 M Γ f args.toArray R G := by
  intro w hw
  refine calls_of_wp hf hb ?_
  rw [hn]
  refine wp_mono (h w hw _ w (sat_start n args ha) hw) ?_
  rintro e a w' ⟨L, M1, Γ1, hX, h1, h2⟩
  cases e with
  | normal | ret =>
    obtain ⟨b, e, cs, hv, hm, hag, hi⟩ := hX
    obtain ⟨M', Γ', hR, hw'⟩ := hi w' h2
    refine ⟨h1.defers, .agg cs.toArray, ?_, .inl ⟨_, M', Γ', rfl, hR, hw'⟩⟩
    have e1 := h1.get r _ hv
    simp [results, hr, e1, asAddr, run_loadOwn h2 hm hag]
  | panic ch =>
    obtain ⟨M', Γ', hG, hw'⟩ := hX w' h2
    exact ⟨h1.defers, .inr ⟨ch, M', Γ', rfl, hG, hw'⟩⟩
  | _ => exact hX.elim
end Xe

/-
  THE ENGINE, PART P: code behind a 'defer'. No program in sight.
-/
namespace Xe
open Go
/-- The same activation with more deferred calls below. -/
def addD (D : List Deferred) (a : Act) : Act := { a with defers := a.defers ++ D }
theorem addD_eval (D : List Deferred) (a : Act) : (addD D a).eval = a.eval := by funext x; cases x <;> rfl
theorem addD_put (D : List Deferred) (a : Act) (d : Option Nat) (v : Value) : (addD D a).put d v = addD D (a.put d v) := by cases d <;> rfl
theorem addD_upon {P : Program} {o : Oper} {D : List Deferred} {a : Act} {K K' : Act → World → Prop} {Q Q' : Exit → Act → World → Prop} (hK : ∀ a w, K a w → K' (addD D a) w) (hQ : ∀ e a w, Q e a w → Q' e (addD D a) w) {r : Result Next} (h : o.upon P a K Q r) : o.upon P (addD D a) K' Q' r := by
  have hl : LetsOut Q → LetsOut Q' := fun ⟨a, w, h⟩ => ⟨_, w, hQ _ _ _ h⟩
  have hp : ∀ v w, K (a.put o.dst v) w → K' ((addD D a).put o.dst v) w := fun v w h => by rw [addD_put]; exact hK _ _ h
  cases r with
  | ok x w =>
    cases x with
    | value v => exact hp _ _ h
    | skip => exact hp _ _ h
    | enter f args =>
      refine Calls.mono (show Calls P f args w _ from h) fun e w'' he => ?_
      cases e with
      | returned v => exact hp _ _ he
      | panicked ch => exact hQ _ _ _ he
      | outgrown => exact hl he
    | row r args => exact Rows.mono (show Rows P r args w _ from h) fun v w'' he => hp _ _ he
    | defer d =>
      have e : ({ addD D a with defers := d :: (addD D a).defers } : Act).put o.dst undef = addD D (({ a with defers := d :: a.defers } : Act).put o.dst undef) := by cases o.dst <;> rfl
      show K' (({ addD D a with defers := d :: (addD D a).defers } : Act).put o.dst undef) w
      rw [e]
      exact hK _ _ h
    | _ => first | exact h | exact h.elim
  | halt x w => cases x <;> simp only [Oper.upon] at h ⊢ <;> first | exact h | exact hQ _ _ _ h | exact h.elim
theorem wpList_addD {P : Program} {ops : Array Oper} {D : List Deferred} {Q Q' : Exit → Act → World → Prop} (hQ : ∀ e a w, Q e a w → Q' e (addD D a) w) : ∀ (rest : List Oper) (a : Act) (w : World), wpList P ops Q rest a w → wpList P ops Q' rest (addD D a) w
  | [], a, w, h => hQ _ _ _ h
  | o :: rest, a, w, h => by
    have hl : LetsOut Q → LetsOut Q' := fun ⟨a, w, h⟩ => ⟨_, w, hQ _ _ _ h⟩
    unfold wpList at h ⊢
    have ht : (addD D a).tmps = a.tmps := rfl
    rw [ht]
    split
    · rename_i hw
      rw [if_pos hw] at h
      refine h.imp (fun h => ?_) (fun h => ⟨?_, hl h.2⟩)
      · unfold Oper.wp at h ⊢
        rw [addD_eval]
        exact addD_upon (fun a w h => wpList_addD hQ rest a w h) hQ h
      · have := h.1
        unfold Oper.asks at this ⊢
        rw [addD_eval]
        exact this
    · rename_i hw
      rw [if_neg hw] at h
      rw [addD_put]
      exact wpList_addD hQ rest _ w h

/-! ### Code that defers: the deferred calls are part of the state -/
abbrev DPst := List Deferred → Pst
def RealD (n : Nat) (w0 : World) (X : DPst) (e : Exit) (a : Act) (w : World) : Prop := ∃ D a0, a = addD D a0 ∧ Real n w0 (X D) e a0 w
def CWD (P : Program) (n : Nat) (w0 : World) (c : Code) (X : DPst) (D : List Deferred) (L : Lm) (M : Mem) (Γ : List As) : Prop :=
  ∀ a w, Sat n L a → St w0 M Γ w → c.wp P (RealD n w0 X) (addD D a) w
def RD (P : Program) (n : Nat) (w0 : World) (ops : Array Oper) (rest : List Oper) (D : List Deferred) (L : Lm) (M : Mem) (Γ : List As) (X : DPst) : Prop :=
  ∀ a w, Sat n L a → St w0 M Γ w → wpList P ops (RealD n w0 X) rest (addD D a) w
section
variable {P : Program} {n : Nat} {w0 : World} {X : DPst} {D : List Deferred} {L : Lm} {M : Mem} {Γ : List As} {ops : Array Oper} {rest : List Oper}
theorem CWD.seq {c1 c2 : Code} (h : ∀ K : List Deferred → Lm → Mem → List As → Prop, (∀ D L M Γ, CWD P n w0 c2 X D L M Γ → K D L M Γ) → CWD P n w0 c1 (fun D => thenX (K D) (X D)) D L M Γ) : CWD P n w0 (.seq c1 c2) X D L M Γ := by
  intro a w ha hw
  refine wp_seq (wp_mono (h (fun D L M Γ => CWD P n w0 c2 X D L M Γ) (fun _ _ _ _ h => h) a w ha hw) ?_)
  rintro e a' w ⟨D', a0, rfl, L, M, Γ, hX, h1, h2⟩
  cases e <;> first | exact hX a0 w h1 h2 | exact ⟨D', a0, rfl, L, M, Γ, hX, h1, h2⟩
theorem CWD.skip (h : X D .normal L M Γ) : CWD P n w0 .skip X D L M Γ := fun a _ ha hw => wp_skip ⟨D, a, rfl, L, M, Γ, h, ha, hw⟩
theorem CWD.ret (h : X D .ret L M Γ) : CWD P n w0 .ret X D L M Γ := fun a _ ha hw => wp_ret ⟨D, a, rfl, L, M, Γ, h, ha, hw⟩
theorem CWD.keep {c : Code} {L' : Lm} (hL : Keep L L') (h : CWD P n w0 c X D L' M Γ) : CWD P n w0 c X D L M Γ := fun a w ha hw => h a w (ha.keep hL) hw
/-- Code that defers nothing more. -/
theorem CWD.region {id : Nat} {l : List Oper} (h : RD P n w0 l.toArray l D L M Γ X) : CWD P n w0 (.region id l.toArray false) X D L M Γ :=
  fun a w ha hw => wp_region_lit (h a w ha hw)
theorem RD.of (h : RX P n w0 ops rest L M Γ (X D)) : RD P n w0 ops rest D L M Γ X :=
  fun a w ha hw => wpList_addD (fun _ a _ h => ⟨D, a, rfl, h⟩) rest a w (h a w ha hw)
theorem RD.step {o : Oper} (h : RL P n w0 ops [o] L M Γ fun L' M' Γ' => RD P n w0 ops rest D L' M' Γ' X) : RD P n w0 ops (o :: rest) D L M Γ X := by
  intro a w ha hw
  have h1 := h (Norm fun a w => wpList P ops (RealD n w0 X) rest (addD D a) w) (fun L' M' Γ' hK a' w' ha' hw' => hK a' w' ha' hw') a w ha hw
  unfold wpList at h1 ⊢
  have ht : (addD D a).tmps = a.tmps := rfl
  rw [ht]
  split
  · rename_i hwt
    rw [if_pos hwt] at h1
    rcases h1 with h1 | ⟨_, a, w, hf⟩
    · refine .inl ?_
      unfold Oper.wp at h1 ⊢
      rw [addD_eval]
      exact addD_upon (Q := Norm fun _ _ => False) (fun a w h => h) (fun e a w h => by cases e <;> exact h.elim) (upon_norm h1)
    · exact hf.elim
  · rename_i hwt
    rw [if_neg hwt] at h1
    rw [addD_put]
    exact h1
/-- A deferred call is laid down. -/
theorem RD.defer {o : Oper} {d : Deferred} {t : Nat} (hg : Want ops L o true) (hd : o.dst = some t) (ht : Nat.blt t n = true) (hy : ∀ n a w, Sat n L a → St w0 M Γ w → (execOp a.eval o).run P w = .ok (.defer d) w) (h : RD P n w0 ops rest (d :: D) ((t, undef) :: L) M Γ X) : RD P n w0 ops (o :: rest) D L M Γ X := by
  intro a w ha hw
  unfold wpList
  have ht' : (addD D a).tmps = a.tmps := rfl
  rw [ht', if_pos (hg.spec ha)]
  refine .inl ?_
  unfold Oper.wp
  rw [addD_eval, hy n a w ha hw]
  have e : ({ addD D a with defers := d :: (addD D a).defers } : Act).put o.dst undef = addD (d :: D) (a.put (some t) undef) := by
    rw [hd]
    have := ha.defers
    show ({ tmps := a.tmps.setIfInBounds t undef, defers := d :: (a.defers ++ D) } : Act) = { tmps := a.tmps.setIfInBounds t undef, defers := a.defers ++ d :: D }
    rw [this]; rfl
  show wpList P ops (RealD n w0 X) rest (({ addD D a with defers := d :: (addD D a).defers } : Act).put o.dst undef) w
  rw [e]
  exact h _ _ (ha.put ht) hw
theorem RD.defer0 {o : Oper} {d : Deferred} (hg : Want ops L o true) (hd : o.dst = none) (hy : ∀ n a w, Sat n L a → St w0 M Γ w → (execOp a.eval o).run P w = .ok (.defer d) w) (h : RD P n w0 ops rest (d :: D) L M Γ X) : RD P n w0 ops (o :: rest) D L M Γ X := by
  intro a w ha hw
  unfold wpList
  have ht' : (addD D a).tmps = a.tmps := rfl
  rw [ht', if_pos (hg.spec ha)]
  refine .inl ?_
  unfold Oper.wp
  rw [addD_eval, hy n a w ha hw]
  have e : ({ addD D a with defers := d :: (addD D a).defers } : Act).put o.dst undef = addD (d :: D) a := by
    rw [hd]
    have := ha.defers
    show ({ tmps := a.tmps, defers := d :: (a.defers ++ D) } : Act) = { tmps := a.tmps, defers := a.defers ++ d :: D }
    rw [this]; rfl
  show wpList P ops (RealD n w0 X) rest (({ addD D a with defers := d :: (addD D a).defers } : Act).put o.dst undef) w
  rw [e]
  exact h _ _ ha hw
theorem RD.done (h : X D .normal L M Γ) : RD P n w0 ops [] D L M Γ X := fun a _ ha hw => ⟨D, a, rfl, L, M, Γ, h, ha, hw⟩
end
/-- A function that defers: at its door, the deferred calls and the state. -/
theorem enterD {P : Program} {f : FuncId} {fn : Func} {c : Code} {args : List Value} {w0 : World} {M : Mem} {Γ : List As} {n : Nat} {R : Ending → World → Prop} {X : DPst}
    (hf : P.funcs[f]? = some fn) (hb : fn.body = some c) (hn : fn.ntmps = n) (ha : Nat.ble args.length n = true)
    (h : CWD P n w0 c X [] (slotsOf 0 args) M Γ)
    (hr : ∀ D L M' Γ' tmps w', (∀ t v, getL L t = some v → tmps[t]? = some v) → St w0 M' Γ' w' → (X D .normal L M' Γ' ∨ X D .ret L M' Γ') → Leaves P fn tmps R D .returning w')
    (hp : ∀ D L M' Γ' tmps w' ch, (∀ t v, getL L t = some v → tmps[t]? = some v) → St w0 M' Γ' w' → X D (.panic ch) L M' Γ' → Leaves P fn tmps R D (.panicking ch) w')
    (ho : ∀ D e L M' Γ', X D e L M' Γ' → e = .normal ∨ e = .ret ∨ ∃ ch, e = .panic ch) : ∀ w, St w0 M Γ w → Calls P f args.toArray w R := by
  intro w hw
  refine calls_of_wp_defers hf hb ?_
  rw [hn]
  refine wp_mono (h _ w (sat_start n args ha) hw) ?_
  rintro e a' w' ⟨D, a0, rfl, L, M1, Γ1, hX, h1, h2⟩
  have hd : (addD D a0).defers = D := by show a0.defers ++ D = D; rw [h1.defers]; rfl
  rcases ho D e L M1 Γ1 hX with rfl | rfl | ⟨ch, rfl⟩
  · show Leaves P fn a0.tmps R (addD D a0).defers .returning w'
    rw [hd]; exact hr D L M1 Γ1 _ w' h1.get h2 (.inl hX)
  · show Leaves P fn a0.tmps R (addD D a0).defers .returning w'
    rw [hd]; exact hr D L M1 Γ1 _ w' h1.get h2 (.inr hX)
  · show Leaves P fn a0.tmps R (addD D a0).defers (.panicking ch) w'
    rw [hd]; exact hp D L M1 Γ1 _ w' ch h1.get h2 hX
end Xe
