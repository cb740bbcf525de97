/-
  THE ENGINE, PART L: tables of numbers whose rows are written: read by calls, sealed, grown. No program in sight.
-/
import Derived.Test.YtjkcjbicleohkaaPure
namespace Xe
open Go

theorem CallOk.mono {P : Program} {w0 : World} {M : Mem} {Γ : List As} {f : FuncId} {args : Array Value} {R R' : Post} (h : CallOk P w0 M Γ f args R) (hr : ∀ v M' Γ', R v M' Γ' → R' v M' Γ') : CallOk P w0 M Γ f args R' :=
  fun w hw => (h w hw).mono fun _ _ ⟨v, M', Γ', h1, h2, h3⟩ => ⟨v, M', Γ', h1, hr _ _ _ h2, h3⟩
theorem mat_owns (l : List (Nat × List Int)) : ∀ x ∈ mat l, x.owns := fun x hx => by
  obtain ⟨p, _, rfl⟩ := List.mem_map.1 hx
  trivial
theorem mat_snoc (l : List (Nat × List Int)) (p : Nat × List Int) : mat (l ++ [p]) = mat l ++ [.own p.1 3 (ints p.2)] := by simp [mat]
theorem mat_in {l : List (Nat × List Int)} {p : Nat × List Int} (h : p ∈ l) : As.own p.1 3 (ints p.2) ∈ mat l := List.mem_map.2 ⟨p, h, rfl⟩
abbrev rows (l : List (Nat × List Int)) : List (List Int) := l.map (·.2)

theorem dints_eq (r : List Int) : dints r = .sl r.length 1 (r.map fun n => .v (.int .i64 n)) := rfl
theorem Lent.rowL {w0 : World} {M M' : Mem} {Γs Γ : List As} (h : Lent w0 M Γs Γ M') : ∀ (l : List (Nat × List Int)), (∀ p ∈ l, As.own p.1 3 (ints p.2) ∈ Γs) → (∀ p ∈ l, p.2.length ≤ lim) → RdL M' ((rows l).map dints) (l.map rowv)
  | [], _, _ => RdL.nil _
  | p :: l, h1, h2 => by
    refine RdL.cons ?_ (Lent.rowL h l (fun q hq => h1 q (List.mem_cons_of_mem _ hq)) fun q hq => h2 q (List.mem_cons_of_mem _ hq))
    exact h.own (h1 p (List.mem_cons_self ..)) (ints_rd p.2) (by simp) (h2 p (List.mem_cons_self ..))
/-- A lent table reads as its numbers. -/
theorem Lent.tab {w0 : World} {M M' : Mem} {Γ : List As} {bO : Nat} {l : List (Nat × List Int)} (h : Lent w0 M (.own bO 22 (l.map rowv) :: mat l) Γ M') (h1 : ∀ p ∈ l, p.2.length ≤ lim) (h2 : l.length ≤ lim) :
    Rd M' (dtab (rows l)) (.slice (some ⟨bO, 0, none⟩) l.length l.length) := by
  have hr := h.rowL l (fun p hp => List.mem_cons_of_mem _ (mat_in hp)) h1
  have := h.own (n := l.length) (sz := 1) (List.mem_cons_self ..) hr (by simp) h2
  unfold dtab
  rwa [List.length_map]
theorem Lent.tabAcc {w0 : World} {M M' : Mem} {Γ : List As} {u : Value} {n : Nat} {l : List (Nat × List Int)} (h : Lent w0 M (.acc u 22 1 n (l.map rowv) :: mat l) Γ M') (h1 : ∀ p ∈ l, p.2.length ≤ lim) (h2 : l.length ≤ lim) (hn : n = l.length) :
    Rd M' (dtab (rows l)) u := by
  subst hn
  have hr := h.rowL l (fun p hp => List.mem_cons_of_mem _ (mat_in hp)) h1
  have := h.acc (List.mem_cons_self ..) hr h2
  unfold dtab
  rwa [List.length_map]

section
variable {P : Program} {n : Nat} {w0 : World} {X : Pst} {L : Lm} {M : Mem} {Γ : List As} {c : Code}
/-- The table is from now on only read. -/
theorem CW.sealTab {R : List As} {bO : Nat} {l : List (Nat × List Int)} (hp : List.Perm Γ ((.own bO 22 (l.map rowv) :: mat l) ++ R)) (h1 : ∀ p ∈ l, p.2.length ≤ lim) (h2 : l.length ≤ lim)
    (h : ∀ M', Sub M M' → Rd M' (dtab (rows l)) (.slice (some ⟨bO, 0, none⟩) l.length l.length) → CW P n w0 c X L M' R) : CW P n w0 c X L M Γ := by
  refine CW.turn (F := fun M' Γ' => Sub M M' ∧ Rd M' (dtab (rows l)) (.slice (some ⟨bO, 0, none⟩) l.length l.length) ∧ Γ' = R) (fun _ hw => ?_) ?_
  · obtain ⟨M', k1, k2⟩ := St.lend _ (fun x hx => by
      rcases List.mem_cons.1 hx with rfl | hx
      · trivial
      · exact mat_owns l x hx) (hw.perm hp)
    exact ⟨M', R, ⟨k1.sub, k1.tab h1 h2, rfl⟩, k2⟩
  · rintro M' _ ⟨k1, k2, rfl⟩
    exact h M' k1 k2
theorem Turn.sealTabAcc {R : List As} {u : Value} {k : Nat} {l : List (Nat × List Int)} {F : Mem → List As → Prop} (hp : List.Perm Γ ((.acc u 22 1 k (l.map rowv) :: mat l) ++ R)) (h1 : ∀ p ∈ l, p.2.length ≤ lim) (h2 : l.length ≤ lim) (hk : k = l.length)
    {Γ' : List As} (hs : List.Sublist Γ' R) (h : ∀ M', Sub M M' → Rd M' (dtab (rows l)) u → F M' Γ') : Turn w0 M Γ F := fun w hw => by
  obtain ⟨M', k1, k2⟩ := St.lend _ (fun x hx => by
      rcases List.mem_cons.1 hx with rfl | hx
      · trivial
      · exact mat_owns l x hx) (hw.perm hp)
  exact ⟨M', Γ', h M' k1.sub (k1.tabAcc h1 h2 hk), k2.sub hs⟩
/-- A row more. -/
theorem CW.matPush {R : List As} (pre : List As) {l : List (Nat × List Int)} (p : Nat × List Int) (h : CW P n w0 c X L M (pre ++ (mat (l ++ [p]) ++ R))) : CW P n w0 c X L M (.own p.1 3 (ints p.2) :: (pre ++ (mat l ++ R))) :=
  h.pre (Keep.refl L) fun _ hw => hw.perm (by
    rw [mat_snoc]
    refine List.Perm.trans (List.perm_middle (l₁ := pre)).symm ?_
    refine List.Perm.append_left pre ?_
    simpa using (List.perm_middle (l₁ := mat l)).symm)
end
theorem tab_perm {x : As} {l : List (Nat × List Int)} (R : List As) : List.Perm (x :: (mat l ++ R)) ((x :: mat l) ++ R) := List.Perm.refl _
theorem sub_head {x : As} {Γ : List As} : List.Sublist [x] (x :: Γ) := List.Sublist.cons_cons x (List.nil_sublist _)
theorem rows_set {l : List (Nat × List Int)} {i : Nat} {b : Nat} {r : List Int} (_h : l[i]? = some (b, r)) (r' : List Int) : rows (l.set i (b, r')) = (rows l).set i r' := by simp [rows, List.map_set]
theorem rowv_set {l : List (Nat × List Int)} {i : Nat} {b : Nat} {r : List Int} (h : l[i]? = some (b, r)) {r' : List Int} (hl : r'.length = r.length) : (l.set i (b, r')).map rowv = l.map rowv := by
  rw [List.map_set]
  apply List.ext_getElem?
  intro k
  rw [List.getElem?_set]
  split
  · rename_i e
    subst e
    split
    · simp [h, rowv, hl]
    · rename_i hlt
      simp at hlt
      simp [hlt]
  · rfl
theorem rows_get {l : List (Nat × List Int)} {i : Nat} {b : Nat} {r : List Int} (h : l[i]? = some (b, r)) : (rows l)[i]? = some r := by simp [rows, h]
theorem rows_ex {l : List (Nat × List Int)} {i : Nat} (h : i < l.length) : ∃ b r, l[i]? = some (b, r) := ⟨l[i].1, l[i].2, by simp [h]⟩
section
variable {P : Program} {n : Nat} {w0 : World} {ops : Array Oper} {Mc : Mem} {Γc : List As} {fuel : Nat} {listed : Array Bool} {L : Lm} {M : Mem} {Γ : List As} {K : Lm → Mem → List As → Prop}
theorem HL.step3 (i j k : Nat) {oi oj ok : Oper} (hi : ops[i]? = some oi) (hj : ops[j]? = some oj) (hk : ops[k]? = some ok) (hr : Region.ready .any ops listed = [i, j, k])
    (gi : RL P n w0 ops [oi] L M Γ (fun L' M' Γ' => ((∃ w, St w0 Mc Γc w) → ∀ w, St w0 M' Γ' w → St w0 Mc Γc w) ∧ HL P n w0 ops Mc Γc fuel (listed.setIfInBounds i true) L' M' Γ' K))
    (gj : RL P n w0 ops [oj] L M Γ (fun L' M' Γ' => ((∃ w, St w0 Mc Γc w) → ∀ w, St w0 M' Γ' w → St w0 Mc Γc w) ∧ HL P n w0 ops Mc Γc fuel (listed.setIfInBounds j true) L' M' Γ' K))
    (gk : RL P n w0 ops [ok] L M Γ (fun L' M' Γ' => ((∃ w, St w0 Mc Γc w) → ∀ w, St w0 M' Γ' w → St w0 Mc Γc w) ∧ HL P n w0 ops Mc Γc fuel (listed.setIfInBounds k true) L' M' Γ' K)) : HL P n w0 ops Mc Γc (fuel + 1) listed L M Γ K := by
  intro hex R hR a w ha hw hc
  refine wpAnyH_all hr (by simp) fun x hx => ?_
  simp only [List.mem_cons, List.not_mem_nil, or_false] at hx
  rcases hx with rfl | rfl | rfl
  · exact wpOp_of_RL hi gi (fun L' M' Γ' hK a' w' ha' hw' => ⟨hK.1 hex w' hw', hK.2 hex R hR a' w' ha' hw' (hK.1 hex w' hw')⟩) ha hw
  · exact wpOp_of_RL hj gj (fun L' M' Γ' hK a' w' ha' hw' => ⟨hK.1 hex w' hw', hK.2 hex R hR a' w' ha' hw' (hK.1 hex w' hw')⟩) ha hw
  · exact wpOp_of_RL hk gk (fun L' M' Γ' hK a' w' ha' hw' => ⟨hK.1 hex w' hw', hK.2 hex R hR a' w' ha' hw' (hK.1 hex w' hw')⟩) ha hw
theorem HL.step4 (i j k l : Nat) {oi oj ok ol : Oper} (hi : ops[i]? = some oi) (hj : ops[j]? = some oj) (hk : ops[k]? = some ok) (hl : ops[l]? = some ol) (hr : Region.ready .any ops listed = [i, j, k, l])
    (gi : RL P n w0 ops [oi] L M Γ (fun L' M' Γ' => ((∃ w, St w0 Mc Γc w) → ∀ w, St w0 M' Γ' w → St w0 Mc Γc w) ∧ HL P n w0 ops Mc Γc fuel (listed.setIfInBounds i true) L' M' Γ' K))
    (gj : RL P n w0 ops [oj] L M Γ (fun L' M' Γ' => ((∃ w, St w0 Mc Γc w) → ∀ w, St w0 M' Γ' w → St w0 Mc Γc w) ∧ HL P n w0 ops Mc Γc fuel (listed.setIfInBounds j true) L' M' Γ' K))
    (gk : RL P n w0 ops [ok] L M Γ (fun L' M' Γ' => ((∃ w, St w0 Mc Γc w) → ∀ w, St w0 M' Γ' w → St w0 Mc Γc w) ∧ HL P n w0 ops Mc Γc fuel (listed.setIfInBounds k true) L' M' Γ' K))
    (gl : RL P n w0 ops [ol] L M Γ (fun L' M' Γ' => ((∃ w, St w0 Mc Γc w) → ∀ w, St w0 M' Γ' w → St w0 Mc Γc w) ∧ HL P n w0 ops Mc Γc fuel (listed.setIfInBounds l true) L' M' Γ' K)) : HL P n w0 ops Mc Γc (fuel + 1) listed L M Γ K := by
  intro hex R hR a w ha hw hc
  refine wpAnyH_all hr (by simp) fun x hx => ?_
  simp only [List.mem_cons, List.not_mem_nil, or_false] at hx
  rcases hx with rfl | rfl | rfl | rfl
  · exact wpOp_of_RL hi gi (fun L' M' Γ' hK a' w' ha' hw' => ⟨hK.1 hex w' hw', hK.2 hex R hR a' w' ha' hw' (hK.1 hex w' hw')⟩) ha hw
  · exact wpOp_of_RL hj gj (fun L' M' Γ' hK a' w' ha' hw' => ⟨hK.1 hex w' hw', hK.2 hex R hR a' w' ha' hw' (hK.1 hex w' hw')⟩) ha hw
  · exact wpOp_of_RL hk gk (fun L' M' Γ' hK a' w' ha' hw' => ⟨hK.1 hex w' hw', hK.2 hex R hR a' w' ha' hw' (hK.1 hex w' hw')⟩) ha hw
  · exact wpOp_of_RL hl gl (fun L' M' Γ' hK a' w' ha' hw' => ⟨hK.1 hex w' hw', hK.2 hex R hR a' w' ha' hw' (hK.1 hex w' hw')⟩) ha hw
theorem HL.step5 (i j k l m : Nat) {oi oj ok ol om : Oper} (hi : ops[i]? = some oi) (hj : ops[j]? = some oj) (hk : ops[k]? = some ok) (hl : ops[l]? = some ol) (hm : ops[m]? = some om) (hr : Region.ready .any ops listed = [i, j, k, l, m])
    (gi : RL P n w0 ops [oi] L M Γ (fun L' M' Γ' => ((∃ w, St w0 Mc Γc w) → ∀ w, St w0 M' Γ' w → St w0 Mc Γc w) ∧ HL P n w0 ops Mc Γc fuel (listed.setIfInBounds i true) L' M' Γ' K))
    (gj : RL P n w0 ops [oj] L M Γ (fun L' M' Γ' => ((∃ w, St w0 Mc Γc w) → ∀ w, St w0 M' Γ' w → St w0 Mc Γc w) ∧ HL P n w0 ops Mc Γc fuel (listed.setIfInBounds j true) L' M' Γ' K))
    (gk : RL P n w0 ops [ok] L M Γ (fun L' M' Γ' => ((∃ w, St w0 Mc Γc w) → ∀ w, St w0 M' Γ' w → St w0 Mc Γc w) ∧ HL P n w0 ops Mc Γc fuel (listed.setIfInBounds k true) L' M' Γ' K))
    (gl : RL P n w0 ops [ol] L M Γ (fun L' M' Γ' => ((∃ w, St w0 Mc Γc w) → ∀ w, St w0 M' Γ' w → St w0 Mc Γc w) ∧ HL P n w0 ops Mc Γc fuel (listed.setIfInBounds l true) L' M' Γ' K))
    (gm : RL P n w0 ops [om] L M Γ (fun L' M' Γ' => ((∃ w, St w0 Mc Γc w) → ∀ w, St w0 M' Γ' w → St w0 Mc Γc w) ∧ HL P n w0 ops Mc Γc fuel (listed.setIfInBounds m true) L' M' Γ' K)) : HL P n w0 ops Mc Γc (fuel + 1) listed L M Γ K := by
  intro hex R hR a w ha hw hc
  refine wpAnyH_all hr (by simp) fun x hx => ?_
  simp only [List.mem_cons, List.not_mem_nil, or_false] at hx
  rcases hx with rfl | rfl | rfl | rfl | rfl
  · exact wpOp_of_RL hi gi (fun L' M' Γ' hK a' w' ha' hw' => ⟨hK.1 hex w' hw', hK.2 hex R hR a' w' ha' hw' (hK.1 hex w' hw')⟩) ha hw
  · exact wpOp_of_RL hj gj (fun L' M' Γ' hK a' w' ha' hw' => ⟨hK.1 hex w' hw', hK.2 hex R hR a' w' ha' hw' (hK.1 hex w' hw')⟩) ha hw
  · exact wpOp_of_RL hk gk (fun L' M' Γ' hK a' w' ha' hw' => ⟨hK.1 hex w' hw', hK.2 hex R hR a' w' ha' hw' (hK.1 hex w' hw')⟩) ha hw
  · exact wpOp_of_RL hl gl (fun L' M' Γ' hK a' w' ha' hw' => ⟨hK.1 hex w' hw', hK.2 hex R hR a' w' ha' hw' (hK.1 hex w' hw')⟩) ha hw
  · exact wpOp_of_RL hm gm (fun L' M' Γ' hK a' w' ha' hw' => ⟨hK.1 hex w' hw', hK.2 hex R hR a' w' ha' hw' (hK.1 hex w' hw')⟩) ha hw
end
theorem Y.loadAggP {P : Program} {w0 : World} {L : Lm} {M : Mem} {Γ : List As} {d : Option Nat} {ty : TypeId} {pos : String} {af : Array Edge} {g : Option (Nat × Bool)} {x : Operand} {t : TypeId} {n sz : Nat} {cs : List D} {a : Option Addr} {l c q : Nat} (vs : List Value) (hx : evL L x = some (.pointer (some (adr a q)))) (hr : Rd M (.sl n sz cs) (.slice a l c)) (hq : (cs.drop q).take vs.length = vs.map D.v) (hf : aggB P t vs.length = true) :
    Yq P w0 L M Γ ⟨d, .load t x, ty, pos, af, g⟩ (.agg vs.toArray) := Y.loadAgg hx hf fun w hw j v hj => by
      obtain ⟨u, h1, h2⟩ := hr.cell (sub_get hq (Y.vs_get hj))
      simp only [Rd] at h2
      rw [← h2.1, adr_add]
      exact hw.cell h1
theorem RL.sealOwn {P : Program} {n : Nat} {w0 : World} {ops : Array Oper} {rest : List Oper} {L : Lm} {M : Mem} {Γ R : List As} {K : Lm → Mem → List As → Prop} {b k : Nat} {e : TypeId} {sz : Nat} {us : List Value} {ds : List D} (hp : Pick (.own b e us) Γ R) (hr : RdL M ds us) (hl : us.length = k * sz) (hn : k ≤ lim)
    (h : ∀ M', Sub M M' → Rd M' (.sl k sz ds) (.slice (some ⟨b, 0, none⟩) k k) → RL P n w0 ops rest L M' R K) : RL P n w0 ops rest L M Γ K := by
  refine RL.turn (F := fun M' Γ' => Sub M M' ∧ Rd M' (.sl k sz ds) (.slice (some ⟨b, 0, none⟩) k k) ∧ Γ' = R) (fun _ hw => ?_) ?_
  · obtain ⟨M', h1, h2, h3⟩ := (hw.perm hp.perm).seal_own hr hl hn
    exact ⟨M', _, ⟨h1, h2, rfl⟩, h3.sub (List.sublist_cons_self _ _)⟩
  · rintro M' _ ⟨h1, h2, rfl⟩
    exact h M' h1 h2
theorem fill3 {sz : Nat} {v v' v'' : Value} {out out' out'' : List Value} (h : cellsL v = out) (hl : out.length = sz) (h' : cellsL v' = out') (hl' : out'.length = sz) (h'' : cellsL v'' = out'') (hl'' : out''.length = sz) : ∀ zs : List Value, zs.length = 3 * sz → fillL (fun i => some (i * sz, sz)) zs ([(0, v), (1, v'), (2, v'')].map fun p => (p.1, cellsL p.2)) = some (out ++ out' ++ out'') := fun zs hz => by
  have h1 : (splice zs 0 out).length = 3 * sz := by rw [splice_length (by omega), hz]
  have h2 : (splice (splice zs 0 out) sz out').length = 3 * sz := by rw [splice_length (by omega), h1]
  simp only [List.map_cons, List.map_nil, h, h', h'', fillL, hl, hl', hl'', hz, Nat.zero_mul, Nat.zero_add, Nat.one_mul]
  rw [if_pos ⟨trivial, by omega⟩, h1, if_pos ⟨trivial, by omega⟩, h2, if_pos ⟨trivial, by omega⟩]
  congr 1
  have e0 : splice zs 0 out = out ++ zs.drop sz := by simp [splice, hl]
  have e1 : splice (out ++ zs.drop sz) sz out' = out ++ out' ++ zs.drop (sz + sz) := by
    simp only [splice, hl']
    rw [List.take_append_of_le_length (by omega), List.take_of_length_le (by omega), List.drop_append, List.drop_of_length_le (by omega), hl, List.drop_drop]
    simp only [List.nil_append]
    congr 2
    omega
  rw [e0, e1]
  simp only [splice, hl'']
  have el : (out ++ out').length = 2 * sz := by simp [hl, hl']; omega
  rw [List.take_append_of_le_length (by omega), List.take_of_length_le (by omega), List.drop_of_length_le (by simp [hl, hl', hz]; omega)]
  simp
theorem tdiv_in (z : Int) (h : -9223372036854775808 ≤ z ∧ z ≤ 9223372036854775807) : -9223372036854775808 ≤ z.tdiv 16 ∧ z.tdiv 16 ≤ 9223372036854775807 := by
  by_cases h0 : 0 ≤ z
  · rw [Int.tdiv_eq_ediv_of_nonneg h0]; omega
  · have e : z.tdiv 16 = -((-z) / 16) := by
      rw [← Int.tdiv_eq_ediv_of_nonneg (by omega), Int.neg_tdiv]; omega
    rw [e]; omega
end Xe
