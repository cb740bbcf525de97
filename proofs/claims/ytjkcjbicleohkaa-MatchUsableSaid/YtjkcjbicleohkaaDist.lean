/- THE LEAST COST IS A DISTANCE, plain. No program in sight. -/
import Derived.Test.YtjkcjbicleohkaaLives
namespace Xe
open Go

/-! ### There is a best match -/
theorem dn_row {a b : List MNode} (ha : Whole a) (hb : Whole b) (hl : a.length + b.length ≤ 1000) {i : Nat} (hi : i < a.length) (h0 : ∃ d, Dn a b a.length i 0 d) : ∀ j, j ≤ b.length → ∃ d, Dn a b a.length i j d
  | 0, _ => h0
  | j + 1, hj => by
    obtain ⟨d, hd⟩ := dn_row ha hb hl hi h0 j (by omega)
    have hlt : i < d.length := by rw [hd.len]; exact hi
    exact ⟨_, hd.set ha.post hb.post (Nat.le_refl _) hi (by omega) hl (List.getElem?_eq_getElem hlt)⟩
theorem dn_all {a b : List MNode} (ha : Whole a) (hb : Whole b) (hl : a.length + b.length ≤ 1000) : ∀ i, i ≤ a.length → ∃ d, Dn a b a.length i 0 d
  | 0, _ => ⟨_, Dn.start a b a.length⟩
  | i + 1, hi => by
    obtain ⟨d, hd⟩ := dn_row ha hb hl (show i < a.length by omega) (dn_all ha hb hl i (by omega)) b.length (Nat.le_refl _)
    exact ⟨d, hd.next⟩
theorem fix_exists {a b : List MNode} (ha : Whole a) (hb : Whole b) (hl : a.length + b.length ≤ 1000) : ∃ d, FixD a b d := by
  obtain ⟨d, hd⟩ := dn_all ha hb hl a.length (Nat.le_refl _)
  exact ⟨d, hd.done⟩
theorem tr_exists {a b : List MNode} {d : List (List Int)} (ha : Post1 a) (hb : Post1 b) : ∀ (S i j : Nat), i + j = S → i < a.length → j < b.length → ∀ (N x y : Nat) (t : List Int), x + y = N → x ≤ sizeAt a i → y ≤ sizeAt b j → ∃ t', Tr a b d i j x y t t' := by
  intro S
  induction S using Nat.strongRecOn with
  | _ S ihS =>
  intro i j hS hi hj N
  induction N using Nat.strongRecOn with
  | _ N ihN =>
  intro x y t hN hx hy
  have hpi := ha i hi
  have hpj := hb j hj
  have hsi : sizeAt a i = i - fstAt a i + 1 := rfl
  have hsj : sizeAt b j = j - fstAt b j + 1 := rfl
  by_cases h0 : x = 0 ∨ y = 0
  · exact ⟨t, .stop h0⟩
  by_cases h1 : dp a b d i j x y = dp a b d i j (x - 1) y + 1
  · obtain ⟨t', h⟩ := ihN (x - 1 + y) (by omega) (x - 1) y t rfl (by omega) hy
    exact ⟨t', .up (by omega) (by omega) h1 h⟩
  by_cases h2 : dp a b d i j x y = dp a b d i j x (y - 1) + 1
  · obtain ⟨t', h⟩ := ihN (x + (y - 1)) (by omega) x (y - 1) t rfl hx (by omega)
    exact ⟨t', .left (by omega) (by omega) h2 h⟩
  by_cases hr : fstAt a i + x - 1 = i ∧ fstAt b j + y - 1 = j
  · obtain ⟨t', h⟩ := ihN (x - 1 + (y - 1)) (by omega) (x - 1) (y - 1) (t.set i j) rfl (by omega) (by omega)
    exact ⟨t', .pair (by omega) (by omega) h1 h2 hr.1 hr.2 h⟩
  · have hv : fstAt a i + x - 1 < a.length := by omega
    have hw : fstAt b j + y - 1 < b.length := by omega
    have hpv := ha _ hv
    have hpw := hb _ hw
    have hfv := hpi.2 (fstAt a i + x - 1) (by omega) (by omega)
    have hfw := hpj.2 (fstAt b j + y - 1) (by omega) (by omega)
    obtain ⟨t1, g1⟩ := ihS (fstAt a i + x - 1 + (fstAt b j + y - 1)) (by omega) _ _ rfl hv hw _ (sizeAt a (fstAt a i + x - 1)) (sizeAt b (fstAt b j + y - 1)) t rfl (Nat.le_refl _) (Nat.le_refl _)
    obtain ⟨t', g2⟩ := ihN ((fstAt a (fstAt a i + x - 1) - fstAt a i) + (fstAt b (fstAt b j + y - 1) - fstAt b j)) (by omega) (fstAt a (fstAt a i + x - 1) - fstAt a i) (fstAt b (fstAt b j + y - 1) - fstAt b j) t1 rfl (by omega) (by omega)
    exact ⟨t', .part (by omega) (by omega) h1 h2 hr g1 g2⟩
theorem best_exists {a b : List MNode} (ha : Whole a) (hb : Whole b) (hl : a.length + b.length ≤ 1000) : ∃ d n Q, Best a b d n Q := by
  obtain ⟨d, hd⟩ := fix_exists ha hb hl
  have h1 := ha.pos
  have h2 := hb.pos
  obtain ⟨t, ht⟩ := tr_exists (d := d) ha.post hb.post _ (a.length - 1) (b.length - 1) rfl (by omega) (by omega) _ (sizeAt a (a.length - 1)) (sizeAt b (b.length - 1)) (List.replicate a.length (-1)) rfl (Nat.le_refl _) (Nat.le_refl _)
  exact ⟨d, _, _, best_of ha hb hd ht⟩

/-! ### The least cost as a number -/
theorem best_ex {e1 e2 : Ex} (hg : good e1 ∧ good e2) : ∃ n d Q, Best (pon e1 0) (pon e2 0) d n Q := by
  obtain ⟨d, n, Q, h⟩ := best_exists (pon_whole e1) (pon_whole e2) (by have := pon_le hg.1; have := pon_le hg.2; omega)
  exact ⟨n, d, Q, h⟩
open Classical in
noncomputable def leastV (e1 e2 : Ex) : Int := if h : good e1 ∧ good e2 then (best_ex h).choose else -1
theorem leastV_best {e1 e2 : Ex} (hg : good e1 ∧ good e2) : ∃ d Q, Best (pon e1 0) (pon e2 0) d (leastV e1 e2) Q := by
  rw [leastV, dif_pos hg]
  exact (best_ex hg).choose_spec
theorem leastV_bad {e1 e2 : Ex} (hg : ¬ (good e1 ∧ good e2)) : leastV e1 e2 = -1 := by rw [leastV, dif_neg hg]
theorem best_unique {a b : List MNode} (ha : Whole a) (hb : Whole b) {d d' : List (List Int)} {n n' : Int} {Q Q' : List (Nat × Nat)} (h : Best a b d n Q) (h' : Best a b d' n' Q') : n = n' := by
  have hd := h.fix.unique ha.post hb.post h'.fix
  subst hd
  rw [h.root, h'.root]
theorem leastV_eq {e1 e2 : Ex} (hg : good e1 ∧ good e2) {d : List (List Int)} {n : Int} {Q : List (Nat × Nat)} (h : Best (pon e1 0) (pon e2 0) d n Q) : leastV e1 e2 = n := by
  obtain ⟨d', Q', h'⟩ := leastV_best hg
  exact best_unique (pon_whole e1) (pon_whole e2) h' h
/-- Any match bounds it. -/
theorem leastV_le {e1 e2 : Ex} (hg : good e1 ∧ good e2) {P : List (Nat × Nat)} (hP : Mt (pon e1 0) (pon e2 0) 0 0 (pon e1 0).length (pon e2 0).length P) : leastV e1 e2 ≤ costM (pon e1 0) (pon e2 0) (pon e1 0).length (pon e2 0).length P := by
  obtain ⟨d, Q, h⟩ := leastV_best hg
  exact h.least (pon_whole e1) (pon_whole e2) hP
theorem leastV_mt {e1 e2 : Ex} (hg : good e1 ∧ good e2) : ∃ P, Mt (pon e1 0) (pon e2 0) 0 0 (pon e1 0).length (pon e2 0).length P ∧ leastV e1 e2 = costM (pon e1 0) (pon e2 0) (pon e1 0).length (pon e2 0).length P := by
  obtain ⟨d, Q, h⟩ := leastV_best hg
  exact ⟨Q, h.mt, h.cost.symm⟩

/-! ### One and itself -/
def idP (n : Nat) : List (Nat × Nat) := (List.range n).map fun i => (i, i)
theorem like_refl (e : Ex) : e.like e := ⟨rfl, rfl, rfl, rfl⟩
theorem mt_self (a : List MNode) : Mt a a 0 0 a.length a.length (idP a.length) := by
  refine ⟨fun p hp => ?_, ?_⟩
  · obtain ⟨i, hi, rfl⟩ := List.mem_map.1 hp
    rw [List.mem_range] at hi
    simp only []; omega
  · rw [idP, List.pairwise_map]
    refine List.pairwise_lt_range.imp ?_
    intro i j hij
    refine ⟨⟨?_, ?_, ?_⟩, ?_, ?_⟩ <;> simp only [] <;> omega
theorem chgs_self (a : List MNode) : ∀ l : List Nat, chgs a a (l.map fun i => (i, i)) = 0
  | [] => rfl
  | i :: l => by rw [List.map_cons, chgs, chgs_self a l, chg, if_pos (like_refl _)]; rfl
theorem cost_self (a : List MNode) : costM a a a.length a.length (idP a.length) = 0 := by
  rw [costM, idP, chgs_self, List.length_map, List.length_range]; omega
/-- A match that pairs all nodes of one and itself pairs each with itself. -/
theorem all_self {a : List MNode} {Q : List (Nat × Nat)} (h : Mt a a 0 0 a.length a.length Q) (hs : Q.Pairwise (fun p q => p.1 < q.1)) (hl : Q.length = a.length) : ∀ p ∈ Q, p.1 = p.2 := by
  have key : ∀ k (hk : k < Q.length), Q[k].1 = k ∧ Q[k].2 = k := by
    have s1 : ∀ i j (hi : i < Q.length) (hj : j < Q.length), i < j → Q[i].1 < Q[j].1 := fun i j hi hj hij => (List.pairwise_iff_getElem.1 hs) i j hi hj hij
    have s2 : ∀ i j (hi : i < Q.length) (hj : j < Q.length), i < j → Q[i].2 < Q[j].2 := fun i j hi hj hij => by
      have h1 := (List.pairwise_iff_getElem.1 h.pw) i j hi hj hij
      have h2 := s1 i j hi hj hij
      exact h1.1.2.2.1 h2
    have lo : ∀ (f : Nat × Nat → Nat), (∀ i j (hi : i < Q.length) (hj : j < Q.length), i < j → f Q[i] < f Q[j]) → ∀ k (hk : k < Q.length), k ≤ f Q[k] := by
      intro f hf k
      induction k with
      | zero => intro _; omega
      | succ k ih => intro hk; have := ih (by omega); have := hf k (k + 1) (by omega) hk (by omega); omega
    have hi : ∀ (f : Nat × Nat → Nat), (∀ i j (hi : i < Q.length) (hj : j < Q.length), i < j → f Q[i] < f Q[j]) → (∀ p ∈ Q, f p < a.length) → ∀ m k (hk : k < Q.length), k + m + 1 = Q.length → f Q[k] ≤ k := by
      intro f hf hb m
      induction m with
      | zero => intro k hk e; have := hb _ (List.getElem_mem hk); omega
      | succ m ih => intro k hk e; have := ih (k + 1) (by omega) (by omega); have := hf k (k + 1) hk (by omega) (by omega); omega
    intro k hk
    have a1 := lo (·.1) s1 k hk
    have a2 := lo (·.2) s2 k hk
    have b1 := hi (·.1) s1 (fun p hp => by have := h.inn p hp; omega) (Q.length - k - 1) k hk (by omega)
    have b2 := hi (·.2) s2 (fun p hp => by have := h.inn p hp; omega) (Q.length - k - 1) k hk (by omega)
    omega
  intro p hp
  obtain ⟨k, hk, rfl⟩ := List.mem_iff_getElem.1 hp
  have := key k hk
  omega

/-! ### Both directions -/
theorem compat_swap {a b : List MNode} {p q : Nat × Nat} (h : compat a b p q) : compat b a p.swap q.swap := by
  obtain ⟨⟨h1, h2, h3⟩, h4, h5⟩ := h
  exact ⟨⟨h2, h1, h3.symm⟩, h4.symm, h5.symm⟩
theorem like_symm {a b : Ex} (h : a.like b) : b.like a := ⟨h.1.symm, h.2.1.symm, h.2.2.1.symm, h.2.2.2.symm⟩
theorem chg_swap (a b : List MNode) (p : Nat × Nat) : chg b a p.swap = chg a b p := by
  obtain ⟨i, j⟩ := p
  unfold chg
  simp only [Prod.swap]
  by_cases h : (exAt a i).like (exAt b j)
  · rw [if_pos h, if_pos (like_symm h)]
  · rw [if_neg h, if_neg (fun h' => h (like_symm h'))]
theorem mt_swap {a b : List MNode} {x y : Nat} {P : List (Nat × Nat)} (h : Mt a b 0 0 x y P) : Mt b a 0 0 y x (P.map Prod.swap) ∧ costM b a y x (P.map Prod.swap) = costM a b x y P := by
  refine ⟨⟨fun p hp => ?_, ?_⟩, ?_⟩
  · obtain ⟨q, hq, rfl⟩ := List.mem_map.1 hp
    have := h.inn q hq
    simp only [Prod.fst_swap, Prod.snd_swap]; omega
  · rw [List.pairwise_map]
    exact h.pw.imp compat_swap
  · have : ∀ P : List (Nat × Nat), chgs b a (P.map Prod.swap) = chgs a b P := by
      intro P
      induction P with
      | nil => rfl
      | cons p P ih => rw [List.map_cons, chgs, chgs, ih, chg_swap]
    rw [costM, costM, this, List.length_map]
    omega

/-! ### The way by a third one -/
def comp : List (Nat × Nat) → List (Nat × Nat) → List (Nat × Nat)
  | [], _ => []
  | p :: P, Q => match Q.find? (fun q => decide (q.1 = p.2)) with
    | some q => (p.1, q.2) :: comp P (Q.erase q)
    | none => comp P Q
theorem comp_mem : ∀ (P Q : List (Nat × Nat)) (r : Nat × Nat), r ∈ comp P Q → ∃ p ∈ P, ∃ q ∈ Q, q.1 = p.2 ∧ r = (p.1, q.2)
  | [], _, r, h => by simp [comp] at h
  | p :: P, Q, r, h => by
    rw [comp] at h
    cases hf : Q.find? (fun q => decide (q.1 = p.2)) with
    | some q =>
      rw [hf] at h
      simp only [List.mem_cons] at h
      have hq1 : q.1 = p.2 := by have := List.find?_some hf; simpa using this
      rcases h with rfl | h
      · exact ⟨p, List.mem_cons_self .., q, List.mem_of_find?_eq_some hf, hq1, rfl⟩
      · obtain ⟨p', hp', q', hq', e1, e2⟩ := comp_mem P (Q.erase q) r h
        exact ⟨p', List.mem_cons_of_mem _ hp', q', List.mem_of_mem_erase hq', e1, e2⟩
    | none =>
      rw [hf] at h
      obtain ⟨p', hp', q', hq', e1, e2⟩ := comp_mem P Q r h
      exact ⟨p', List.mem_cons_of_mem _ hp', q', hq', e1, e2⟩
theorem compat_comp {a b c : List MNode} {p p' q q' : Nat × Nat} (h : compat a c p p') (h' : compat c b q q') (e : q.1 = p.2) (e' : q'.1 = p'.2) : compat a b (p.1, q.2) (p'.1, q'.2) := by
  obtain ⟨⟨h1, h2, h3⟩, h4, h5⟩ := h
  obtain ⟨⟨k1, k2, k3⟩, k4, k5⟩ := h'
  rw [e, e'] at k3 k4 k5
  exact ⟨⟨h1, k2, h3.trans k3⟩, h4.trans k4, h5.trans k5⟩
theorem comp_pw {a b c : List MNode} : ∀ (P Q : List (Nat × Nat)), P.Pairwise (compat a c) → Q.Pairwise (compat c b) → (comp P Q).Pairwise (compat a b)
  | [], _, _, _ => by simp [comp]
  | p :: P, Q, hP, hQ => by
    have hP' := List.pairwise_cons.1 hP
    rw [comp]
    cases hf : Q.find? (fun q => decide (q.1 = p.2)) with
    | none => exact comp_pw P Q hP'.2 hQ
    | some q =>
      have hq1 : q.1 = p.2 := by have := List.find?_some hf; simpa using this
      have hqm := List.mem_of_find?_eq_some hf
      have hperm := List.perm_cons_erase hqm
      have hQ2 := List.pairwise_cons.1 ((hperm.pairwise_iff fun h => compat.symm h).1 hQ)
      refine List.pairwise_cons.2 ⟨fun r hr => ?_, comp_pw P (Q.erase q) hP'.2 hQ2.2⟩
      obtain ⟨p', hp', q', hq', e1, rfl⟩ := comp_mem _ _ _ hr
      exact compat_comp (hP'.1 p' hp') (hQ2.1 q' hq') hq1 e1
theorem like_trans {a b c : Ex} (h : a.like b) (k : b.like c) : a.like c := ⟨h.1.trans k.1, h.2.1.trans k.2.1, h.2.2.1.trans k.2.2.1, h.2.2.2.trans k.2.2.2⟩
theorem chg_comp (a b c : List MNode) (p q : Nat × Nat) (e : q.1 = p.2) : chg a b (p.1, q.2) ≤ chg a c p + chg c b q := by
  have h1 := chg_01 a c p
  have h2 := chg_01 c b q
  have h3 := chg_01 a b (p.1, q.2)
  by_cases h : (exAt a p.1).like (exAt c p.2) ∧ (exAt c q.1).like (exAt b q.2)
  · have : chg a b (p.1, q.2) = 0 := by
      unfold chg
      rw [if_pos]
      exact like_trans h.1 (e ▸ h.2)
    omega
  · have : 1 ≤ chg a c p + chg c b q := by
      by_cases h4 : (exAt a p.1).like (exAt c p.2)
      · have h5 : ¬ (exAt c q.1).like (exAt b q.2) := fun h5 => h ⟨h4, h5⟩
        have : chg c b q = 1 := by unfold chg; rw [if_neg h5]
        omega
      · have : chg a c p = 1 := by unfold chg; rw [if_neg h4]
        omega
    omega
theorem comp_chgs (a b c : List MNode) : ∀ (P Q : List (Nat × Nat)), chgs a b (comp P Q) ≤ chgs a c P + chgs c b Q
  | [], Q => by have := chgs_nonneg c b Q; simp only [comp, chgs]; omega
  | p :: P, Q => by
    rw [comp]
    cases hf : Q.find? (fun q => decide (q.1 = p.2)) with
    | none =>
      have := comp_chgs a b c P Q
      have := chg_01 a c p
      simp only [chgs]; omega
    | some q =>
      have hq1 : q.1 = p.2 := by have := List.find?_some hf; simpa using this
      have h1 := comp_chgs a b c P (Q.erase q)
      have h2 := chg_comp a b c p q hq1
      have h3 := chgs_perm (a := c) (b := b) (List.perm_cons_erase (List.mem_of_find?_eq_some hf))
      simp only [chgs] at h3 ⊢
      omega
theorem comp_len : ∀ (P Q : List (Nat × Nat)), (P.map (·.2)).Nodup → (Q.map (·.1)).Nodup → ∃ U : List Nat, U.Nodup ∧ (∀ x ∈ U, x ∈ P.map (·.2) ∨ x ∈ Q.map (·.1)) ∧ U.length + (comp P Q).length = P.length + Q.length
  | [], Q, _, hQ => ⟨Q.map (·.1), hQ, fun x hx => .inr hx, by simp [comp]⟩
  | p :: P, Q, hP, hQ => by
    rw [List.map_cons, List.nodup_cons] at hP
    rw [comp]
    cases hf : Q.find? (fun q => decide (q.1 = p.2)) with
    | none =>
      obtain ⟨U, u1, u2, u3⟩ := comp_len P Q hP.2 hQ
      refine ⟨p.2 :: U, List.nodup_cons.2 ⟨fun hm => ?_, u1⟩, fun x hx => ?_, by simp only [List.length_cons]; omega⟩
      · rcases u2 _ hm with h | h
        · exact hP.1 h
        · obtain ⟨q, hq, e⟩ := List.mem_map.1 h
          have := List.find?_eq_none.1 hf q hq
          simp at this
          exact this e
      · rcases List.mem_cons.1 hx with rfl | hx
        · exact .inl (List.mem_cons_self ..)
        · exact (u2 x hx).imp (List.mem_cons_of_mem _) id
    | some q =>
      have hq1 : q.1 = p.2 := by have := List.find?_some hf; simpa using this
      have hqm := List.mem_of_find?_eq_some hf
      have hperm := (List.perm_cons_erase hqm).map (·.1)
      have hQ2 := hperm.nodup_iff.1 hQ
      rw [List.map_cons, List.nodup_cons] at hQ2
      obtain ⟨U, u1, u2, u3⟩ := comp_len P (Q.erase q) hP.2 hQ2.2
      have hlen := List.length_erase_of_mem hqm
      have hpos := List.length_pos_of_mem hqm
      refine ⟨p.2 :: U, List.nodup_cons.2 ⟨fun hm => ?_, u1⟩, fun x hx => ?_, by simp only [List.length_cons]; omega⟩
      · rcases u2 _ hm with h | h
        · exact hP.1 h
        · rw [← hq1] at h; exact hQ2.1 h
      · rcases List.mem_cons.1 hx with rfl | hx
        · exact .inl (List.mem_cons_self ..)
        · refine (u2 x hx).imp (List.mem_cons_of_mem _) fun h => hperm.symm.subset (List.mem_cons_of_mem _ h)
theorem mt_comp {a b c : List MNode} {x y z : Nat} {P Q : List (Nat × Nat)} (hP : Mt a c 0 0 x z P) (hQ : Mt c b 0 0 z y Q) : Mt a b 0 0 x y (comp P Q) ∧ costM a b x y (comp P Q) ≤ costM a c x z P + costM c b z y Q := by
  refine ⟨⟨fun r hr => ?_, comp_pw P Q hP.pw hQ.pw⟩, ?_⟩
  · obtain ⟨p, hp, q, hq, e, rfl⟩ := comp_mem _ _ _ hr
    have := hP.inn p hp
    have := hQ.inn q hq
    simp only []; omega
  · have h1 : (P.map (·.2)).Nodup := List.pairwise_map.2 (hP.pw.imp fun hc => hc.1.2.1)
    have h2 : (Q.map (·.1)).Nodup := List.pairwise_map.2 (hQ.pw.imp fun hc => hc.1.1)
    obtain ⟨U, u1, u2, u3⟩ := comp_len P Q h1 h2
    have h3 := nd_bd z U u1 (fun w hw => by
      rcases u2 w hw with h | h
      · obtain ⟨p, hp, rfl⟩ := List.mem_map.1 h; have := hP.inn p hp; omega
      · obtain ⟨q, hq, rfl⟩ := List.mem_map.1 h; have := hQ.inn q hq; omega)
    have h4 := comp_chgs a b c P Q
    simp only [costM]
    omega

/-! ### The laws of the distance -/
theorem leastV_nonneg {a b : Ex} (hg : good a ∧ good b) : 0 ≤ leastV a b ∧ (a.size : Int) - b.size ≤ leastV a b ∧ (b.size : Int) - a.size ≤ leastV a b := by
  obtain ⟨P, h1, h2⟩ := leastV_mt hg
  have := h1.ge
  rw [pon_len, pon_len] at *
  omega
theorem leastV_symm {a b : Ex} (hg : good a ∧ good b) : leastV a b = leastV b a := by
  obtain ⟨P, h1, h2⟩ := leastV_mt hg
  obtain ⟨Q, k1, k2⟩ := leastV_mt ⟨hg.2, hg.1⟩
  have s1 := mt_swap h1
  have s2 := mt_swap k1
  have l1 := leastV_le ⟨hg.2, hg.1⟩ s1.1
  have l2 := leastV_le hg s2.1
  omega
theorem leastV_tri {a b c : Ex} (ha : good a) (hb : good b) (hc : good c) : leastV a b ≤ leastV a c + leastV c b := by
  obtain ⟨P, h1, h2⟩ := leastV_mt ⟨ha, hc⟩
  obtain ⟨Q, k1, k2⟩ := leastV_mt ⟨hc, hb⟩
  obtain ⟨m1, m2⟩ := mt_comp h1 k1
  have := leastV_le ⟨ha, hb⟩ m1
  omega
theorem leastV_up {a b : Ex} (hg : good a ∧ good b) : leastV a b ≤ (a.size : Int) + b.size - 1 := by
  have h1 := (pon_whole a).pos
  have h2 := (pon_whole b).pos
  have hm : Mt (pon a 0) (pon b 0) 0 0 (pon a 0).length (pon b 0).length [((pon a 0).length - 1, (pon b 0).length - 1)] := ⟨fun p hp => by rw [List.mem_singleton.1 hp]; simp only []; omega, by simp⟩
  have h3 := leastV_le hg hm
  have h4 := chg_01 (pon a 0) (pon b 0) ((pon a 0).length - 1, (pon b 0).length - 1)
  simp only [costM, chgs, List.length_singleton, pon_len] at h3 h4
  omega
theorem best_self {a : Ex} {d : List (List Int)} {n : Int} {Q : List (Nat × Nat)} (h : Best (pon a 0) (pon a 0) d n Q) : n = 0 ∧ Q.length = a.size ∧ ∀ p ∈ Q, p.1 = p.2 := by
  have h1 := h.least (pon_whole a) (pon_whole a) (mt_self _)
  rw [cost_self] at h1
  have h2 := h.mt.ge
  have h3 := h.mt.len
  have h4 := h.cost
  have h5 := chgs_nonneg (pon a 0) (pon a 0) Q
  rw [h4] at h2
  rw [costM] at h4
  have hl : Q.length = (pon a 0).length := by omega
  refine ⟨by omega, by rw [hl, pon_len], all_self h.mt h.sorted hl⟩
end Xe
