/- MATCHES AND THEIR COSTS, plain: the tables give the least cost. No program in sight. -/
import Derived.Test.YtjkcjbicleohkaaPon
namespace Xe
open Go

theorem compat.symm {a b : List MNode} {p q : Nat × Nat} (h : compat a b p q) : compat a b q p := by
  obtain ⟨⟨h1, h2, h3⟩, h4, h5⟩ := h
  exact ⟨⟨fun e => h1 e.symm, fun e => h2 e.symm, by omega⟩, h5, h4⟩
theorem compat.irr {a b : List MNode} {p : Nat × Nat} : ¬ compat a b p p := fun h => h.1.1 rfl

/-- A match between the parts from la, lb on, of x and y nodes. -/
structure Mt (a b : List MNode) (la lb x y : Nat) (P : List (Nat × Nat)) : Prop where
  inn : ∀ p ∈ P, la ≤ p.1 ∧ p.1 < la + x ∧ lb ≤ p.2 ∧ p.2 < lb + y
  pw : P.Pairwise (compat a b)
def chgs (a b : List MNode) : List (Nat × Nat) → Int
  | [] => 0
  | p :: P => chg a b p + chgs a b P
def costM (a b : List MNode) (x y : Nat) (P : List (Nat × Nat)) : Int := (x : Int) + y - 2 * P.length + chgs a b P

theorem chgs_app (a b : List MNode) : ∀ P Q, chgs a b (P ++ Q) = chgs a b P + chgs a b Q
  | [], Q => by simp [chgs]
  | p :: P, Q => by simp only [List.cons_append, chgs, chgs_app a b P Q]; omega
theorem chgs_perm {a b : List MNode} {P Q : List (Nat × Nat)} (h : List.Perm P Q) : chgs a b P = chgs a b Q := by
  induction h with
  | nil => rfl
  | cons x _ ih => simp only [chgs, ih]
  | swap x y l => simp only [chgs]; omega
  | trans _ _ h1 h2 => rw [h1, h2]
theorem chgs_nonneg (a b : List MNode) : ∀ P, 0 ≤ chgs a b P
  | [] => by simp [chgs]
  | p :: P => by have := chgs_nonneg a b P; have := chg_01 a b p; simp only [chgs]; omega
theorem costM_perm {a b : List MNode} {x y : Nat} {P Q : List (Nat × Nat)} (h : List.Perm P Q) : costM a b x y P = costM a b x y Q := by
  rw [costM, costM, h.length_eq, chgs_perm h]
theorem Mt.perm {a b : List MNode} {la lb x y : Nat} {P Q : List (Nat × Nat)} (h : Mt a b la lb x y P) (hp : List.Perm P Q) : Mt a b la lb x y Q :=
  ⟨fun p hq => h.inn p (hp.symm.subset hq), (hp.pairwise_iff fun h => h.symm).1 h.pw⟩
theorem Mt.two {a b : List MNode} {la lb x y : Nat} {P : List (Nat × Nat)} (h : Mt a b la lb x y P) {p q : Nat × Nat} (hp : p ∈ P) (hq : q ∈ P) : p = q ∨ compat a b p q := by
  by_cases e : p = q
  · exact .inl e
  · refine .inr ?_
    have h1 := h.perm (List.perm_cons_erase hp)
    have hq' : q ∈ P.erase p := (List.mem_erase_of_ne (fun e' => e e'.symm)).2 hq
    exact (List.pairwise_cons.1 h1.pw).1 q hq'
theorem Mt.nil (a b : List MNode) (la lb x y : Nat) : Mt a b la lb x y [] := ⟨by simp, List.Pairwise.nil⟩
theorem Mt.sub {a b : List MNode} {la lb x y la' lb' x' y' : Nat} {P : List (Nat × Nat)} (h : Mt a b la lb x y P) (h' : ∀ p ∈ P, la' ≤ p.1 ∧ p.1 < la' + x' ∧ lb' ≤ p.2 ∧ p.2 < lb' + y') : Mt a b la' lb' x' y' P := ⟨h', h.pw⟩
theorem Mt.zero {a b : List MNode} {la lb x y : Nat} {P : List (Nat × Nat)} (h : Mt a b la lb x y P) (h0 : x = 0 ∨ y = 0) : P = [] := by
  cases P with
  | nil => rfl
  | cons p P => have := h.inn p (List.mem_cons_self ..); omega

/-! ### No match costs less than the tables say -/
theorem dp_up {a b : List MNode} {dual : List (List Int)} {i j x y : Nat} (hx : 0 < x) (hy : 0 < y) : dp a b dual i j x y ≤ dp a b dual i j (x - 1) y + 1 ∧ dp a b dual i j x y ≤ dp a b dual i j x (y - 1) + 1 := by
  rw [dp, if_neg (by omega)]
  split <;> omega

theorem no_less {a b : List MNode} {dual : List (List Int)} (ha : Post1 a) (hb : Post1 b) (hR : ∀ i j, i < a.length → j < b.length → at2 dual i j ≤ dpEnd a b dual i j) :
    ∀ (S i j : Nat), i + j = S → i < a.length → j < b.length → ∀ (N x y : Nat) (P : List (Nat × Nat)), x + y = N → x ≤ sizeAt a i → y ≤ sizeAt b j →
      Mt a b (fstAt a i) (fstAt b j) x y P → dp a b dual i j x y ≤ costM a b x y P := by
  intro S
  induction S using Nat.strongRecOn with
  | _ S ihS =>
  intro i j hS hi hj N
  induction N using Nat.strongRecOn with
  | _ N ihN =>
  intro x y P hN hx hy hP
  have hpi := ha i hi
  have hpj := hb j hj
  have hsi : sizeAt a i = i - fstAt a i + 1 := rfl
  have hsj : sizeAt b j = j - fstAt b j + 1 := rfl
  by_cases h0 : x = 0 ∨ y = 0
  · rw [dp_zero h0, hP.zero h0]
    simp [costM, chgs]
  have hx0 : 0 < x := by omega
  have hy0 : 0 < y := by omega
  have hup := dp_up (a := a) (b := b) (dual := dual) (i := i) (j := j) hx0 hy0
  by_cases hv : ∀ p ∈ P, p.1 ≠ fstAt a i + x - 1
  · have := ihN (x - 1 + y) (by omega) (x - 1) y P rfl (by omega) hy (hP.sub fun p hp => by have := hP.inn p hp; have := hv p hp; omega)
    simp only [costM] at this ⊢
    omega
  by_cases hw : ∀ p ∈ P, p.2 ≠ fstAt b j + y - 1
  · have := ihN (x + (y - 1)) (by omega) x (y - 1) P rfl hx (by omega) (hP.sub fun p hp => by have := hP.inn p hp; have := hw p hp; omega)
    simp only [costM] at this ⊢
    omega
  have hv' : ∃ p ∈ P, p.1 = fstAt a i + x - 1 := Classical.byContradiction fun h => hv fun p hp e => h ⟨p, hp, e⟩
  have hw' : ∃ p ∈ P, p.2 = fstAt b j + y - 1 := Classical.byContradiction fun h => hw fun p hp e => h ⟨p, hp, e⟩
  obtain ⟨⟨v, w⟩, hp, hpv⟩ := hv'
  obtain ⟨q, hq, hqw⟩ := hw'
  simp only [] at hpv
  have hwe : w = fstAt b j + y - 1 := by
    rcases hP.two hp hq with e | e
    · rw [← e] at hqw; exact hqw
    · have h1 := hP.inn _ hp
      have h2 := hP.inn _ hq
      obtain ⟨⟨k1, k2, k3⟩, _⟩ := e
      simp only [] at h1 k1 k2 k3
      omega
  clear hq hqw q hv hw
  have hva : v < a.length := by omega
  have hwb : w < b.length := by omega
  have hpv1 := ha v hva
  have hpw1 := hb w hwb
  have hfv := hpi.2 v (by omega) (by omega)
  have hfw := hpj.2 w (by omega) (by omega)
  have hsv : sizeAt a v = v - fstAt a v + 1 := rfl
  have hsw : sizeAt b w = w - fstAt b w + 1 := rfl
  have hperm := List.perm_cons_erase hp
  have hP' := hP.perm hperm
  have hcp := List.pairwise_cons.1 hP'.pw
  have hlow : ∀ q ∈ P.erase (v, w), q.1 < v ∧ q.2 < w ∧ (fstAt a v ≤ q.1 ↔ fstAt b w ≤ q.2) := by
    intro q hq
    have h1 := hP'.inn q (List.mem_cons_of_mem _ hq)
    obtain ⟨⟨k1, k2, k3⟩, k4, k5⟩ := hcp.1 q hq
    simp only [] at k1 k2 k3 k5
    omega
  rw [costM_perm hperm]
  have hin' : ∀ q ∈ P.erase (v, w), fstAt a i ≤ q.1 ∧ fstAt b j ≤ q.2 := fun q hq => by have := hP'.inn q (List.mem_cons_of_mem _ hq); omega
  generalize hE : P.erase (v, w) = P' at *
  by_cases hroot : v = i ∧ w = j
  · obtain ⟨rfl, rfl⟩ := hroot
    have h1 := ihN (x - 1 + (y - 1)) (by omega) (x - 1) (y - 1) P' rfl (by omega) (by omega) ⟨fun q hq => by have := hlow q hq; have := hin' q hq; omega, hcp.2⟩
    rw [dp_root hx0 hy0 (by omega)]
    have hchg : chg a b (v, w) = if (exAt a (fstAt a v + x - 1)).like (exAt b (fstAt b w + y - 1)) then 0 else 1 := by
      rw [chg]; simp only []; rw [← hpv, ← hwe]
    simp only [costM, chgs, List.length_cons] at h1 ⊢
    rw [← hchg]
    omega
  · have hpart := dp_part (a := a) (b := b) (dual := dual) (i := i) (j := j) hx0 hy0 (by omega) (by rw [← hpv]; exact hpv1.1) (by rw [← hwe]; exact hpw1.1)
    rw [← hpv, ← hwe] at hpart
    have hsplit : List.Perm P' (P'.filter (fun q => decide (fstAt a v ≤ q.1)) ++ P'.filter (fun q => !decide (fstAt a v ≤ q.1))) := (List.filter_append_perm _ _).symm
    have m1 : Mt a b (fstAt a v) (fstAt b w) (sizeAt a v) (sizeAt b w) ((v, w) :: P'.filter (fun q => decide (fstAt a v ≤ q.1))) := by
      refine ⟨fun q hq => ?_, List.pairwise_cons.2 ⟨fun q hq => hcp.1 q (List.mem_filter.1 hq).1, hcp.2.filter _⟩⟩
      rcases List.mem_cons.1 hq with rfl | hq
      · simp only []; omega
      · obtain ⟨h1, h2⟩ := List.mem_filter.1 hq
        have := hlow q h1
        have h3 : fstAt a v ≤ q.1 := by simpa using h2
        omega
    have m2 : Mt a b (fstAt a i) (fstAt b j) (fstAt a v - fstAt a i) (fstAt b w - fstAt b j) (P'.filter (fun q => !decide (fstAt a v ≤ q.1))) := by
      refine ⟨fun q hq => ?_, hcp.2.filter _⟩
      obtain ⟨h1, h2⟩ := List.mem_filter.1 hq
      have := hlow q h1
      have := hin' q h1
      have h3 : ¬ fstAt a v ≤ q.1 := by simpa using h2
      omega
    have h1 := ihS (v + w) (by omega) v w rfl hva hwb _ _ _ _ rfl (Nat.le_refl _) (Nat.le_refl _) m1
    have h2 := ihN ((fstAt a v - fstAt a i) + (fstAt b w - fstAt b j)) (by omega) _ _ _ rfl (by omega) (by omega) m2
    have h3 := hR v w hva hwb
    rw [dpEnd] at h3
    have hc := chgs_perm (a := a) (b := b) hsplit
    have hl := hsplit.length_eq
    rw [chgs_app] at hc
    rw [List.length_append] at hl
    simp only [costM, chgs, List.length_cons] at h1 h2 ⊢
    rw [hc, hl]
    rw [hpart]
    omega

/-- For the whole of both. -/
theorem no_less_all {a b : List MNode} {dual : List (List Int)} (ha : Post1 a) (hb : Post1 b) (h0 : 0 < a.length) (h0' : 0 < b.length) (hfa : fstAt a (a.length - 1) = 0) (hfb : fstAt b (b.length - 1) = 0) (hR : ∀ i j, i < a.length → j < b.length → at2 dual i j ≤ dpEnd a b dual i j)
    {P : List (Nat × Nat)} (hP : Mt a b 0 0 a.length b.length P) : at2 dual (a.length - 1) (b.length - 1) ≤ costM a b a.length b.length P := by
  have e1 : sizeAt a (a.length - 1) = a.length := by rw [sizeAt, hfa]; omega
  have e2 : sizeAt b (b.length - 1) = b.length := by rw [sizeAt, hfb]; omega
  have h1 := no_less ha hb hR _ (a.length - 1) (b.length - 1) rfl (by omega) (by omega) _ a.length b.length P rfl (by omega) (by omega) (by rw [hfa, hfb]; exact hP)
  have h2 := hR (a.length - 1) (b.length - 1) (by omega) (by omega)
  rw [dpEnd, e1, e2] at h2
  omega

/-! ### The way back through the tables is a match of that cost -/
theorem way_back {a b : List MNode} {dual : List (List Int)} (ha : Post1 a) (hb : Post1 b) (hF : ∀ i j, i < a.length → j < b.length → at2 dual i j = dpEnd a b dual i j) {i j x y : Nat} {t t' : List Int} (h : Tr a b dual i j x y t t') :
    i < a.length → j < b.length → x ≤ sizeAt a i → y ≤ sizeAt b j → t.length = a.length →
    ∃ P, Mt a b (fstAt a i) (fstAt b j) x y P ∧ costM a b x y P = dp a b dual i j x y ∧ t'.length = a.length ∧ (∀ p ∈ P, t'[p.1]? = some (p.2 : Int)) ∧ ∀ k, (∀ p ∈ P, p.1 ≠ k) → t'[k]? = t[k]? := by
  induction h with
  | @stop i j x y t h =>
    intro hi hj hx hy ht
    refine ⟨[], Mt.nil _ _ _ _ _ _, ?_, ht, by simp, fun _ _ => rfl⟩
    rw [dp_zero h]; simp [costM, chgs]
  | @up i j x y t t' hx0 hy0 e _ ih =>
    intro hi hj hx hy ht
    obtain ⟨P, h1, h2, h3, h4, h5⟩ := ih hi hj (by clear ih; omega) hy ht
    clear ih
    refine ⟨P, h1.sub fun p hp => by have := h1.inn p hp; omega, ?_, h3, h4, h5⟩
    rw [e, ← h2]; simp only [costM]; omega
  | @left i j x y t t' hx0 hy0 e _ ih =>
    intro hi hj hx hy ht
    obtain ⟨P, h1, h2, h3, h4, h5⟩ := ih hi hj hx (by clear ih; omega) ht
    clear ih
    refine ⟨P, h1.sub fun p hp => by have := h1.inn p hp; omega, ?_, h3, h4, h5⟩
    rw [e, ← h2]; simp only [costM]; omega
  | @pair i j x y t t' hx0 hy0 e1 e2 ev ew _ ih =>
    intro hi hj hx hy ht
    have hpi := ha i hi
    have hpj := hb j hj
    obtain ⟨P, h1, h2, h3, h4, h5⟩ := ih hi hj (by clear ih; omega) (by clear ih; omega) (by rw [List.length_set]; exact ht)
    clear ih
    refine ⟨(i, j) :: P, ⟨fun p hp => ?_, List.pairwise_cons.2 ⟨fun p hp => ?_, h1.pw⟩⟩, ?_, h3, fun p hp => ?_, fun k hk => ?_⟩
    · rcases List.mem_cons.1 hp with rfl | hp
      · simp only []; omega
      · have := h1.inn p hp; omega
    · have := h1.inn p hp
      refine ⟨⟨?_, ?_, ?_⟩, ?_, ?_⟩ <;> simp only [] <;> omega
    · rw [dp_root hx0 hy0 ⟨ev, ew⟩] at e1 e2 ⊢
      have hchg : chg a b (i, j) = if (exAt a (fstAt a i + x - 1)).like (exAt b (fstAt b j + y - 1)) then 0 else 1 := by
        rw [chg]; simp only []; rw [ev, ew]
      rw [← hchg] at e1 e2 ⊢
      simp only [costM, chgs, List.length_cons] at h2 ⊢
      omega
    · rcases List.mem_cons.1 hp with rfl | hp
      · simp only []
        rw [h5 i (fun p hp => by have := h1.inn p hp; omega), List.getElem?_set_self (by omega)]
      · exact h4 p hp
    · rw [h5 k fun p hp => hk p (List.mem_cons_of_mem _ hp), List.getElem?_set_ne (hk (i, j) (List.mem_cons_self ..))]
  | @part i j x y t t1 t' hx0 hy0 e1 e2 hne _ _ ih1 ih2 =>
    intro hi hj hx hy ht
    have hpi := ha i hi
    have hpj := hb j hj
    have hsi : sizeAt a i = i - fstAt a i + 1 := rfl
    have hsj : sizeAt b j = j - fstAt b j + 1 := rfl
    generalize hv : fstAt a i + x - 1 = v at *
    generalize hw : fstAt b j + y - 1 = w at *
    have hva : v < a.length := by clear ih1 ih2; omega
    have hwb : w < b.length := by clear ih1 ih2; omega
    obtain ⟨P1, p1, p2, p3, p4, p5⟩ := ih1 hva hwb (Nat.le_refl _) (Nat.le_refl _) ht
    clear ih1
    have hpv := ha v hva
    have hpw := hb w hwb
    have hfv := hpi.2 v (by clear ih2; omega) (by clear ih2; omega)
    have hfw := hpj.2 w (by clear ih2; omega) (by clear ih2; omega)
    have hsv : sizeAt a v = v - fstAt a v + 1 := rfl
    have hsw : sizeAt b w = w - fstAt b w + 1 := rfl
    obtain ⟨P2, q1, q2, q3, q4, q5⟩ := ih2 hi hj (by clear ih2; omega) (by clear ih2; omega) p3
    clear ih2
    refine ⟨P1 ++ P2, ⟨fun p hp => ?_, List.pairwise_append.2 ⟨p1.pw, q1.pw, fun p hp q hq => ?_⟩⟩, ?_, q3, fun p hp => ?_, fun k hk => ?_⟩
    · rcases List.mem_append.1 hp with hp | hp
      · have := p1.inn p hp; omega
      · have := q1.inn p hp; omega
    · have h1 := p1.inn p hp
      have h2 := q1.inn q hq
      have k1 := (hpv.2 p.1 (by omega) (by omega))
      have k2 := (hpw.2 p.2 (by omega) (by omega))
      refine ⟨⟨?_, ?_, ?_⟩, ?_, ?_⟩ <;> omega
    · have hpart := dp_part (a := a) (b := b) (dual := dual) (i := i) (j := j) hx0 hy0 (by omega) (by rw [hv]; exact hpv.1) (by rw [hw]; exact hpw.1)
      rw [hv, hw] at hpart
      have hd := hF v w hva hwb
      rw [dpEnd] at hd
      rw [costM, chgs_app, List.length_append]
      simp only [costM] at p2 q2
      omega
    · rcases List.mem_append.1 hp with hp | hp
      · rw [q5 p.1 (fun q hq => by have := p1.inn p hp; have := q1.inn q hq; omega)]
        exact p4 p hp
      · exact q4 p hp
    · rw [q5 k fun p hp => hk p (List.mem_append_right _ hp), p5 k fun p hp => hk p (List.mem_append_left _ hp)]
end Xe
