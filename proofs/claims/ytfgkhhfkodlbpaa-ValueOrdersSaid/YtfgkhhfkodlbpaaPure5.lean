/- THE PLAIN FUNCTIONS of encodings. No program in sight. -/
import Derived.Test.YtfgkhhfkodlbpaaPure4
import Derived.Test.YtfgkhhfkodlbpaaXeS
namespace Xe
open Go

/-- How many bytes a number takes. -/
def nd (m : Nat) : Nat := if m = 0 then 0 else nd (m / 256) + 1
termination_by m
decreasing_by exact Nat.div_lt_self (by omega) (by omega)
theorem nd_zero : nd 0 = 0 := by rw [nd]; simp
theorem nd_pos {m : Nat} (h : m ≠ 0) : nd m = nd (m / 256) + 1 := by rw [nd, if_neg h]
theorem nd_eq : ∀ {j m : Nat}, m < 256 ^ j → (j = 0 ∨ 0 < m / 2 ^ (8 * (j - 1))) → nd m = j
  | 0, m, h, _ => by
    have : m = 0 := by simpa using h
    rw [this, nd_zero]
  | j + 1, m, h, h2 => by
    have h2 : 0 < m / 2 ^ (8 * j) := by rcases h2 with h2 | h2; omega; simpa using h2
    have hm : m ≠ 0 := by rintro rfl; simp at h2
    rw [nd_pos hm, nd_eq (j := j)]
    · rw [Nat.pow_succ] at h; omega
    · rcases Nat.eq_zero_or_pos j with rfl | hj
      · exact .inl rfl
      · refine .inr ?_
        have e : m / 2 ^ (8 * j) = m / 256 / 2 ^ (8 * (j - 1)) := by
          rw [Nat.div_div_eq_div_mul]
          congr 1
          rw [show 8 * j = 8 + 8 * (j - 1) from by omega, Nat.pow_add]
        rw [← e]; exact h2
theorem lt_pow_pred {m j : Nat} (_hj : 0 < j) (h : ¬ 0 < m / 2 ^ (8 * (j - 1))) : m < 256 ^ (j - 1) := by
  have h0 : m / 2 ^ (8 * (j - 1)) = 0 := Nat.eq_zero_of_not_pos h
  have h1 : (256 : Nat) ^ (j - 1) = 2 ^ (8 * (j - 1)) := by rw [Nat.pow_mul]
  rw [h1]
  rcases Nat.div_eq_zero_iff.1 h0 with h | h
  · exact absurd h (by simp)
  · exact h
def mag (n : Int) : Nat := (if n < 0 then -1 - n else n).toNat
def sgn (n : Int) : Nat := if n < 0 then 255 else 0
theorem sgn_or (n : Int) : sgn n = 0 ∨ sgn n = 255 := by unfold sgn; split <;> simp
theorem mag_lt {n : Int} (h : InI n) : mag n < 9223372036854775808 := by unfold InI at h; unfold mag; split <;> omega
theorem mag_nn {n : Int} (h : InI n) (hn : ¬ n < 0) : (n % 18446744073709551616).toNat = mag n := by unfold InI at h; unfold mag; rw [if_neg hn]; omega
theorem mag_ng {n : Int} (h : InI n) (hn : n < 0) : 18446744073709551615 - (n % 18446744073709551616).toNat = mag n := by unfold InI at h; unfold mag; rw [if_pos hn]; omega
def digitJ (n : Int) (j r : Nat) : Nat := flip8 (sgn n) (mag n / 2 ^ (8 * (j - 1 - r)) % 256)
def encP (n : Int) (j r : Nat) : List Nat := flip8 (sgn n) (128 + j) :: (List.range r).map (digitJ n j)
/-- The encoding of a number. -/
def encI (n : Int) : List Nat := encP n (nd (mag n)) (nd (mag n))
theorem encP_len (n : Int) (j r : Nat) : (encP n j r).length = 1 + r := by simp [encP]; omega
theorem encP_succ (n : Int) (j r : Nat) : encP n j (r + 1) = encP n j r ++ [digitJ n j r] := by simp [encP, List.range_succ]
theorem nd_le {m : Nat} (h : m < 18446744073709551616) : nd m ≤ 8 := by
  have key : ∀ (j m : Nat), m < 256 ^ j → nd m ≤ j := by
    intro j
    induction j with
    | zero => intro m h; have : m = 0 := by simpa using h
              rw [this, nd_zero]; exact Nat.le_refl _
    | succ j ih =>
      intro m h
      by_cases hm : m = 0
      · rw [hm, nd_zero]; omega
      · rw [nd_pos hm]
        have := ih (m / 256) (by rw [Nat.pow_succ] at h; omega)
        omega
  exact key 8 m (by simpa using h)
theorem encI_len {n : Int} (h : InI n) : (encI n).length ≤ 9 := by
  have := nd_le (m := mag n) (by have := mag_lt h; omega)
  rw [encI, encP_len]; omega
mutual
def encV : Val → List Nat
  | .mk k n l => encI k ++ encI n ++ encI l.length ++ encVs l
def encVs : List Val → List Nat
  | [] => []
  | v :: vs => encV v ++ encVs vs
end
theorem encV_eq (v : Val) : encV v = encI v.kind ++ encI v.n ++ encI v.kids.length ++ encVs v.kids := by cases v; rw [encV]; rfl
theorem encVs_append : ∀ (l m : List Val), encVs (l ++ m) = encVs l ++ encVs m
  | [], m => by simp [encVs]
  | x :: xs, m => by simp only [List.cons_append, encVs, encVs_append xs m, List.append_assoc]
theorem encVs_succ (l : List Val) (k : Nat) (h : k < l.length) : encVs (l.take (k + 1)) = encVs (l.take k) ++ encV l[k] := by
  rw [List.take_succ_eq_append_getElem h, encVs_append]; simp [encVs]
theorem take_flat_succ {α : Type} (ls : List (List α)) (k : Nat) (h : k < ls.length) : (ls.take (k + 1)).flatten = (ls.take k).flatten ++ ls[k] := by
  rw [List.take_succ_eq_append_getElem h, List.flatten_append]; simp
theorem flat_le {α : Type} (b : Nat) : ∀ (ls : List (List α)), (∀ l ∈ ls, l.length ≤ b) → ls.flatten.length ≤ ls.length * b
  | [], _ => by simp
  | l :: ls, h => by
    have h1 := h l (List.mem_cons_self ..)
    have h2 := flat_le b ls fun x hx => h x (List.mem_cons_of_mem _ hx)
    rw [List.flatten_cons, List.length_append, List.length_cons, Nat.succ_mul]; omega
theorem kids_le_size (v : Val) : v.kids.length < v.size := by
  have : ∀ l : List Val, l.length ≤ Val.sizes l := by
    intro l
    induction l with
    | nil => simp
    | cons x xs ih => have := Val.size_pos x; rw [Val.sizes, List.length_cons]; omega
  have := this v.kids
  rw [Val.size_eq]; omega
theorem encV_len : ∀ (v : Val), v.Ok → v.size ≤ 1099511627776 → (encV v).length ≤ 27 * v.size := by
  intro v
  refine Val.rec' (p := fun v => v.Ok → v.size ≤ 1099511627776 → (encV v).length ≤ 27 * v.size) (fun v ih hok hs => ?_) v
  have hk := kids_le_size v
  have h1 := encI_len hok.kind
  have h2 := encI_len hok.n
  have h3 := encI_len (n := (v.kids.length : Int)) (by unfold InI; omega)
  have key : ∀ l : List Val, (∀ k ∈ l, k ∈ v.kids) → (encVs l).length ≤ 27 * Val.sizes l := by
    intro l
    induction l with
    | nil => intro _; simp [encVs]
    | cons x xs ihl =>
      intro hl
      have hx := hl x (List.mem_cons_self ..)
      have hxs := Val.size_kid hx
      have h4 := ih x hx (hok.kid hx) (by omega)
      have h5 := ihl fun k hk => hl k (List.mem_cons_of_mem _ hk)
      rw [encVs, Val.sizes, List.length_append]; omega
  have h6 := key v.kids fun k hk => hk
  rw [encV_eq, Val.size_eq]
  simp only [List.length_append]
  omega
def headB (v : Val) : List Nat := encI v.kind ++ encI v.n ++ encI v.kids.length
theorem encVs_take_le (l : List Val) (k : Nat) : (encVs (l.take k)).length ≤ (encVs l).length := by
  have h : encVs l = encVs (l.take k) ++ encVs (l.drop k) := by rw [← encVs_append, List.take_append_drop]
  rw [h, List.length_append]; omega
theorem encV_head (v : Val) : encV v = headB v ++ encVs v.kids := by rw [encV_eq]; rfl
theorem encB_le {v : Val} (hok : v.Ok) (hs : v.size ≤ 1099511627776) (k : Nat) : (headB v ++ encVs (v.kids.take k)).length ≤ 29686813949952 := by
  have h1 := encV_len v hok hs
  have h2 := encVs_take_le v.kids k
  rw [encV_head, List.length_append] at h1
  rw [List.length_append]
  omega
theorem flip8_digit (n : Int) (j r : Nat) : digitJ n j r < 256 := flip8_lt (Nat.mod_lt _ (by omega))
theorem encI_byte {n : Int} (h : InI n) : ∀ x ∈ encI n, x < 256 := by
  have := nd_le (m := mag n) (by have := mag_lt h; omega)
  intro x hx
  rw [encI, encP] at hx
  rcases List.mem_cons.1 hx with rfl | hx
  · exact flip8_lt (by omega)
  · obtain ⟨r, _, rfl⟩ := List.mem_map.1 hx
    exact flip8_digit _ _ _

/-! ### Reading a number -/
def flipOf (h : Nat) : Nat := if h < 128 then 255 else 0
theorem flipOf_or (h : Nat) : flipOf h = 0 ∨ flipOf h = 255 := by unfold flipOf; split <;> simp
theorem flipOf_pos {h : Nat} : (0 : Int) < (flipOf h : Int) ↔ h < 128 := by unfold flipOf; split <;> omega
/-- How many bytes stand behind the first one. -/
def kOf (h : Nat) : Nat := flip8 (flipOf h) h - 128
theorem kOf_ge {h : Nat} (hh : h < 256) : 128 ≤ flip8 (flipOf h) h := by
  unfold flip8 flipOf
  by_cases h1 : h < 128
  · rw [if_pos h1, if_neg (by omega)]; omega
  · rw [if_neg h1, if_pos rfl]; omega
theorem kOf_le {h : Nat} (hh : h < 256) : kOf h ≤ 127 := by
  have := flip8_lt (f := flipOf h) hh
  unfold kOf; omega
def wordOf (f : Nat) (l : List Nat) : Nat := l.foldl (fun m c => m * 256 + flip8 f c) 0
theorem wordOf_snoc (f : Nat) (l : List Nat) (c : Nat) : wordOf f (l ++ [c]) = wordOf f l * 256 + flip8 f c := by simp [wordOf]
theorem word_lt (f : Nat) : ∀ (l : List Nat) (acc n : Nat), (∀ c ∈ l, c < 256) → acc < 256 ^ n → l.foldl (fun m c => m * 256 + flip8 f c) acc < 256 ^ (n + l.length)
  | [], acc, n, _, h => by simpa using h
  | c :: l, acc, n, hc, h => by
    have h1 := flip8_lt (f := f) (hc c (List.mem_cons_self ..))
    have h2 := word_lt f l (acc * 256 + flip8 f c) (n + 1) (fun x hx => hc x (List.mem_cons_of_mem _ hx)) (by rw [Nat.pow_succ]; omega)
    rw [List.foldl_cons, List.length_cons, show n + (l.length + 1) = n + 1 + l.length from by omega]
    exact h2
theorem wordOf_lt (f : Nat) (l : List Nat) (h : ∀ c ∈ l, c < 256) : wordOf f l < 256 ^ l.length := by
  have := word_lt f l 0 0 h (by simp)
  simpa [wordOf] using this
def getI (b : List Nat) : Int × Int × Int := match b with
  | [] => (0, 0, 3)
  | h :: t => if 8 < kOf h then (0, 0, 2) else if t.length < kOf h then (0, 0, 3)
    else if 0 < kOf h ∧ flip8 (flipOf h) (t.headD 0) = 0 then (0, 0, 2)
    else if 9223372036854775808 ≤ wordOf (flipOf h) (t.take (kOf h)) then (0, 0, 2)
    else (if h < 128 then -1 - (wordOf (flipOf h) (t.take (kOf h)) : Int) else (wordOf (flipOf h) (t.take (kOf h)) : Int), (kOf h : Int) + 1, 0)

/-! ### Reading a value -/
/-- j numbers from a place on: those read, what was wrong, the place behind. -/
def nums (b : List Nat) : Nat → Nat → List Int → List Int × Int × Nat
  | 0, at_, acc => (acc, 0, at_)
  | j + 1, at_, acc => if (getI (b.drop at_)).2.2 ≠ 0 then (acc, (getI (b.drop at_)).2.2, at_) else nums b j (at_ + (getI (b.drop at_)).2.1.toNat) (acc ++ [(getI (b.drop at_)).1])
abbrev DR := Val × Int × Int × Nat
def decL (g : Int → Nat → DR) : Nat → Int → Nat → List Val × Int × Int × Nat
  | 0, l, a => ([], 0, l, a)
  | m + 1, l, a => if (g l a).2.1 ≠ 0 then ([], (g l a).2)
    else if (decL g m (g l a).2.2.1 (g l a).2.2.2).2.1 ≠ 0 then ([], (decL g m (g l a).2.2.1 (g l a).2.2.2).2)
    else ((g l a).1 :: (decL g m (g l a).2.2.1 (g l a).2.2.2).1, (decL g m (g l a).2.2.1 (g l a).2.2.2).2)
def dNode (k n : Int) (q : List Val × Int × Int × Nat) : DR := if q.2.1 ≠ 0 then (v0, q.2) else (.mk k n q.1, q.2)
def decN (g : Int → Nat → DR) (l : Int) (r : List Int × Int × Nat) : DR :=
  if r.2.1 ≠ 0 then (v0, r.2.1, l, r.2.2) else if r.1.getD 2 0 < 0 then (v0, 2, l, r.2.2) else dNode (r.1.getD 0 0) (r.1.getD 1 0) (decL g (r.1.getD 2 0).toNat l r.2.2)
def decF (b : List Nat) : Nat → Int → Nat → DR
  | 0, l, a => (v0, 4, l - 1, a)
  | n + 1, l, a => if l - 1 < 0 then (v0, 4, l - 1, a) else decN (decF b n) (l - 1) (nums b 3 a [])
def dJoin (dn : List Val) (q : List Val × Int × Int × Nat) : List Val × Int × Int × Nat := if q.2.1 ≠ 0 then ([], q.2) else (dn ++ q.1, q.2)
theorem decL_err (g : Int → Nat → DR) : ∀ (m : Nat) (l : Int) (a : Nat), (decL g m l a).2.1 ≠ 0 → (decL g m l a).1 = []
  | 0, l, a, h => by simp [decL] at h
  | m + 1, l, a, h => by
    rw [decL] at h ⊢
    split at h
    · rename_i h1; rw [if_pos h1]
    · rename_i h1
      rw [if_neg h1]
      split at h
      · rename_i h2; rw [if_pos h2]
      · rename_i h2; exact absurd h h2
theorem dJoin_nil (g : Int → Nat → DR) (m : Nat) (l : Int) (a : Nat) : decL g m l a = dJoin [] (decL g m l a) := by
  unfold dJoin
  split
  · rename_i h; rw [← decL_err g m l a h]
  · simp
theorem dJoin_err {g : Int → Nat → DR} {N k : Nat} {l lk : Int} {a ak : Nat} {dn : List Val} (hk : k < N) (h : decL g N l a = dJoin dn (decL g (N - k) lk ak)) (he : (g lk ak).2.1 ≠ 0) : decL g N l a = ([], (g lk ak).2) := by
  obtain ⟨m, hm⟩ : ∃ m, N - k = m + 1 := ⟨N - k - 1, by omega⟩
  rw [h, hm, decL, if_pos he, dJoin, if_pos he]
theorem dJoin_step {g : Int → Nat → DR} {N k : Nat} {l lk : Int} {a ak : Nat} {dn : List Val} (hk : k < N) (h : decL g N l a = dJoin dn (decL g (N - k) lk ak)) (he : ¬ (g lk ak).2.1 ≠ 0) :
    decL g N l a = dJoin (dn ++ [(g lk ak).1]) (decL g (N - (k + 1)) (g lk ak).2.2.1 (g lk ak).2.2.2) := by
  obtain ⟨m, hm⟩ : ∃ m, N - k = m + 1 := ⟨N - k - 1, by omega⟩
  have hm2 : N - (k + 1) = m := by omega
  rw [h, hm, hm2, decL, if_neg he]
  generalize decL g m (g lk ak).2.2.1 (g lk ak).2.2.2 = r
  unfold dJoin
  by_cases h3 : r.2.1 = 0 <;> simp [h3]
theorem dJoin_end {g : Int → Nat → DR} {N k : Nat} {l lk : Int} {a ak : Nat} {dn : List Val} (hk : N ≤ k) (h : decL g N l a = dJoin dn (decL g (N - k) lk ak)) : decL g N l a = (dn, 0, lk, ak) := by
  rw [h, show N - k = 0 from by omega, decL, dJoin]; simp
/-- What is read lies within. -/
theorem getI_size {b : List Nat} (h : (getI b).2.2 = 0) : 1 ≤ (getI b).2.1 ∧ (getI b).2.1 ≤ b.length := by
  cases b with
  | nil => simp [getI] at h
  | cons x t =>
    rw [getI] at h ⊢
    split at h
    · simp at h
    · rename_i h1
      rw [if_neg h1]
      split at h
      · simp at h
      · rename_i h2
        rw [if_neg h2]
        split at h
        · simp at h
        · rename_i h3
          rw [if_neg h3]
          split at h
          · simp at h
          · rename_i h4
            rw [if_neg h4]
            simp only [List.length_cons]
            omega
theorem nums_at (b : List Nat) : ∀ (j a : Nat) (acc : List Int), a ≤ b.length → (nums b j a acc).2.2 ≤ b.length
  | 0, a, acc, h => h
  | j + 1, a, acc, h => by
    rw [nums]
    split
    · exact h
    · rename_i h1
      have := getI_size (Decidable.not_not.1 h1)
      rw [List.length_drop] at this
      exact nums_at b j _ _ (by omega)
theorem nums_len (b : List Nat) : ∀ (j a : Nat) (acc : List Int), (nums b j a acc).2.1 = 0 → (nums b j a acc).1.length = acc.length + j
  | 0, a, acc, _ => rfl
  | j + 1, a, acc, h => by
    rw [nums] at h ⊢
    split at h
    · rename_i h1; exact absurd h h1
    · rename_i h1
      rw [if_neg h1, nums_len b j _ _ h]
      simp; omega
theorem decF_left (b : List Nat) : ∀ (n : Nat) (l : Int) (a : Nat), a ≤ b.length → (decF b n l a).2.2.2 ≤ b.length ∧ ((decF b n l a).2.1 = 0 → 0 ≤ (decF b n l a).2.2.1 ∧ (decF b n l a).2.2.1 ≤ l - 1)
  | 0, l, a, h => ⟨h, fun h => by simp [decF] at h⟩
  | n + 1, l, a, h => by
    have key : ∀ (m : Nat) (l0 : Int) (a0 : Nat), 0 ≤ l0 → a0 ≤ b.length → (decL (decF b n) m l0 a0).2.2.2 ≤ b.length ∧ ((decL (decF b n) m l0 a0).2.1 = 0 → 0 ≤ (decL (decF b n) m l0 a0).2.2.1 ∧ (decL (decF b n) m l0 a0).2.2.1 ≤ l0) := by
      intro m
      induction m with
      | zero => intro l0 a0 h0 ha; exact ⟨ha, fun _ => ⟨h0, Int.le_refl _⟩⟩
      | succ m ih =>
        intro l0 a0 h0 ha
        have h2 := decF_left b n l0 a0 ha
        rw [decL]
        split
        · rename_i h1; exact ⟨h2.1, fun h => absurd h h1⟩
        · rename_i h1
          have h3 := h2.2 (Decidable.not_not.1 h1)
          have h4 := ih _ _ h3.1 h2.1
          split
          · rename_i h5; exact ⟨h4.1, fun h => absurd h h5⟩
          · exact ⟨h4.1, fun h => by have := h4.2 h; simp only at this ⊢; omega⟩
    rw [decF]
    split
    · exact ⟨h, fun h => by simp at h⟩
    · rename_i h1
      have ha := nums_at b 3 a [] h
      unfold decN
      split
      · rename_i h2; exact ⟨ha, fun h => absurd h h2⟩
      · split
        · exact ⟨ha, fun h => by simp at h⟩
        · have h3 := key ((nums b 3 a []).1.getD 2 0).toNat (l - 1) _ (by omega) ha
          unfold dNode
          split
          · rename_i h4; exact ⟨h3.1, fun h => absurd h h4⟩
          · exact h3
def decV (b : List Nat) : Val × Int × Int := if (decF b 24 256 0).2.1 ≠ 0 then (v0, 0, (decF b 24 256 0).2.1) else ((decF b 24 256 0).1, ((decF b 24 256 0).2.2.2 : Int), 0)
theorem nums_err {b : List Nat} {a i ai : Nat} {acc : List Int} (hi : i < 3) (h : nums b 3 a [] = nums b (3 - i) ai acc) (he : (getI (b.drop ai)).2.2 ≠ 0) : nums b 3 a [] = (acc, (getI (b.drop ai)).2.2, ai) := by
  obtain ⟨j, hj⟩ : ∃ j, 3 - i = j + 1 := ⟨2 - i, by omega⟩
  rw [h, hj, nums, if_pos he]
theorem nums_step {b : List Nat} {a i ai : Nat} {acc : List Int} (hi : i < 3) (h : nums b 3 a [] = nums b (3 - i) ai acc) (he : ¬ (getI (b.drop ai)).2.2 ≠ 0) : nums b 3 a [] = nums b (3 - (i + 1)) (ai + (getI (b.drop ai)).2.1.toNat) (acc ++ [(getI (b.drop ai)).1]) := by
  obtain ⟨j, hj⟩ : ∃ j, 3 - i = j + 1 := ⟨2 - i, by omega⟩
  rw [h, hj, show 3 - (i + 1) = j from by omega, nums, if_neg he]
theorem nums_end {b : List Nat} {a i ai : Nat} {acc : List Int} (hi : 3 ≤ i) (h : nums b 3 a [] = nums b (3 - i) ai acc) : nums b 3 a [] = (acc, 0, ai) := by
  rw [h, show 3 - i = 0 from by omega, nums]
def pad3 (acc : List Int) : List Int := acc ++ List.replicate (3 - acc.length) 0
theorem pad3_len {acc : List Int} (h : acc.length ≤ 3) : (pad3 acc).length = 3 := by simp [pad3]; omega
theorem pad3_set {acc : List Int} {z : Int} (h : acc.length < 3) : (pad3 acc).set acc.length z = pad3 (acc ++ [z]) := by
  rw [pad3, pad3, List.set_append_right _ _ (Nat.le_refl _), Nat.sub_self, List.append_assoc]
  congr 1
  have : 3 - acc.length = (3 - (acc ++ [z]).length) + 1 := by simp; omega
  rw [this, List.replicate_succ]; rfl
theorem pad3_full {acc : List Int} (h : acc.length = 3) : pad3 acc = acc := by simp [pad3, h]
theorem getD3 {acc : List Int} (h : acc.length = 3) (j : Nat) (hj : j < 3) : acc[j]? = some (acc.getD j 0) := by
  rw [List.getElem?_eq_getElem (by omega), List.getD_eq_getElem?_getD, List.getElem?_eq_getElem (by omega)]; rfl
theorem pad3_store {acc : List Int} {i : Nat} {z : Int} (h : acc.length = i) (hi : i < 3) : (ints (pad3 acc)).set (0 + i * 1) (vint z) = ints (pad3 (acc ++ [z])) := by
  rw [show 0 + i * 1 = acc.length from by omega, ← pad3_set (by omega)]
  simp [ints, List.map_set]
theorem pad3_idx {acc : List Int} {i : Nat} (h : acc.length = i) (hi : i < 3) : 0 + i * 1 < (ints (pad3 acc)).length := by
  have := pad3_len (acc := acc) (by omega)
  simp only [ints, List.length_map]; omega
theorem Rd.dropB {M : Mem} {b : List Nat} {a : Option Addr} {c : Nat} (h : Rd M (dbytes b) (.slice a b.length c)) (k : Nat) (hk : k ≤ b.length) : Rd M (dbytes (b.drop k)) (cutV a k b.length c 1) := by
  have hc : b.length ≤ c := by obtain ⟨a', c', h1, h2, _⟩ := h.slice; simp only [Value.slice.injEq] at h1; omega
  have := Rd.cut h k b.length c hk hc (Nat.le_refl _) (Nat.le_refl _)
  rw [dbytes, List.length_drop, List.map_drop]
  rw [Nat.mul_one, Nat.mul_one, List.take_of_length_le (by simp)] at this
  exact this
end Xe
