/- WHAT THE LAWS' ARGUMENTS READ AS. -/
import Derived.Test.YtfgkhhfkodlbpaaTab
import Derived.Test.YtfgkhhfkodlbpaaPureA
import Derived.Test.YtfgkhhfkodlbpaaXe4
namespace Go.Proofs.Ytfgkhhfkodlbpaa
open Xe
set_option maxRecDepth 20000
theorem w3 : Y.intB Try.prog 3 .i64 = true := by kernel_rfl
theorem w9 : txtB Try.prog 9 = true := by kernel_rfl
theorem w28 : strB Try.prog 28 [3, 3, 3] = true := by kernel_rfl
theorem w31 : strB Try.prog 31 [3, 28, 29] = true := by kernel_rfl
theorem w29 : slcB Try.prog 29 31 5 = true := by kernel_rfl
theorem w53 : strB Try.prog 53 [3, 3, 51] = true := by kernel_rfl
theorem w51 : slcB Try.prog 51 53 3 = true := by kernel_rfl
theorem w44 : strB Try.prog 44 [28, 3, 3, 28, 31, 41, 42] = true := by kernel_rfl
theorem w41 : slcB Try.prog 41 44 15 = true := by kernel_rfl
theorem w42 : slcB Try.prog 42 9 1 = true := by kernel_rfl
theorem w66 : strB Try.prog 66 [28, 9, 31, 3, 3] = true := by kernel_rfl
theorem w40 : slcB Try.prog 40 66 11 = true := by kernel_rfl
theorem w46 : strB Try.prog 46 [28, 3, 28, 9, 40, 31, 44, 3, 42] = true := by kernel_rfl
theorem w24 : slcB Try.prog 24 46 31 = true := by kernel_rfl
theorem w79 : strB Try.prog 79 [28, 9, 77, 77] = true := by kernel_rfl
theorem w77 : slcB Try.prog 77 28 3 = true := by kernel_rfl
theorem w23 : slcB Try.prog 23 79 6 = true := by kernel_rfl
theorem w26 : strB Try.prog 26 [23, 24] = true := by kernel_rfl
theorem w22 : slcB Try.prog 22 3 1 = true := by kernel_rfl
section
variable {n : Nat} {ds : List D}
theorem id_of (h : WT Try.prog n 28 ds) : ∃ i : IdT, ds = i.enc := by
  obtain ⟨m, rfl, a, b, rfl, h1, a2, b2, rfl, h2, a3, b3, rfl, h3, rfl⟩ := h.fields w28
  obtain ⟨x, rfl, _⟩ := h1.int w3
  obtain ⟨y, rfl, _⟩ := h2.int w3
  obtain ⟨z, rfl, _⟩ := h3.int w3
  exact ⟨⟨x, y, z⟩, rfl⟩
theorem ty_of : ∀ (n : Nat) (ds : List D), WT Try.prog n 31 ds → ∃ t : Ty, ds = t.enc := by
  intro n
  induction n using Nat.strongRecOn with
  | _ n ih =>
    intro ds h
    obtain ⟨m, rfl, a, b, rfl, h1, a2, b2, rfl, h2, a3, b3, rfl, h3, rfl⟩ := h.fields w31
    obtain ⟨k, rfl, _⟩ := h1.int w3
    obtain ⟨i, rfl⟩ := id_of h2
    obtain ⟨m, rfl, els, rfl, _, he⟩ := h3.elems w29
    obtain ⟨l, e1, e2, _⟩ := elems_of (enc := Ty.enc) (Q := fun _ => True) fun x hx => let ⟨t, ht⟩ := ih m (by omega) x (he x hx); ⟨t, ht, trivial⟩
    refine ⟨.mk k i l, ?_⟩
    rw [e1, e2, Ty.enc_eq]
    rfl
theorem val_of : ∀ (n : Nat) (ds : List D), WT Try.prog n 53 ds → ∃ v : Val, ds = v.enc ∧ v.Ok := by
  intro n
  induction n using Nat.strongRecOn with
  | _ n ih =>
    intro ds h
    obtain ⟨m, rfl, a, b, rfl, h1, a2, b2, rfl, h2, a3, b3, rfl, h3, rfl⟩ := h.fields w53
    obtain ⟨k, rfl, hk⟩ := h1.int w3
    obtain ⟨q, rfl, hq⟩ := h2.int w3
    obtain ⟨m, rfl, els, rfl, _, he⟩ := h3.elems w51
    obtain ⟨l, e1, e2, e3⟩ := elems_of (enc := Val.enc) (Q := Val.Ok) fun x hx => ih m (by omega) x (he x hx)
    refine ⟨.mk k q l, ?_, .mk hk hq e3⟩
    rw [e1, e2, Val.enc_eq]
    rfl
theorem strs_of (h : WT Try.prog n 42 ds) : ∃ l : List ByteArray, ds = [.sl l.length 1 (l.map dstr)] := by
  obtain ⟨m, rfl, els, rfl, _, he⟩ := h.elems w42
  obtain ⟨l, e1, e2, _⟩ := elems_of (enc := fun s => [dstr s]) (Q := fun _ => True) fun x hx => let ⟨s, hs⟩ := (he x hx).text w9; ⟨s, hs, trivial⟩
  exact ⟨l, by rw [e1, e2, List.map_eq_flatMap]⟩
theorem ids_of (h : WT Try.prog n 77 ds) : ∃ l : List IdT, ds = [.sl l.length 3 (l.flatMap IdT.enc)] := by
  obtain ⟨m, rfl, els, rfl, _, he⟩ := h.elems w77
  obtain ⟨l, e1, e2, _⟩ := elems_of (enc := IdT.enc) (Q := fun _ => True) fun x hx => let ⟨s, hs⟩ := id_of (he x hx); ⟨s, hs, trivial⟩
  exact ⟨l, by rw [e1, e2]⟩
theorem ints_of (h : WT Try.prog n 22 ds) : ∃ l : List Int, ds = [dints l] ∧ ∀ x ∈ l, InI x := by
  obtain ⟨m, rfl, els, rfl, _, he⟩ := h.elems w22
  obtain ⟨l, e1, e2, e3⟩ := elems_of (enc := fun z => [dint z]) (Q := InI) fun x hx => (he x hx).int w3
  exact ⟨l, by rw [e1, e2, dints, List.map_eq_flatMap], e3⟩
theorem ex_of : ∀ (n : Nat) (ds : List D), WT Try.prog n 44 ds → ∃ t : Ex, ds = t.enc := by
  intro n
  induction n using Nat.strongRecOn with
  | _ n ih =>
    intro ds h
    obtain ⟨m, rfl, a1, b1, rfl, h1, a2, b2, rfl, h2, a3, b3, rfl, h3, a4, b4, rfl, h4, a5, b5, rfl, h5, a6, b6, rfl, h6, a7, b7, rfl, h7, rfl⟩ := h.fields w44
    obtain ⟨i, rfl⟩ := id_of h1
    obtain ⟨k, rfl, _⟩ := h2.int w3
    obtain ⟨q, rfl, _⟩ := h3.int w3
    obtain ⟨r, rfl⟩ := id_of h4
    obtain ⟨t, rfl⟩ := ty_of _ _ h5
    obtain ⟨s, rfl⟩ := strs_of h7
    obtain ⟨m, rfl, els, rfl, _, he⟩ := h6.elems w41
    obtain ⟨l, e1, e2, _⟩ := elems_of (enc := Ex.enc) (Q := fun _ => True) fun x hx => let ⟨t, ht⟩ := ih m (by omega) x (he x hx); ⟨t, ht, trivial⟩
    refine ⟨.mk i k q r t l s, ?_⟩
    rw [e1, e2, Ex.enc_eq, Ty.enc_eq]
    rfl
theorem slot_of (h : WT Try.prog n 66 ds) : ∃ s : SlotT, ds = s.enc := by
  obtain ⟨m, rfl, a1, b1, rfl, h1, a2, b2, rfl, h2, a3, b3, rfl, h3, a4, b4, rfl, h4, a5, b5, rfl, h5, rfl⟩ := h.fields w66
  obtain ⟨i, rfl⟩ := id_of h1
  obtain ⟨s, rfl⟩ := h2.text w9
  obtain ⟨t, rfl⟩ := ty_of _ _ h3
  obtain ⟨k, rfl, _⟩ := h4.int w3
  obtain ⟨q, rfl, _⟩ := h5.int w3
  refine ⟨⟨i, s, t, k, q⟩, ?_⟩
  rw [SlotT.enc, Ty.enc_eq]
  rfl
theorem def_of (h : WT Try.prog n 46 ds) : ∃ d : DefT, ds = d.enc := by
  obtain ⟨m, rfl, a1, b1, rfl, h1, a2, b2, rfl, h2, a3, b3, rfl, h3, a4, b4, rfl, h4, a5, b5, rfl, h5, a6, b6, rfl, h6, a7, b7, rfl, h7, a8, b8, rfl, h8, a9, b9, rfl, h9, rfl⟩ := h.fields w46
  obtain ⟨i, rfl⟩ := id_of h1
  obtain ⟨k, rfl, _⟩ := h2.int w3
  obtain ⟨j, rfl⟩ := id_of h3
  obtain ⟨s, rfl⟩ := h4.text w9
  obtain ⟨m, rfl, els, rfl, _, he⟩ := h5.elems w40
  obtain ⟨l, e1, e2, _⟩ := elems_of (enc := SlotT.enc) (Q := fun _ => True) fun x hx => let ⟨t, ht⟩ := slot_of (he x hx); ⟨t, ht, trivial⟩
  obtain ⟨t, rfl⟩ := ty_of _ _ h6
  obtain ⟨e, rfl⟩ := ex_of _ _ h7
  obtain ⟨q, rfl, _⟩ := h8.int w3
  obtain ⟨y, rfl⟩ := strs_of h9
  refine ⟨⟨i, k, j, s, l, t, e, q, y⟩, ?_⟩
  rw [e1, e2, DefT.enc, Ty.enc_eq, Ex.enc_eq]
  rfl
theorem mod_of (h : WT Try.prog n 79 ds) : ∃ s : ModT, ds = s.enc := by
  obtain ⟨m, rfl, a1, b1, rfl, h1, a2, b2, rfl, h2, a3, b3, rfl, h3, a4, b4, rfl, h4, rfl⟩ := h.fields w79
  obtain ⟨i, rfl⟩ := id_of h1
  obtain ⟨s, rfl⟩ := h2.text w9
  obtain ⟨t, rfl⟩ := ids_of h3
  obtain ⟨k, rfl⟩ := ids_of h4
  exact ⟨⟨i, s, t, k⟩, rfl⟩
theorem prog_of (h : WT Try.prog n 26 ds) : ∃ p : ProgT, ds = p.enc := by
  obtain ⟨m, rfl, a1, b1, rfl, h1, a2, b2, rfl, h2, rfl⟩ := h.fields w26
  obtain ⟨m, rfl, els, rfl, _, he⟩ := h1.elems w23
  obtain ⟨l, e1, e2, _⟩ := elems_of (enc := ModT.enc) (Q := fun _ => True) fun x hx => let ⟨t, ht⟩ := mod_of (he x hx); ⟨t, ht, trivial⟩
  obtain ⟨m', e0, els', rfl, _, he'⟩ := h2.elems w24
  obtain ⟨l', e1', e2', _⟩ := elems_of (enc := DefT.enc) (Q := fun _ => True) fun x hx => let ⟨t, ht⟩ := def_of (he' x hx); ⟨t, ht, trivial⟩
  refine ⟨⟨l, l'⟩, ?_⟩
  rw [e1, e2, e1', e2', ProgT.enc]
  rfl
end
/-! ### One argument after the other -/
section
variable {M : Mem} {ts : List TypeId} {vs : List Value}
theorem arg_ints (h : ArgsW Try.prog M (22 :: ts) vs) : ∃ (l : List Int) (v : Value) (vs' : List Value), vs = v :: vs' ∧ Rd M (dints l) v ∧ (∀ x ∈ l, InI x) ∧ ArgsW Try.prog M ts vs' := by
  obtain ⟨n, ds, us, v, vs', rfl, h1, h2, h3, h4⟩ := h.inv
  obtain ⟨l, rfl, hl⟩ := ints_of h2
  simp only [SlotOf, Try.underlying22] at h3
  subst h3
  exact ⟨l, v, vs', rfl, h1.2 0 _ _ rfl rfl, hl, h4⟩
theorem arg_int (h : ArgsW Try.prog M (3 :: ts) vs) : ∃ (z : Int) (vs' : List Value), vs = vint z :: vs' ∧ InI z ∧ ArgsW Try.prog M ts vs' := by
  obtain ⟨n, ds, us, v, vs', rfl, h1, h2, h3, h4⟩ := h.inv
  obtain ⟨z, rfl, hz⟩ := h2.int w3
  simp only [SlotOf, Try.underlying3] at h3
  subst h3
  have h5 := h1.2 0 _ _ rfl rfl
  obtain rfl := Rd.int_eq h5
  exact ⟨z, vs', rfl, hz, h4⟩
theorem arg_prog (h : ArgsW Try.prog M (26 :: ts) vs) : ∃ (p : ProgT) (us vs' : List Value), vs = .agg us.toArray :: vs' ∧ RdL M p.enc us ∧ ArgsW Try.prog M ts vs' := by
  obtain ⟨n, ds, us, v, vs', rfl, h1, h2, h3, h4⟩ := h.inv
  obtain ⟨p, rfl⟩ := prog_of h2
  simp only [SlotOf, Try.underlying26] at h3
  subst h3
  exact ⟨p, us, vs', rfl, h1, h4⟩
theorem arg_ty (h : ArgsW Try.prog M (31 :: ts) vs) : ∃ (t : Ty) (us vs' : List Value), vs = .agg us.toArray :: vs' ∧ RdL M t.enc us ∧ ArgsW Try.prog M ts vs' := by
  obtain ⟨n, ds, us, v, vs', rfl, h1, h2, h3, h4⟩ := h.inv
  obtain ⟨p, rfl⟩ := ty_of _ _ h2
  simp only [SlotOf, Try.underlying31] at h3
  subst h3
  exact ⟨p, us, vs', rfl, h1, h4⟩
theorem arg_val (h : ArgsW Try.prog M (53 :: ts) vs) : ∃ (t : Val) (us vs' : List Value), vs = .agg us.toArray :: vs' ∧ RdL M t.enc us ∧ t.Ok ∧ ArgsW Try.prog M ts vs' := by
  obtain ⟨n, ds, us, v, vs', rfl, h1, h2, h3, h4⟩ := h.inv
  obtain ⟨p, rfl, hp⟩ := val_of _ _ h2
  simp only [SlotOf, Try.underlying53] at h3
  subst h3
  exact ⟨p, us, vs', rfl, h1, hp, h4⟩
theorem arg_id (h : ArgsW Try.prog M (28 :: ts) vs) : ∃ (i : IdT) (vs' : List Value), vs = .agg i.vals.toArray :: vs' ∧ ArgsW Try.prog M ts vs' := by
  obtain ⟨n, ds, us, v, vs', rfl, h1, h2, h3, h4⟩ := h.inv
  obtain ⟨i, rfl⟩ := id_of h2
  simp only [SlotOf, Try.underlying28] at h3
  subst h3
  obtain ⟨v0, t0, rfl, r0, h1⟩ := h1.uncons
  obtain ⟨v1, t1, rfl, r1, h1⟩ := h1.uncons
  obtain ⟨v2, t2, rfl, r2, h1⟩ := h1.uncons
  obtain rfl := h1.unnil
  obtain rfl := r0.int_eq
  obtain rfl := r1.int_eq
  obtain rfl := r2.int_eq
  exact ⟨i, vs', rfl, h4⟩
end
end Go.Proofs.Ytfgkhhfkodlbpaa
