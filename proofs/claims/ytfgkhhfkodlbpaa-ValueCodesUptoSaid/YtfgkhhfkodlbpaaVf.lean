/- THE WALKS, 6: searches that turn a state; small values. Printed by m04f.py. -/
import Derived.Test.YtfgkhhfkodlbpaaVe
namespace Go.Proofs.Ytfgkhhfkodlbpaa
open Xe

theorem idxS_ok {σ : Type} (w0 : World) (M : Mem) (Γ : List As) (xs : List Val) (u : Value) (fn : FuncId) (cap : Array Value) (q : Val → σ → Bool × σ) (G : σ → List As) (Inv : σ → Prop) (s : σ) (hfn : funcB Try.prog fn = true) (hu : Kn w0 M (G s ++ Γ) (Rd M (.sl xs.length 3 (xs.flatMap Val.enc)) u)) (h0 : Inv s) (hi : ∀ x ∈ xs, ∀ s, Inv s → (q x s).1 = false → Inv (q x s).2)
    (hq : ∀ x ∈ xs, ∀ us s Γ', Inv s → RdL M x.enc us → CallOk Try.prog w0 M (G s ++ Γ') fn (#[] ++ #[.agg us.toArray] ++ cap) (fun u M' Γ2 => u = .bool (q x s).1 ∧ M' = M ∧ Γ2 = G (q x s).2 ++ Γ')) :
    CallOk Try.prog w0 M (G s ++ Γ) 72 #[u, .func (.func fn) #[] cap] (fun u M' Γ2 => ∃ i : Int, u = vint i ∧ (0 ≤ i ↔ (contS q xs s).1 = true) ∧ M' = M ∧ Γ2 = G (contS q xs s).2 ++ Γ) := by
  refine CallOk.kn hu fun hu => ?_
  obtain ⟨a1, c1, rfl, hc1, hlim1, hlen1⟩ := hu.slice
  refine enter (f := 72) Try.func72 rfl Try.ntmps72 rfl rfl fun w1 hw1 => ?_
  refine CW.addRd hu ?_
  refine CW.perm List.perm_middle.symm ?_
  refine CW.seq fun K1 hK1 => ?_
  refine CW.region ?_
  refine RL.q (Y.assign rfl) rfl ?_
  refine RL.nil ?_
  refine hK1 _ _ _ ?_
  refine CW.kp [0, 1] rfl ?_
  refine CW.seq fun K2 hK2 => ?_
  refine CW.seq fun K3 hK3 => ?_
  refine CW.region ?_
  refine RL.q (Y.move rfl) rfl ?_
  refine RL.q (Y.len rfl Try.underlying51) rfl ?_
  refine RL.q (Y.move rfl) rfl ?_
  refine RL.nil ?_
  refine hK3 _ _ _ ?_
  refine CW.kp [0, 1, 7, 8] rfl ?_
  refine CW.block ?_
  -- LOOP 1: live [0, 1, 7, 8] changed [8]
  refine CW.kp [8, 0, 1, 7] rfl ?_
  refine CW.loopF (fun m Lc M1 Γc => ∃ k : Nat, m = xs.length - k ∧ k ≤ xs.length ∧ Lc = [(8, vint k)] ∧ Γc = G (stS q xs s k) ∧ M1 = M ∧ Inv (stS q xs s k) ∧ ∀ j (hj : j < xs.length), j < k → (q xs[j] (stS q xs s j)).1 = false) xs.length [(8, _)] (G s) rfl rfl ⟨0, rfl, Nat.zero_le _, rfl, by simp [stS], rfl, by simpa [stS] using h0, fun _ _ h => absurd h (Nat.not_lt_zero _)⟩ ?_
  rintro m Lc M Γc hs ⟨k, rfl, hk, rfl, rfl, rfl, hI, hF0⟩
  refine CW.seq fun K4 hK4 => ?_
  refine CW.region ?_
  refine RL.q (Y.lss rfl rfl) rfl ?_
  refine RL.nil ?_
  refine hK4 _ _ _ ?_
  refine CW.kp [0, 1, 7, 8, 9] rfl ?_
  refine CW.seq fun K5 hK5 => ?_
  refine CW.ite rfl (fun h1 => ?_) (fun h1 => ?_)
  ·have hka : k < xs.length := by omega
   refine CW.skip ?_
   refine hK5 _ _ _ ?_
   refine CW.seq fun K6 hK6 => ?_
   refine CW.block ?_
   refine CW.seq fun K7 hK7 => ?_
   refine CW.region ?_
   refine RL.q (Y.move rfl) rfl ?_
   refine RL.q (Y.assign rfl) rfl ?_
   refine RL.nil ?_
   refine hK7 _ _ _ ?_
   refine CW.kp [0, 1, 5, 7, 8] rfl ?_
   refine CW.seq fun K8 hK8 => ?_
   refine CW.region ?_
   refine RL.q (Y.move rfl) rfl ?_
   refine RL.q (Y.move rfl) rfl ?_
   refine RL.q (Y.move rfl) rfl ?_
   refine RL.q (Y.index _ rfl rfl rfl AO slice51 SM) rfl ?_
   refine RL.loadAgg rfl rfl MM (Eq.trans (flat_take Val.enc_len _ _ _ (List.getElem?_eq_getElem AO)) (Val.enc_eq _)) (by rfl) agg53 rfl fun us15 hul15 hur15 => ?_
   refine RL.callf rfl hfn rfl rfl rfl (CallOk.perm List.perm_middle.symm (hq xs[k] (List.getElem_mem hka) us15 _ _ hI (by rw [Val.enc_eq]; exact hur15))) ?_
   rintro v16 M _ ⟨rfl, rfl, rfl⟩
   refine RL.nil ?_
   refine hK8 _ _ _ ?_
   refine CW.kp [0, 1, 5, 7, 8, 16] rfl ?_
   refine CW.cond rfl (fun h2 => ?_) (fun h2 => ?_)
   ·refine CW.seq fun K9 hK9 => ?_
    refine CW.region ?_
    refine RL.q (Y.move rfl) rfl ?_
    refine RL.q (Y.assign rfl) rfl ?_
    refine RL.nil ?_
    refine hK9 _ _ _ ?_
    refine CW.kp [4] rfl ?_
    refine CW.ret ?_
    have e := contS_hit hka hF0 h2
    exact ⟨_, rfl, Turn.drop ⟨_, rfl, by rw [e]; simp, rfl, by rw [e]⟩ (List.Sublist.append_left (by first | ((repeat (first | exact List.Sublist.refl _ | apply List.Sublist.cons)); done) | fail) _)⟩
   refine CW.skip ?_
   refine hK6 _ _ _ ?_
   refine CW.region ?_
   refine RL.q (Y.add rfl rfl OM) rfl ?_
   refine RL.q (Y.move rfl) rfl ?_
   refine RL.nil ?_
   refine ⟨xs.length - (k + 1), [(8, _)], ?_, (KP [8, 0, 1, 7]), ?_⟩
   · omega
   · exact Turn.drop ⟨G (stS q xs s (k + 1)), rfl, hs, k + 1, rfl, by omega, rfl, rfl, rfl, by rw [stS_succ q xs s k hka]; exact hi _ (List.getElem_mem hka) _ hI h2, fun j hj hlt => by by_cases e : j = k; subst e; exact h2; exact hF0 j hj OM⟩ (by rw [stS_succ q xs s k hka]; exact (List.Sublist.append_left (by first | ((repeat (first | exact List.Sublist.refl _ | apply List.Sublist.cons)); done) | fail) _))
  refine CW.exit ?_
  refine hK2 _ _ _ ?_
  refine CW.seq fun K10 hK10 => ?_
  refine CW.region ?_
  refine RL.q (Y.assign rfl) rfl ?_
  refine RL.nil ?_
  refine hK10 _ _ _ ?_
  refine CW.kp [4] rfl ?_
  refine CW.ret ?_
  have e := contS_miss (q := q) (l := xs) (s := s) (fun j hj => hF0 j hj OM)
  obtain rfl : k = xs.length := by omega
  exact ⟨_, rfl, Turn.drop ⟨_, rfl, by rw [e]; simp, rfl, by rw [e]⟩ (List.Sublist.append_left (by first | ((repeat (first | exact List.Sublist.refl _ | apply List.Sublist.cons)); done) | fail) _)⟩

theorem contS_ok {σ : Type} (w0 : World) (M : Mem) (Γ : List As) (xs : List Val) (u : Value) (fn : FuncId) (cap : Array Value) (q : Val → σ → Bool × σ) (G : σ → List As) (Inv : σ → Prop) (s : σ) (hfn : funcB Try.prog fn = true) (hu : Kn w0 M (G s ++ Γ) (Rd M (.sl xs.length 3 (xs.flatMap Val.enc)) u)) (h0 : Inv s) (hi : ∀ x ∈ xs, ∀ s, Inv s → (q x s).1 = false → Inv (q x s).2)
    (hq : ∀ x ∈ xs, ∀ us s Γ', Inv s → RdL M x.enc us → CallOk Try.prog w0 M (G s ++ Γ') fn (#[] ++ #[.agg us.toArray] ++ cap) (fun u M' Γ2 => u = .bool (q x s).1 ∧ M' = M ∧ Γ2 = G (q x s).2 ++ Γ')) :
    CallOk Try.prog w0 M (G s ++ Γ) 66 #[u, .func (.func fn) #[] cap] (fun u M' Γ2 => u = .bool (contS q xs s).1 ∧ M' = M ∧ Γ2 = G (contS q xs s).2 ++ Γ) := by
  refine enter (f := 66) Try.func66 rfl Try.ntmps66 rfl rfl fun w1 hw1 => ?_
  refine CW.seq fun K1 hK1 => ?_
  refine CW.region ?_
  refine RL.q (Y.assign rfl) rfl ?_
  refine RL.nil ?_
  refine hK1 _ _ _ ?_
  refine CW.kp [0, 1] rfl ?_
  refine CW.seq fun K2 hK2 => ?_
  refine CW.region ?_
  refine RL.q (Y.move rfl) rfl ?_
  refine RL.q (Y.move rfl) rfl ?_
  refine RL.call rfl func72 rfl rfl (idxS_ok w0 M Γ xs u fn cap q G Inv s hfn hu h0 hi hq) ?_
  rintro v7 M _ ⟨i, rfl, hiff, rfl, rfl⟩
  refine RL.q (Y.geq rfl rfl) rfl ?_
  refine RL.q (Y.assign rfl) rfl ?_
  refine RL.nil ?_
  refine hK2 _ _ _ ?_
  refine CW.kp [4] rfl ?_
  refine CW.ret ?_
  exact ⟨_, rfl, Turn.drop ⟨vbB hiff, rfl, rfl⟩ SB⟩

theorem notv_ok (N : Nat) (ih : ∀ (w0 : World) (M : Mem) (Γ : List As) (v : Val) (us : List Value) (d l : Int) (bl bf : Nat), v.size < N → 0 ≤ l → l ≤ 256 → 1 ≤ d → d ≤ 25 → RdL M v.enc us →
    CallOk Try.prog w0 M (.own bl 3 [vint l] :: .own bf 102 [(.func (.func 65) #[] #[.pointer (some (adr (some ⟨bl, 0, none⟩) 0)), .pointer (some (adr (some ⟨bf, 0, none⟩) 0))])] :: Γ) 65 #[.agg us.toArray, vint d, .pointer (some (adr (some ⟨bl, 0, none⟩) 0)), .pointer (some (adr (some ⟨bf, 0, none⟩) 0))]
      (fun u M' Γ' => u = .bool (visitV v d l).1 ∧ M' = M ∧ Γ' = .own bl 3 [vint (visitV v d l).2] :: .own bf 102 [(.func (.func 65) #[] #[.pointer (some (adr (some ⟨bl, 0, none⟩) 0)), .pointer (some (adr (some ⟨bf, 0, none⟩) 0))])] :: Γ))
    (w0 : World) (M : Mem) (Γ : List As) (v : Val) (us : List Value) (d l : Int) (bl bf bd : Nat) (hv : v.size < N) (h0 : 0 ≤ l) (h1 : l ≤ 256) (hd : 1 ≤ d) (hd2 : d ≤ 24) (hus : RdL M v.enc us) :
    CallOk Try.prog w0 M (.own bl 3 [vint l] :: .own bf 102 [(.func (.func 65) #[] #[.pointer (some (adr (some ⟨bl, 0, none⟩) 0)), .pointer (some (adr (some ⟨bf, 0, none⟩) 0))])] :: .own bd 3 [vint d] :: Γ) 67 #[.agg us.toArray, .pointer (some (adr (some ⟨bf, 0, none⟩) 0)), .pointer (some (adr (some ⟨bd, 0, none⟩) 0))]
      (fun u M' Γ' => u = .bool (notQ (d + 1) v l).1 ∧ M' = M ∧ Γ' = .own bl 3 [vint (notQ (d + 1) v l).2] :: .own bf 102 [(.func (.func 65) #[] #[.pointer (some (adr (some ⟨bl, 0, none⟩) 0)), .pointer (some (adr (some ⟨bf, 0, none⟩) 0))])] :: .own bd 3 [vint d] :: Γ) := by
  rw [Val.enc_eq] at hus
  refine enter (f := 67) Try.func67 rfl Try.ntmps67 rfl rfl fun w1 hw1 => ?_
  refine CW.addRds hus ?_
  refine CW.seq fun K1 hK1 => ?_
  refine CW.region ?_
  refine RL.box _ rfl rfl rfl fun b3 => ?_
  refine RL.q (Y.assign rfl) rfl ?_
  refine RL.nil ?_
  refine hK1 _ _ _ ?_
  refine CW.kp [1, 2, 3] rfl ?_
  refine CW.seq fun K2 hK2 => ?_
  refine CW.region ?_
  refine RL.q (Y.loadOwn rfl MM (by rfl) flat102) rfl ?_
  refine RL.q (Y.loadAllR rfl MM MM EL agg53) rfl ?_
  refine RL.q (Y.loadOwn rfl MM (by rfl) flat3) rfl ?_
  refine RL.q (Y.add rfl rfl OM) rfl ?_
  refine RL.callf rfl func65 rfl rfl rfl (CallOk.pick (x := .own bf 102 [(.func (.func 65) #[] #[.pointer (some (adr (some ⟨bl, 0, none⟩) 0)), .pointer (some (adr (some ⟨bf, 0, none⟩) 0))])]) PK (CallOk.pick (x := .own bl 3 [vint l]) PK (ih _ _ _ v _ (d + 1) l bl bf hv h0 h1 OM OM (by rw [Val.enc_eq]; exact hus)))) ?_
  rintro v9 M _ ⟨rfl, rfl, rfl⟩
  refine RL.q (Y.not rfl) rfl ?_
  refine RL.q (Y.assign rfl) rfl ?_
  refine RL.nil ?_
  refine hK2 _ _ _ ?_
  refine CW.kp [4] rfl ?_
  refine CW.ret ?_
  exact ⟨_, rfl, Turn.drop ⟨rfl, rfl, rfl⟩ SB⟩

theorem visit_ok (N : Nat) : ∀ (w0 : World) (M : Mem) (Γ : List As) (v : Val) (us : List Value) (d l : Int) (bl bf : Nat), v.size = N → 0 ≤ l → l ≤ 256 → 1 ≤ d → d ≤ 25 → RdL M v.enc us →
    CallOk Try.prog w0 M (.own bl 3 [vint l] :: .own bf 102 [(.func (.func 65) #[] #[.pointer (some (adr (some ⟨bl, 0, none⟩) 0)), .pointer (some (adr (some ⟨bf, 0, none⟩) 0))])] :: Γ) 65 #[.agg us.toArray, vint d, .pointer (some (adr (some ⟨bl, 0, none⟩) 0)), .pointer (some (adr (some ⟨bf, 0, none⟩) 0))]
      (fun u M' Γ' => u = .bool (visitV v d l).1 ∧ M' = M ∧ Γ' = .own bl 3 [vint (visitV v d l).2] :: .own bf 102 [(.func (.func 65) #[] #[.pointer (some (adr (some ⟨bl, 0, none⟩) 0)), .pointer (some (adr (some ⟨bf, 0, none⟩) 0))])] :: Γ) := by
  induction N using Nat.strongRecOn
  rename_i N ih
  intro w0 M Γ v us d l bl bf hN h0 hl hd hd2 hus
  rw [Val.enc_eq] at hus
  have hvv := visitV_eq v d l
  refine enter (f := 65) Try.func65 rfl Try.ntmps65 rfl rfl fun w1 hw1 => ?_
  refine CW.addRds hus ?_
  refine CW.seq fun K1 hK1 => ?_
  refine CW.region ?_
  refine RL.box _ rfl rfl rfl fun b4 => ?_
  refine RL.box _ rfl rfl rfl fun b5 => ?_
  refine RL.q (Y.assign rfl) rfl ?_
  refine RL.nil ?_
  refine hK1 _ _ _ ?_
  refine CW.kp [2, 3, 4, 5] rfl ?_
  refine CW.seq fun K2 hK2 => ?_
  refine CW.region ?_
  refine RL.q (Y.loadOwn rfl MM (by rfl) flat3) rfl ?_
  refine RL.q (Y.sub rfl rfl OM) rfl ?_
  refine RL.store _ rfl rfl RP (by rfl) (by simp) (by rfl) size3 ?_
  refine RL.nil ?_
  refine hK2 _ _ _ ?_
  refine CW.kp [2, 3, 4, 5] rfl ?_
  refine CW.seq fun K3 hK3 => ?_
  refine CW.region ?_
  refine RL.q (Y.loadOwn rfl MM (by rfl) flat3) rfl ?_
  refine RL.qs (Y.geq rfl rfl) rfl (fun g10 => ?_) (fun g10 => ?_)
  ·refine RL.q (Y.move rfl) rfl ?_
   refine RL.qg WG (Y.loadOwn rfl MM (by rfl) flat3) rfl ?_
   refine RL.qgs WG (Y.leq rfl rfl) rfl (fun g13 => ?_) (fun g13 => ?_)
   ·refine RL.q (Y.pickT rfl rfl) rfl ?_
    refine RL.q (Y.move rfl) rfl ?_
    refine RL.qg WG (Y.field rfl field53_2) rfl ?_
    refine RL.loadOwnSl WG rfl MM MM (by rfl) flat51 rfl fun a17 c17 hu17 hc17 hl17 => ?_
    refine RL.qg WG (Y.makeFunc rfl rfl) rfl ?_
    refine RL.kn (Kn.rd (d := .sl v.kids.length 3 (v.kids.flatMap Val.enc)) MM) fun hkids => ?_
    refine RL.call WG func66 rfl rfl (CallOk.pick (x := .own b5 3 [vint d]) PK (CallOk.pick (x := .own bf 102 [(.func (.func 65) #[] #[.pointer (some (adr (some ⟨bl, 0, none⟩) 0)), .pointer (some (adr (some ⟨bf, 0, none⟩) 0))])]) PK (CallOk.pick (x := .own bl 3 [vint (l - 1)]) PK (contS_ok _ _ _ v.kids _ 67 _ (notQ (d + 1)) (fun s => [.own bl 3 [vint s], .own bf 102 [(.func (.func 65) #[] #[.pointer (some (adr (some ⟨bl, 0, none⟩) 0)), .pointer (some (adr (some ⟨bf, 0, none⟩) 0))])], .own b5 3 [vint d]]) (fun s => 0 ≤ s ∧ s ≤ 256) (l - 1) func67 (Kn.of hkids) OM (fun x hx s hs hf => by have h1 := visitV_range x (d + 1) s hs.1; exact ⟨h1.2 (by simpa [notQ] using hf), Int.le_trans h1.1 hs.2⟩) (fun x hx us s Γ2 hs hr => notv_ok N (fun w0 M Γ v us d l bl bf h => ih _ h w0 M Γ v us d l bl bf rfl) _ _ _ x us d s bl bf b5 (hN ▸ Val.size_kid hx) hs.1 hs.2 hd OM hr))))) ?_
    rintro v19 M _ ⟨rfl, rfl, rfl⟩
    rw [contS_visit]
    refine RL.qg WG (Y.not rfl) rfl ?_
    refine RL.q (Y.pickT rfl rfl) rfl ?_
    refine RL.q (Y.assign rfl) rfl ?_
    refine RL.nil ?_
    refine hK3 _ _ _ ?_
    refine CW.kp [6] rfl ?_
    refine CW.ret ?_
    (have e : visitV v d l = visitVs v.kids (d + 1) (l - 1) := by first | (rw [hvv, if_pos ⟨g10, g13⟩]; done) | fail)
    exact ⟨_, rfl, Turn.drop ⟨by rw [e]; simp, rfl, by rw [e]⟩ SB⟩
   refine RL.q (Y.pickT rfl rfl) rfl ?_
   refine RL.q (Y.move rfl) rfl ?_
   refine RL.no WG rfl ?_
   refine RL.no WG rfl ?_
   refine RL.no WG rfl ?_
   refine RL.no WG rfl ?_
   refine RL.no WG rfl ?_
   refine RL.q (Y.pickF rfl rfl) rfl ?_
   refine RL.q (Y.assign rfl) rfl ?_
   refine RL.nil ?_
   refine hK3 _ _ _ ?_
   refine CW.kp [6] rfl ?_
   refine CW.ret ?_
   (have e : visitV v d l = (false, l - 1) := by first | (rw [hvv, if_neg (fun h => g10 h.1)]; done) | (rw [hvv, if_neg (fun h => g13 h.2)]; done) | fail)
   exact ⟨_, rfl, Turn.drop ⟨by rw [e], rfl, by rw [e]⟩ SB⟩
  refine RL.q (Y.move rfl) rfl ?_
  refine RL.no WG rfl ?_
  refine RL.no WG rfl ?_
  refine RL.q (Y.pickF rfl rfl) rfl ?_
  refine RL.q (Y.move rfl) rfl ?_
  refine RL.no WG rfl ?_
  refine RL.no WG rfl ?_
  refine RL.no WG rfl ?_
  refine RL.no WG rfl ?_
  refine RL.no WG rfl ?_
  refine RL.q (Y.pickF rfl rfl) rfl ?_
  refine RL.q (Y.assign rfl) rfl ?_
  refine RL.nil ?_
  refine hK3 _ _ _ ?_
  refine CW.kp [6] rfl ?_
  refine CW.ret ?_
  (have e : visitV v d l = (false, l - 1) := by first | (rw [hvv, if_neg (fun h => g10 h.1)]; done) | (rw [hvv, if_neg (fun h => g13 h.2)]; done) | fail)
  exact ⟨_, rfl, Turn.drop ⟨by rw [e], rfl, by rw [e]⟩ SB⟩

theorem small_ok (w0 : World) (M : Mem) (Γ : List As) (v : Val) (usv : List Value)  (hv : Kn w0 M Γ (RdL M v.enc usv))  :
    CallOk Try.prog w0 M Γ 50 #[.agg usv.toArray] (Is M Γ (.bool (decide (smallV v)))) := by
  refine CallOk.kn hv fun hv => ?_
  rw [Val.enc_eq] at hv
  refine enter (f := 50) Try.func50 rfl Try.ntmps50 rfl rfl fun w1 hw1 => ?_
  refine CW.addRds hv ?_
  refine CW.seq fun K1 hK1 => ?_
  refine CW.region ?_
  refine RL.box _ rfl rfl rfl fun b1 => ?_
  refine RL.q (Y.assign rfl) rfl ?_
  refine RL.nil ?_
  refine hK1 _ _ _ ?_
  refine CW.kp [1] rfl ?_
  refine CW.seq fun K2 hK2 => ?_
  refine CW.region ?_
  refine RL.alloc _ zero3 rfl rfl fun b3 => ?_
  refine RL.store _ rfl rfl RP (by rfl) (by simp) (by rfl) size3 ?_
  refine RL.nil ?_
  refine hK2 _ _ _ ?_
  refine CW.kp [1, 3] rfl ?_
  refine CW.seq fun K3 hK3 => ?_
  refine CW.region ?_
  refine RL.alloc _ zero102 rfl rfl fun b4 => ?_
  refine RL.nil ?_
  refine hK3 _ _ _ ?_
  refine CW.kp [1, 3, 4] rfl ?_
  refine CW.seq fun K4 hK4 => ?_
  refine CW.region ?_
  refine RL.q (Y.makeFunc rfl rfl) rfl ?_
  refine RL.store _ rfl rfl RP (by rfl) (by simp) (by rfl) size102 ?_
  refine RL.nil ?_
  refine hK4 _ _ _ ?_
  refine CW.kp [1, 4] rfl ?_
  refine CW.seq fun K5 hK5 => ?_
  refine CW.region ?_
  refine RL.q (Y.loadOwn rfl MM (by rfl) flat102) rfl ?_
  refine RL.q (Y.loadAllR rfl MM MM EL agg53) rfl ?_
  refine RL.callf rfl func65 rfl rfl rfl (CallOk.pick (x := .own b4 102 [.func (.func 65) #[] #[.pointer (some (adr (some ⟨b3, 0, none⟩) 0)), .pointer (some (adr (some ⟨b4, 0, none⟩) 0))]]) PK (CallOk.pick (x := .own b3 3 [vint 256]) PK (visit_ok _ _ _ _ v _ 1 256 b3 b4 rfl OM OM OM OM (by rw [Val.enc_eq]; exact hv)))) ?_
  rintro v8 M _ ⟨rfl, rfl, rfl⟩
  refine RL.q (Y.assign rfl) rfl ?_
  refine RL.nil ?_
  refine hK5 _ _ _ ?_
  refine CW.kp [2] rfl ?_
  refine CW.ret ?_
  exact ⟨_, rfl, Turn.drop ⟨(vbB Iff.rfl).symm, rfl, rfl⟩ SB⟩
end Go.Proofs.Ytfgkhhfkodlbpaa
