/- THE WALKS, 28: encodings of values, reading values, by the reference. Printed by m04G.py. -/
import Derived.Test.YtfgkhhfkodlbpaaVF
namespace Go.Proofs.Ytfgkhhfkodlbpaa
open Xe

theorem rencode_ok (N : Nat) : ∀ (w0 : World) (M : Mem) (Γ : List As) (v : Val) (usv : List Value) , v.size = N → Kn w0 M Γ (RdL M v.enc usv) → v.Ok → v.size ≤ 1099511627776 → 
    CallOk Try.prog w0 M Γ 36 #[.agg usv.toArray] (Gives M Γ fun M' u => Rd M' (dbytes (encV v)) u) := by
  induction N using Nat.strongRecOn
  rename_i N ih
  intro w0 M Γ v usv hN hv hok hsz
  have hik := hok.kind
  have hin := hok.n
  have hks := kids_le_size v
  have hil : InI (v.kids.length : Int) := by unfold InI; omega
  have hl1 := encI_len hik
  have hl2 := encI_len hin
  have hl3 := encI_len hil
  refine CallOk.kn hv fun hv => ?_
  rw [Val.enc_eq] at hv
  refine enter (f := 36) Try.func36 rfl Try.ntmps36 rfl rfl fun w1 hw1 => ?_
  refine CW.addRds hv ?_
  refine CW.seq fun K1 hK1 => ?_
  refine CW.region ?_
  refine RL.box _ rfl rfl rfl fun b1 => ?_
  refine RL.q (Y.assign rfl) rfl ?_
  refine RL.nil ?_
  refine hK1 _ _ _ ?_
  refine CW.kp [1] rfl ?_
  refine CW.seq fun K2 hK2 => ?_
  refine CW.region ?_
  refine RL.q (Y.assign rfl) rfl ?_
  refine RL.nil ?_
  refine hK2 _ _ _ ?_
  refine CW.kp [1, 3] rfl ?_
  refine CW.seq fun K3 hK3 => ?_
  refine CW.accNil 5 1 ?_
  refine CW.region ?_
  refine RL.q (Y.move rfl) rfl ?_
  refine RL.q (Y.field rfl field53_0) rfl ?_
  refine RL.q (Y.loadOwnV rfl MM MM (by rfl) flat3) rfl ?_
  refine RL.call rfl func59 rfl rfl (by exact rint_ok _ _ _ v.kind hik) ?_
  rintro v8 M8 _ ⟨hs8, rfl, hr8⟩
  obtain ⟨a8, c8, rfl, hc8, hlim8, hln8⟩ := hr8.slice
  refine RL.addRd hr8 ?_
  refine RL.appendRd elem69 rfl rfl PK MM OM (by unfold lim; omega) rfl fun a9 c9 n9 hc9 hn9 => ?_
  obtain rfl := bytes_of_rd hn9
  refine RL.q (Y.assign rfl) rfl ?_
  refine RL.nil ?_
  refine hK3 _ _ _ ?_
  refine CW.kp [1, 3] rfl ?_
  refine CW.seq fun K4 hK4 => ?_
  refine CW.region ?_
  refine RL.q (Y.move rfl) rfl ?_
  refine RL.q (Y.field rfl field53_1) rfl ?_
  refine RL.q (Y.loadOwnV rfl MM MM (by rfl) flat3) rfl ?_
  refine RL.call rfl func59 rfl rfl (by exact rint_ok _ _ _ v.n hin) ?_
  rintro v13 M13 _ ⟨hs13, rfl, hr13⟩
  obtain ⟨a13, c13, rfl, hc13, hlim13, hln13⟩ := hr13.slice
  refine RL.addRd hr13 ?_
  refine RL.appendRd elem69 rfl rfl PK MM OM (by unfold lim; omega) rfl fun a14 c14 n14 hc14 hn14 => ?_
  obtain rfl := bytes_of_rd hn14
  refine RL.q (Y.assign rfl) rfl ?_
  refine RL.nil ?_
  refine hK4 _ _ _ ?_
  refine CW.kp [1, 3] rfl ?_
  refine CW.seq fun K5 hK5 => ?_
  refine CW.region ?_
  refine RL.q (Y.move rfl) rfl ?_
  refine RL.q (Y.field rfl field53_2) rfl ?_
  refine RL.loadOwnSl rfl rfl MM MM (by rfl) flat51 rfl fun a17 c17 hu17 hc17 hl17 => ?_
  refine RL.q (Y.len rfl Try.underlying51) rfl ?_
  refine RL.call rfl func59 rfl rfl (by exact rint_ok _ _ _ (v.kids.length : Int) hil) ?_
  rintro v19 M19 _ ⟨hs19, rfl, hr19⟩
  obtain ⟨a19, c19, rfl, hc19, hlim19, hln19⟩ := hr19.slice
  refine RL.addRd hr19 ?_
  refine RL.appendRd elem69 rfl rfl PK MM OM (by unfold lim; omega) rfl fun a20 c20 n20 hc20 hn20 => ?_
  obtain rfl := bytes_of_rd hn20
  refine RL.q (Y.assign rfl) rfl ?_
  refine RL.nil ?_
  refine hK5 _ _ _ ?_
  refine CW.kp [1, 3] rfl ?_
  have eh : 0 + (encI v.kind).length + (encI v.n).length + (encI (v.kids.length : Int)).length = (headB v).length := by simp [headB]; omega
  have eb : [] ++ byteV (encI v.kind) ++ byteV (encI v.n) ++ byteV (encI (v.kids.length : Int)) = byteV (headB v) := by simp [headB, byteV]
  rw [eh, eb]
  refine CW.seq fun K6 hK6 => ?_
  refine CW.seq fun K7 hK7 => ?_
  refine CW.region ?_
  refine RL.q (Y.assign rfl) rfl ?_
  refine RL.nil ?_
  refine hK7 _ _ _ ?_
  refine CW.kp [1, 3, 4] rfl ?_
  refine CW.block ?_
  -- LOOP 1: live [1, 3, 4] changed [3, 4]
  refine CW.kp [3, 4, 1] rfl ?_
  refine CW.front (x := .acc (.slice a20 (headB v).length c20) 5 1 (headB v).length (byteV (headB v))) PK ?_
  refine CW.loopF (fun m Lc M1 Γc => ∃ (k : Nat) (ua : Option Addr) (ca : Nat), m = v.kids.length - k ∧ k ≤ v.kids.length ∧ Lc = [(3, .slice ua (headB v ++ encVs (v.kids.take k)).length ca), (4, vint k)] ∧ Γc = [.acc (.slice ua (headB v ++ encVs (v.kids.take k)).length ca) 5 1 (headB v ++ encVs (v.kids.take k)).length (byteV (headB v ++ encVs (v.kids.take k)))]) v.kids.length [(3, _), (4, _)] [_] rfl rfl ⟨0, a20, c20, rfl, Nat.zero_le _, by simp [encVs], by simp [encVs]⟩ ?_
  rintro m Lc M1 Γc hs ⟨k, ua, ca, rfl, hk, rfl, rfl⟩
  refine CW.seq fun K8 hK8 => ?_
  refine CW.seq fun K9 hK9 => ?_
  refine CW.region ?_
  refine RL.q (Y.move rfl) rfl ?_
  refine RL.q (Y.field rfl field53_2) rfl ?_
  refine RL.loadOwnSl rfl rfl MM MM (by rfl) flat51 rfl fun a23 c23 hu23 hc23 hl23 => ?_
  refine RL.q (Y.len rfl Try.underlying51) rfl ?_
  refine RL.q (Y.lss rfl rfl) rfl ?_
  refine RL.nil ?_
  refine hK9 _ _ _ ?_
  refine CW.kp [1, 3, 4, 25] rfl ?_
  refine CW.ite rfl (fun h1 => ?_) (fun h1 => ?_)
  ·have hka : k < v.kids.length := by omega
   have hb1 := encB_le hok hsz (k + 1)
   rw [encVs_succ _ _ hka, ← List.append_assoc, List.length_append] at hb1
   refine CW.skip ?_
   refine hK8 _ _ _ ?_
   refine CW.seq fun K10 hK10 => ?_
   refine CW.block ?_
   refine CW.region ?_
   refine RL.q (Y.move rfl) rfl ?_
   refine RL.q (Y.field rfl field53_2) rfl ?_
   refine RL.loadOwnSl rfl rfl MM MM (by rfl) flat51 rfl fun a30 c30 hu30 hc30 hl30 => ?_
   refine RL.q (Y.move rfl) rfl ?_
   refine RL.q (Y.index _ rfl rfl rfl AO slice51 SM) rfl ?_
   refine RL.loadAgg rfl rfl MM (Eq.trans (flat_take Val.enc_len _ _ _ (List.getElem?_eq_getElem AO)) (Val.enc_eq _)) (by rfl) agg53 rfl fun us33 hul33 hur33 => ?_
   refine RL.call rfl func36 rfl rfl (by exact ih _ (by rw [← hN]; exact Val.size_kid (List.getElem_mem hka)) _ _ _ v.kids[k] _ rfl (by first | exact Kn.val MM | fail) (hok.kid (List.getElem_mem hka)) (by have := Val.size_kid (List.getElem_mem hka); omega)) ?_
   rintro v34 M34 _ ⟨hs34, rfl, hr34⟩
   obtain ⟨a34, c34, rfl, hc34, hlim34, hln34⟩ := hr34.slice
   refine RL.addRd hr34 ?_
   refine RL.appendRd elem69 rfl rfl PK MM OM (by unfold lim; omega) rfl fun a35 c35 n35 hc35 hn35 => ?_
   refine RL.q (Y.assign rfl) rfl ?_
   refine RL.nil ?_
   refine hK10 _ _ _ ?_
   refine CW.kp [1, 3, 4] rfl ?_
   refine CW.region ?_
   refine RL.q (Y.move rfl) rfl ?_
   refine RL.q (Y.add rfl rfl OM) rfl ?_
   refine RL.q (Y.assign rfl) rfl ?_
   refine RL.nil ?_
   have e28 : (headB v ++ encVs (v.kids.take (k + 1))).length = (headB v ++ encVs (v.kids.take k)).length + (encV v.kids[k]).length := by rw [encVs_succ _ _ hka, ← List.append_assoc, List.length_append]
   refine ⟨v.kids.length - (k + 1), [(3, _), (4, _)], ?_, (KP [3, 4, 1]), ?_⟩
   · omega
   · refine Turn.drop (Γ' := [.acc (.slice a35 ((headB v ++ encVs (v.kids.take k)).length + (encV v.kids[k]).length) c35) 5 1 ((headB v ++ encVs (v.kids.take k)).length + (encV v.kids[k]).length) (byteV (headB v ++ encVs (v.kids.take k)) ++ n35)] ++ _) ⟨_, rfl, hs.trans hs34, k + 1, a35, c35, rfl, by omega, by rw [e28] <;> rfl, ?_⟩ SB
     rw [e28, encVs_succ _ _ hka, ← List.append_assoc, bytes_of_rd hn35]
     simp [byteV]
  refine CW.exit ?_
  refine hK6 _ _ _ ?_
  refine CW.seq fun K11 hK11 => ?_
  refine CW.region ?_
  refine RL.q (Y.move rfl) rfl ?_
  refine RL.q (Y.assign rfl) rfl ?_
  refine RL.nil ?_
  refine hK11 _ _ _ ?_
  refine CW.kp [2] rfl ?_
  refine CW.ret ?_
  obtain rfl : k = v.kids.length := by omega
  have hb1 := encB_le hok hsz v.kids.length
  have e : headB v ++ encVs (v.kids.take v.kids.length) = encV v := by rw [List.take_length, encV_head]
  rw [e] at hb1 ⊢
  exact ⟨_, rfl, Turn.sealAcc (ds := (encV v).map dbyte) PK (bytes_rd _) (by unfold lim; omega) SB fun M2 hs3 hr2 => ⟨hs8.trans (hs13.trans (hs19.trans (hs.trans hs3))), rfl, hr2⟩⟩

/-- What the reference's reading hands back. -/
def rdec (q : DR) (u : Value) (M : Mem) : Prop := ∃ us, u = .tuple #[.agg us.toArray, vint (if q.2.1 ≠ 0 then 0 else (q.2.2.2 : Nat)), vint (256 - q.2.2.1), vint q.2.1] ∧ RdL M q.1.enc us
theorem getI_le {b : List Nat} (a : Nat) (ha : a ≤ b.length) (h : (getI (b.drop a)).2.2 = 0) : ∃ k : Nat, (getI (b.drop a)).2.1 = (k : Int) ∧ a + k ≤ b.length ∧ 1 ≤ k := by
  have h1 := getI_size h
  rw [List.length_drop] at h1
  exact ⟨(getI (b.drop a)).2.1.toNat, by omega, by omega, by omega⟩

theorem nums3 {b : List Nat} {a k1 k2 k3 : Nat} (h1 : (getI (b.drop a)).2.2 = 0) (e1 : (getI (b.drop a)).2.1 = (k1 : Int)) (h2 : (getI (b.drop (a + k1))).2.2 = 0) (e2 : (getI (b.drop (a + k1))).2.1 = (k2 : Int)) (h3 : (getI (b.drop (a + k1 + k2))).2.2 = 0) (e3 : (getI (b.drop (a + k1 + k2))).2.1 = (k3 : Int)) :
    nums b 3 a [] = ([(getI (b.drop a)).1, (getI (b.drop (a + k1))).1, (getI (b.drop (a + k1 + k2))).1], 0, a + k1 + k2 + k3) := by
  rw [nums, if_neg (by simp [h1]), e1, Int.toNat_natCast, nums, if_neg (by simp [h2]), e2, Int.toNat_natCast, nums, if_neg (by simp [h3]), e3, Int.toNat_natCast, nums]
  rfl

theorem decN3 (g : Int → Nat → DR) (l x y z : Int) (a : Nat) : decN g l ([x, y, z], 0, a) = if z < 0 then (v0, 2, l, a) else dNode x y (decL g z.toNat l a) := by
  rw [decN, if_neg (by simp)]
  rfl

set_option maxHeartbeats 1000000 in
theorem rdec1_ok (n : Nat) : ∀ (w0 : World) (M : Mem) (Γ : List As) (b : List Nat) (ab : Option Addr) (cb : Nat) (d : Nat) (l : Int) (a : Nat), d + n = 25 → 1 ≤ d → 0 ≤ l → l ≤ 256 → a ≤ b.length → (∀ x ∈ b, x < 256) → Rd M (dbytes b) (.slice ab b.length cb) →
    CallOk Try.prog w0 M Γ 64 #[.slice ab b.length cb, vint (a : Nat), vint (d : Nat), vint (256 - l)] (Gives M Γ fun M' u => rdec (decF b n l a) u M') := by
  induction n using Nat.strongRecOn
  rename_i n ih
  intro w0 M Γ b ab cb d l a hd hd1 hl0 hl hab h256 hb
  obtain ⟨_, _, hsl0, hcb0, hlimb, _⟩ := hb.slice
  have hcb : b.length ≤ cb := by simp only [Value.slice.injEq] at hsl0; omega
  refine enterCell4 (f := 64) Try.func64 rfl Try.ntmps64 rfl rfl fun w1 hw1 => ?_
  refine CW.addRd hb ?_
  refine CW.seq fun K1 hK1 => ?_
  refine CW.region ?_
  refine RL.alloc _ zero53 rfl rfl fun b8 => ?_
  refine RL.q (Y.assign rfl) rfl ?_
  refine RL.q (Y.assign rfl) rfl ?_
  refine RL.q (Y.assign rfl) rfl ?_
  refine RL.nil ?_
  refine hK1 _ _ _ ?_
  refine CW.kp [0, 1, 2, 3, 8] rfl ?_
  refine CW.seq fun K2 hK2 => ?_
  refine CW.region ?_
  refine RL.q (Y.move rfl) rfl ?_
  refine RL.q (Y.add rfl rfl OM) rfl ?_
  refine RL.q (Y.assign rfl) rfl ?_
  refine RL.nil ?_
  refine hK2 _ _ _ ?_
  refine CW.kp [0, 1, 2, 3, 8] rfl ?_
  refine CW.seq fun K3 hK3 => ?_
  refine CW.seq fun K4 hK4 => ?_
  refine CW.region ?_
  refine RL.q (Y.move rfl) rfl ?_
  refine RL.qs (Y.gtr rfl rfl) rfl (fun g30 => ?_) (fun g30 => ?_)
  ·refine RL.q (Y.move rfl) rfl ?_
   refine RL.no WG rfl ?_
   refine RL.no WG rfl ?_
   refine RL.q (Y.pickT rfl rfl) rfl ?_
   refine RL.nil ?_
   refine hK4 _ _ _ ?_
   refine CW.kp [0, 1, 2, 3, 8, 34] rfl ?_
   refine CW.yes rfl ?_
   refine CW.seq fun K5 hK5 => ?_
   refine CW.region ?_
   refine RL.q (Y.build [_, _, _] rfl zero53 places53 (by rfl)) rfl ?_
   refine RL.q (Y.move rfl) rfl ?_
   refine RL.storeAgg _ rfl rfl RP (by rfl) (by first | (simp; done) | simp [IdT.vals]) (by first | (simp [Value.oneCell']; done) | simp [Value.oneCell', IdT.vals]) size53 ?_
   refine RL.q (Y.assign rfl) rfl ?_
   refine RL.q (Y.assign rfl) rfl ?_
   refine RL.q (Y.assign rfl) rfl ?_
   refine RL.nil ?_
   refine hK5 _ _ _ ?_
   refine CW.kp [8, 9, 10, 11] rfl ?_
   refine CW.ret ?_
   have e : decF b n l a = (v0, 4, l - 1, a) := by
     cases n with
     | zero => rfl
     | succ n => rw [decF, if_pos OM]
   refine ⟨_, _, _, rfl, rfl, rfl, ?_⟩
   exact CellAt.mk rfl MM (by first | rfl | exact EL | assumption) agg53 (Turn.drop ⟨Sub.refl _, rfl, _, (by rw [e, show 256 - (l - 1) = 256 - l + 1 from by omega] <;> rfl), by rw [e]; exact (by rw [Val.enc_eq]; exact (by repeat (first | exact RdL.nil _ | refine RdL.cons (by first | exact Rd.i _ | exact Rd.nilS | exact Rd.str _ | assumption) ?_)))⟩ SB)
  refine RL.q (Y.move rfl) rfl ?_
  refine RL.qg WG (Y.move rfl) rfl ?_
  refine RL.qg WG (Y.gtr rfl rfl) rfl ?_
  refine RL.q (Y.pickF rfl rfl) rfl ?_
  refine RL.nil ?_
  refine hK4 _ _ _ ?_
  refine CW.kp [0, 1, 2, 3, 8, 34] rfl ?_
  refine CW.ite rfl (fun h1 => ?_) (fun h1 => ?_)
  ·refine CW.seq fun K6 hK6 => ?_
   refine CW.region ?_
   refine RL.q (Y.build [_, _, _] rfl zero53 places53 (by rfl)) rfl ?_
   refine RL.q (Y.move rfl) rfl ?_
   refine RL.storeAgg _ rfl rfl RP (by rfl) (by first | (simp; done) | simp [IdT.vals]) (by first | (simp [Value.oneCell']; done) | simp [Value.oneCell', IdT.vals]) size53 ?_
   refine RL.q (Y.assign rfl) rfl ?_
   refine RL.q (Y.assign rfl) rfl ?_
   refine RL.q (Y.assign rfl) rfl ?_
   refine RL.nil ?_
   refine hK6 _ _ _ ?_
   refine CW.kp [8, 9, 10, 11] rfl ?_
   refine CW.ret ?_
   have e : decF b n l a = (v0, 4, l - 1, a) := by
     cases n with
     | zero => rfl
     | succ n => rw [decF, if_pos OM]
   refine ⟨_, _, _, rfl, rfl, rfl, ?_⟩
   exact CellAt.mk rfl MM (by first | rfl | exact EL | assumption) agg53 (Turn.drop ⟨Sub.refl _, rfl, _, (by rw [e, show 256 - (l - 1) = 256 - l + 1 from by omega] <;> rfl), by rw [e]; exact (by rw [Val.enc_eq]; exact (by repeat (first | exact RdL.nil _ | refine RdL.cons (by first | exact Rd.i _ | exact Rd.nilS | exact Rd.str _ | assumption) ?_)))⟩ SB)
  refine CW.skip ?_
  refine hK3 _ _ _ ?_
  refine CW.seq fun K7 hK7 => ?_
  obtain ⟨n, rfl⟩ : ∃ m, n = m + 1 := ⟨n - 1, by omega⟩
  have hl1 : ¬ l - 1 < 0 := by omega
  refine CW.region ?_
  refine RL.q (Y.move rfl) rfl ?_
  refine RL.q (Y.move rfl) rfl ?_
  refine RL.q (Y.slice (a) b.length cb rfl ⟨_, rfl, OM⟩ rfl rfl (by simp) OM OM OM slice69) rfl ?_
  refine RL.addRd (Rd.dropB hb (a) OM) ?_
  refine RL.callv rfl func71 rfl rfl (by exact rgetI_ok _ _ _ (b.drop (a)) _ (by exact Kn.rd MM) (fun x hx => h256 x (List.mem_of_mem_drop hx))) ?_
  refine RL.q (Y.move rfl) rfl ?_
  refine RL.q (Y.extract rfl rfl) rfl ?_
  refine RL.q (Y.extract rfl rfl) rfl ?_
  refine RL.q (Y.extract rfl rfl) rfl ?_
  refine RL.q (Y.assign rfl) rfl ?_
  refine RL.q (Y.assign rfl) rfl ?_
  refine RL.q (Y.assign rfl) rfl ?_
  refine RL.nil ?_
  refine hK7 _ _ _ ?_
  refine CW.kp [0, 1, 2, 3, 8, 12, 13, 14] rfl ?_
  refine CW.seq fun K8 hK8 => ?_
  refine CW.seq fun K9 hK9 => ?_
  refine CW.region ?_
  refine RL.q (Y.move rfl) rfl ?_
  refine RL.q (Y.neq rfl rfl) rfl ?_
  refine RL.nil ?_
  refine hK9 _ _ _ ?_
  refine CW.kp [0, 1, 2, 3, 8, 12, 13, 14, 46] rfl ?_
  refine CW.ite rfl (fun h2 => ?_) (fun h2 => ?_)
  ·refine CW.seq fun K10 hK10 => ?_
   refine CW.region ?_
   refine RL.q (Y.build [_, _, _] rfl zero53 places53 (by rfl)) rfl ?_
   refine RL.q (Y.move rfl) rfl ?_
   refine RL.q (Y.move rfl) rfl ?_
   refine RL.storeAgg _ rfl rfl RP (by rfl) (by first | (simp; done) | simp [IdT.vals]) (by first | (simp [Value.oneCell']; done) | simp [Value.oneCell', IdT.vals]) size53 ?_
   refine RL.q (Y.assign rfl) rfl ?_
   refine RL.q (Y.assign rfl) rfl ?_
   refine RL.q (Y.assign rfl) rfl ?_
   refine RL.nil ?_
   refine hK10 _ _ _ ?_
   refine CW.kp [8, 9, 10, 11] rfl ?_
   refine CW.ret ?_
   have e : decF b (n + 1) l a = (v0, (getI (b.drop a)).2.2, l - 1, a) := by
     rw [decF, if_neg hl1, nums, if_pos h2, decN, if_pos h2]
   refine ⟨_, _, _, rfl, rfl, rfl, ?_⟩
   exact CellAt.mk rfl MM (by first | rfl | exact EL | assumption) agg53 (Turn.drop ⟨Sub.refl _, rfl, _, (by rw [e, if_pos h2, show 256 - (l - 1) = 256 - l + 1 from by omega] <;> rfl), by rw [e]; exact (by rw [Val.enc_eq]; exact (by repeat (first | exact RdL.nil _ | refine RdL.cons (by first | exact Rd.i _ | exact Rd.nilS | exact Rd.str _ | assumption) ?_)))⟩ SB)
  have h2z := Decidable.not_not.1 h2
  obtain ⟨k1, hk1, hk1b, _⟩ := getI_le a hab h2z
  rw [hk1]
  refine CW.skip ?_
  refine hK8 _ _ _ ?_
  refine CW.seq fun K11 hK11 => ?_
  refine CW.region ?_
  refine RL.q (Y.move rfl) rfl ?_
  refine RL.q (Y.move rfl) rfl ?_
  refine RL.q (Y.move rfl) rfl ?_
  refine RL.q (Y.add rfl rfl OM) rfl ?_
  refine RL.q (Y.slice (a + k1) b.length cb rfl ⟨_, rfl, OM⟩ rfl rfl (by simp) OM OM OM slice69) rfl ?_
  refine RL.addRd (Rd.dropB hb (a + k1) OM) ?_
  refine RL.callv rfl func71 rfl rfl (by exact rgetI_ok _ _ _ (b.drop (a + k1)) _ (by exact Kn.rd MM) (fun x hx => h256 x (List.mem_of_mem_drop hx))) ?_
  refine RL.q (Y.move rfl) rfl ?_
  refine RL.q (Y.extract rfl rfl) rfl ?_
  refine RL.q (Y.extract rfl rfl) rfl ?_
  refine RL.q (Y.extract rfl rfl) rfl ?_
  refine RL.q (Y.assign rfl) rfl ?_
  refine RL.q (Y.assign rfl) rfl ?_
  refine RL.q (Y.assign rfl) rfl ?_
  refine RL.nil ?_
  refine hK11 _ _ _ ?_
  refine CW.kp [0, 1, 2, 3, 8, 12, 13, 15, 16, 17] rfl ?_
  refine CW.seq fun K12 hK12 => ?_
  refine CW.seq fun K13 hK13 => ?_
  refine CW.region ?_
  refine RL.q (Y.move rfl) rfl ?_
  refine RL.q (Y.neq rfl rfl) rfl ?_
  refine RL.nil ?_
  refine hK13 _ _ _ ?_
  refine CW.kp [0, 1, 2, 3, 8, 12, 13, 15, 16, 17, 61] rfl ?_
  refine CW.ite rfl (fun h3 => ?_) (fun h3 => ?_)
  ·refine CW.seq fun K14 hK14 => ?_
   refine CW.region ?_
   refine RL.q (Y.build [_, _, _] rfl zero53 places53 (by rfl)) rfl ?_
   refine RL.q (Y.move rfl) rfl ?_
   refine RL.q (Y.move rfl) rfl ?_
   refine RL.storeAgg _ rfl rfl RP (by rfl) (by first | (simp; done) | simp [IdT.vals]) (by first | (simp [Value.oneCell']; done) | simp [Value.oneCell', IdT.vals]) size53 ?_
   refine RL.q (Y.assign rfl) rfl ?_
   refine RL.q (Y.assign rfl) rfl ?_
   refine RL.q (Y.assign rfl) rfl ?_
   refine RL.nil ?_
   refine hK14 _ _ _ ?_
   refine CW.kp [8, 9, 10, 11] rfl ?_
   refine CW.ret ?_
   have e : decF b (n + 1) l a = (v0, (getI (b.drop (a + k1))).2.2, l - 1, a + k1) := by
     rw [decF, if_neg hl1, nums, if_neg h2, hk1, Int.toNat_natCast, nums, if_pos h3, decN, if_pos h3]
   refine ⟨_, _, _, rfl, rfl, rfl, ?_⟩
   exact CellAt.mk rfl MM (by first | rfl | exact EL | assumption) agg53 (Turn.drop ⟨Sub.refl _, rfl, _, (by rw [e, if_pos h3, show 256 - (l - 1) = 256 - l + 1 from by omega] <;> rfl), by rw [e]; exact (by rw [Val.enc_eq]; exact (by repeat (first | exact RdL.nil _ | refine RdL.cons (by first | exact Rd.i _ | exact Rd.nilS | exact Rd.str _ | assumption) ?_)))⟩ SB)
  have h3z := Decidable.not_not.1 h3
  obtain ⟨k2, hk2, hk2b, _⟩ := getI_le (a + k1) hk1b h3z
  rw [hk2]
  refine CW.skip ?_
  refine hK12 _ _ _ ?_
  refine CW.seq fun K15 hK15 => ?_
  refine CW.region ?_
  refine RL.q (Y.move rfl) rfl ?_
  refine RL.q (Y.move rfl) rfl ?_
  refine RL.q (Y.move rfl) rfl ?_
  refine RL.q (Y.add rfl rfl OM) rfl ?_
  refine RL.q (Y.move rfl) rfl ?_
  refine RL.q (Y.add rfl rfl OM) rfl ?_
  refine RL.q (Y.slice (a + k1 + k2) b.length cb rfl ⟨_, rfl, OM⟩ rfl rfl (by simp) OM OM OM slice69) rfl ?_
  refine RL.addRd (Rd.dropB hb (a + k1 + k2) OM) ?_
  refine RL.callv rfl func71 rfl rfl (by exact rgetI_ok _ _ _ (b.drop (a + k1 + k2)) _ (by exact Kn.rd MM) (fun x hx => h256 x (List.mem_of_mem_drop hx))) ?_
  refine RL.q (Y.move rfl) rfl ?_
  refine RL.q (Y.extract rfl rfl) rfl ?_
  refine RL.q (Y.extract rfl rfl) rfl ?_
  refine RL.q (Y.extract rfl rfl) rfl ?_
  refine RL.q (Y.assign rfl) rfl ?_
  refine RL.q (Y.assign rfl) rfl ?_
  refine RL.q (Y.assign rfl) rfl ?_
  refine RL.nil ?_
  refine hK15 _ _ _ ?_
  refine CW.kp [0, 1, 2, 3, 8, 12, 13, 15, 16, 18, 19, 20] rfl ?_
  refine CW.seq fun K16 hK16 => ?_
  refine CW.seq fun K17 hK17 => ?_
  refine CW.region ?_
  refine RL.q (Y.move rfl) rfl ?_
  refine RL.q (Y.neq rfl rfl) rfl ?_
  refine RL.nil ?_
  refine hK17 _ _ _ ?_
  refine CW.kp [0, 1, 2, 3, 8, 12, 13, 15, 16, 18, 19, 20, 78] rfl ?_
  refine CW.ite rfl (fun h4 => ?_) (fun h4 => ?_)
  ·refine CW.seq fun K18 hK18 => ?_
   refine CW.region ?_
   refine RL.q (Y.build [_, _, _] rfl zero53 places53 (by rfl)) rfl ?_
   refine RL.q (Y.move rfl) rfl ?_
   refine RL.q (Y.move rfl) rfl ?_
   refine RL.storeAgg _ rfl rfl RP (by rfl) (by first | (simp; done) | simp [IdT.vals]) (by first | (simp [Value.oneCell']; done) | simp [Value.oneCell', IdT.vals]) size53 ?_
   refine RL.q (Y.assign rfl) rfl ?_
   refine RL.q (Y.assign rfl) rfl ?_
   refine RL.q (Y.assign rfl) rfl ?_
   refine RL.nil ?_
   refine hK18 _ _ _ ?_
   refine CW.kp [8, 9, 10, 11] rfl ?_
   refine CW.ret ?_
   have e : decF b (n + 1) l a = (v0, (getI (b.drop (a + k1 + k2))).2.2, l - 1, a + k1 + k2) := by
     rw [decF, if_neg hl1, nums, if_neg h2, hk1, Int.toNat_natCast, nums, if_neg h3, hk2, Int.toNat_natCast, nums, if_pos h4, decN, if_pos h4]
   refine ⟨_, _, _, rfl, rfl, rfl, ?_⟩
   exact CellAt.mk rfl MM (by first | rfl | exact EL | assumption) agg53 (Turn.drop ⟨Sub.refl _, rfl, _, (by rw [e, if_pos h4, show 256 - (l - 1) = 256 - l + 1 from by omega] <;> rfl), by rw [e]; exact (by rw [Val.enc_eq]; exact (by repeat (first | exact RdL.nil _ | refine RdL.cons (by first | exact Rd.i _ | exact Rd.nilS | exact Rd.str _ | assumption) ?_)))⟩ SB)
  have h4z := Decidable.not_not.1 h4
  obtain ⟨k3, hk3, hk3b, _⟩ := getI_le (a + k1 + k2) hk2b h4z
  rw [hk3]
  have hne := nums3 h2z hk1 h3z hk2 h4z hk3
  refine CW.skip ?_
  refine hK16 _ _ _ ?_
  refine CW.seq fun K19 hK19 => ?_
  refine CW.seq fun K20 hK20 => ?_
  refine CW.region ?_
  refine RL.q (Y.move rfl) rfl ?_
  refine RL.q (Y.lss rfl rfl) rfl ?_
  refine RL.nil ?_
  refine hK20 _ _ _ ?_
  refine CW.kp [0, 1, 2, 3, 8, 12, 13, 15, 16, 18, 19, 83] rfl ?_
  refine CW.ite rfl (fun h5 => ?_) (fun h5 => ?_)
  ·refine CW.seq fun K21 hK21 => ?_
   refine CW.region ?_
   refine RL.q (Y.build [_, _, _] rfl zero53 places53 (by rfl)) rfl ?_
   refine RL.q (Y.move rfl) rfl ?_
   refine RL.storeAgg _ rfl rfl RP (by rfl) (by first | (simp; done) | simp [IdT.vals]) (by first | (simp [Value.oneCell']; done) | simp [Value.oneCell', IdT.vals]) size53 ?_
   refine RL.q (Y.assign rfl) rfl ?_
   refine RL.q (Y.assign rfl) rfl ?_
   refine RL.q (Y.assign rfl) rfl ?_
   refine RL.nil ?_
   refine hK21 _ _ _ ?_
   refine CW.kp [8, 9, 10, 11] rfl ?_
   refine CW.ret ?_
   have e : decF b (n + 1) l a = (v0, 2, l - 1, (a + k1 + k2 + k3)) := by
     rw [decF, if_neg hl1, hne, decN3, if_pos h5]
   refine ⟨_, _, _, rfl, rfl, rfl, ?_⟩
   exact CellAt.mk rfl MM (by first | rfl | exact EL | assumption) agg53 (Turn.drop ⟨Sub.refl _, rfl, _, (by rw [e, show 256 - (l - 1) = 256 - l + 1 from by omega] <;> rfl), by rw [e]; exact (by rw [Val.enc_eq]; exact (by repeat (first | exact RdL.nil _ | refine RdL.cons (by first | exact Rd.i _ | exact Rd.nilS | exact Rd.str _ | assumption) ?_)))⟩ SB)
  refine CW.skip ?_
  refine hK19 _ _ _ ?_
  refine CW.seq fun K22 hK22 => ?_
  refine CW.region ?_
  refine RL.q (Y.move rfl) rfl ?_
  refine RL.q (Y.move rfl) rfl ?_
  refine RL.q (Y.add rfl rfl OM) rfl ?_
  refine RL.q (Y.move rfl) rfl ?_
  refine RL.q (Y.add rfl rfl OM) rfl ?_
  refine RL.q (Y.move rfl) rfl ?_
  refine RL.q (Y.add rfl rfl OM) rfl ?_
  refine RL.q (Y.assign rfl) rfl ?_
  refine RL.nil ?_
  refine hK22 _ _ _ ?_
  refine CW.kp [0, 1, 2, 3, 8, 12, 15, 18] rfl ?_
  rw [show (a : Int) + (k1 : Int) + (k2 : Int) + (k3 : Int) = (((a + k1 + k2 + k3) : Nat) : Int) from by omega]
  refine CW.seq fun K23 hK23 => ?_
  refine CW.region ?_
  refine RL.q (Y.move rfl) rfl ?_
  refine RL.q (Y.move rfl) rfl ?_
  refine RL.q (Y.build [_, _, _] rfl zero53 places53 (by rfl)) rfl ?_
  refine RL.alloc _ zero53 rfl rfl fun b21 => ?_
  refine RL.storeAgg _ rfl rfl RP (by rfl) (by first | (simp; done) | simp [IdT.vals]) (by first | (simp [Value.oneCell']; done) | simp [Value.oneCell', IdT.vals]) size53 ?_
  refine RL.nil ?_
  refine hK23 _ _ _ ?_
  refine CW.kp [0, 1, 2, 3, 8, 18, 21] rfl ?_
  refine CW.seq fun K24 hK24 => ?_
  refine CW.seq fun K25 hK25 => ?_
  rw [show 256 - l + 1 = 256 - (l - 1) from by omega]
  refine CW.region ?_
  refine RL.q (Y.assign rfl) rfl ?_
  refine RL.nil ?_
  refine hK25 _ _ _ ?_
  refine CW.kp [0, 1, 2, 3, 8, 18, 21, 22] rfl ?_
  refine CW.block ?_
  -- LOOP 1: live [0, 1, 2, 3, 8, 18, 21, 22] changed [1, 3, 22]
  refine CW.kp [1, 3, 22, 0, 2, 8, 18, 21] rfl ?_
  refine CW.front (x := .own b21 53 [vint (getI (b.drop a)).1, vint (getI (b.drop (a + k1))).1, .slice none 0 0]) PK ?_
  refine CW.accNil 53 3 ?_
  refine CW.addRds (RdL.nil _) ?_
  refine CW.loopF (fun m Lc M1 Γc => ∃ (k : Nat) (dn : List Val) (lk : Int) (ak : Nat) (ua : Option Addr) (ca : Nat) (us : List Value), m = ((getI (b.drop (a + k1 + k2))).1).toNat - k ∧ k ≤ ((getI (b.drop (a + k1 + k2))).1).toNat ∧ Lc = [(1, vint (ak : Nat)), (3, vint (256 - lk)), (22, vint k)] ∧ Γc = [.rds (dn.flatMap Val.enc) us, .acc (.slice ua k ca) 53 3 k us, .own b21 53 [vint (getI (b.drop a)).1, vint (getI (b.drop (a + k1))).1, .slice ua k ca]] ∧ 0 ≤ lk ∧ lk + k ≤ 256 ∧ ak ≤ b.length ∧ dn.length = k ∧ decL (decF b n) ((getI (b.drop (a + k1 + k2))).1).toNat (l - 1) (a + k1 + k2 + k3) = dJoin dn (decL (decF b n) (((getI (b.drop (a + k1 + k2))).1).toNat - k) lk ak)) ((getI (b.drop (a + k1 + k2))).1).toNat [(1, _), (3, _), (22, _)] [_, _, _] rfl rfl ⟨0, [], l - 1, (a + k1 + k2 + k3), none, 0, [], rfl, Nat.zero_le _, rfl, rfl, by omega, by omega, hk3b, rfl, dJoin_nil _ _ _ _⟩ ?_
  rintro m Lc M1 Γc hs ⟨k, dn, lk, ak, ua, ca, us, rfl, hk, rfl, rfl, hlk0, hlk, hak, hdn, hz⟩
  refine CW.seq fun K26 hK26 => ?_
  refine CW.seq fun K27 hK27 => ?_
  refine CW.region ?_
  refine RL.q (Y.move rfl) rfl ?_
  refine RL.q (Y.move rfl) rfl ?_
  refine RL.q (Y.lss rfl rfl) rfl ?_
  refine RL.nil ?_
  refine hK27 _ _ _ ?_
  refine CW.kp [0, 1, 2, 3, 8, 18, 21, 22, 98] rfl ?_
  refine CW.ite rfl (fun h6 => ?_) (fun h6 => ?_)
  ·have hka : k < ((getI (b.drop (a + k1 + k2))).1).toNat := by omega
   refine CW.skip ?_
   refine hK26 _ _ _ ?_
   refine CW.seq fun K28 hK28 => ?_
   refine CW.block ?_
   refine CW.seq fun K29 hK29 => ?_
   refine CW.region ?_
   refine RL.q (Y.move rfl) rfl ?_
   refine RL.q (Y.move rfl) rfl ?_
   refine RL.q (Y.move rfl) rfl ?_
   refine RL.q (Y.add rfl rfl OM) rfl ?_
   refine RL.q (Y.move rfl) rfl ?_
   refine RL.call rfl func64 rfl rfl (by exact ih n OM _ _ _ b ab cb (d + 1) lk ak OM OM hlk0 OM hak h256 (Rd.mono hs _ _ hb)) ?_
   rintro v107 M107 _ ⟨hs107, rfl, us107, rfl, hr107⟩
   refine RL.addRds hr107 ?_
   have hul107 : us107.length = 3 := hr107.1.trans (Val.enc_len _)
   refine RL.q (Y.move rfl) rfl ?_
   refine RL.q (Y.extract rfl rfl) rfl ?_
   refine RL.q (Y.extract rfl rfl) rfl ?_
   refine RL.q (Y.extract rfl rfl) rfl ?_
   refine RL.q (Y.extract rfl rfl) rfl ?_
   refine RL.alloc _ zero53 rfl rfl fun b23 => ?_
   refine RL.storeRds 3 rfl rfl RP MM EL (by first | exact Kn.lenRds MM EL | exact Kn.lenLit rfl) size53 ?_
   refine RL.q (Y.assign rfl) rfl ?_
   refine RL.q (Y.assign rfl) rfl ?_
   refine RL.q (Y.assign rfl) rfl ?_
   refine RL.nil ?_
   refine hK29 _ _ _ ?_
   refine CW.kp [0, 2, 8, 18, 21, 22, 23, 24, 25, 26] rfl ?_
   refine CW.seq fun K30 hK30 => ?_
   refine CW.seq fun K31 hK31 => ?_
   refine CW.region ?_
   refine RL.q (Y.move rfl) rfl ?_
   refine RL.q (Y.neq rfl rfl) rfl ?_
   refine RL.nil ?_
   refine hK31 _ _ _ ?_
   refine CW.kp [0, 2, 8, 18, 21, 22, 23, 24, 25, 26, 113] rfl ?_
   refine CW.ite rfl (fun h7 => ?_) (fun h7 => ?_)
   ·refine CW.seq fun K32 hK32 => ?_
    refine CW.region ?_
    refine RL.q (Y.build [_, _, _] rfl zero53 places53 (by rfl)) rfl ?_
    refine RL.q (Y.move rfl) rfl ?_
    refine RL.q (Y.move rfl) rfl ?_
    refine RL.storeAgg _ rfl rfl RP (by rfl) (by first | (simp; done) | simp [IdT.vals]) (by first | (simp [Value.oneCell']; done) | simp [Value.oneCell', IdT.vals]) size53 ?_
    refine RL.q (Y.assign rfl) rfl ?_
    refine RL.q (Y.assign rfl) rfl ?_
    refine RL.q (Y.assign rfl) rfl ?_
    refine RL.nil ?_
    refine hK32 _ _ _ ?_
    refine CW.kp [8, 9, 10, 11] rfl ?_
    refine CW.ret ?_
    have e : decF b (n + 1) l a = (v0, (decF b n lk ak).2.1, (decF b n lk ak).2.2.1, (decF b n lk ak).2.2.2) := by
      rw [decF, if_neg hl1, hne, decN3, if_neg h5]
      rw [dJoin_err OM hz h7, dNode, if_pos h7]
    refine ⟨_, _, _, rfl, rfl, rfl, ?_⟩
    exact CellAt.mk rfl MM (by first | rfl | exact EL | assumption) agg53 (Turn.drop ⟨hs.trans hs107, rfl, _, (by rw [e, if_pos h7] <;> rfl), by rw [e]; exact (by rw [Val.enc_eq]; exact (by repeat (first | exact RdL.nil _ | refine RdL.cons (by first | exact Rd.i _ | exact Rd.nilS | exact Rd.str _ | assumption) ?_)))⟩ SB)
   rw [if_neg h7]
   refine CW.skip ?_
   refine hK30 _ _ _ ?_
   refine CW.seq fun K33 hK33 => ?_
   refine CW.region ?_
   refine RL.q (Y.move rfl) rfl ?_
   refine RL.q (Y.assign rfl) rfl ?_
   refine RL.nil ?_
   refine hK33 _ _ _ ?_
   refine CW.kp [0, 1, 2, 8, 18, 21, 22, 23, 25] rfl ?_
   refine CW.seq fun K34 hK34 => ?_
   refine CW.region ?_
   refine RL.q (Y.move rfl) rfl ?_
   refine RL.q (Y.assign rfl) rfl ?_
   refine RL.nil ?_
   refine hK34 _ _ _ ?_
   refine CW.kp [0, 1, 2, 3, 8, 18, 21, 22, 23] rfl ?_
   refine CW.region ?_
   refine RL.q (Y.field rfl field53_2) rfl ?_
   refine RL.q (Y.loadOwn rfl MM (by rfl) flat51) rfl ?_
   refine RL.q (Y.loadAllR rfl MM MM EL agg53) rfl ?_
   refine RL.buildSlice us107 elem51 rfl (by decide) (fill1 rfl hul107) rfl fun b122 => ?_
   refine RL.append elem51 rfl rfl PK (SrcOk.own (sz := 3) (m := 1) MM (by simp [hul107]) hr107.one) OM (by unfold lim; omega) rfl fun a123 c123 hc123 => ?_
   refine RL.q (Y.field rfl field53_2) rfl ?_
   refine RL.store _ rfl rfl RP (by rfl) (by simp) (by rfl) size51 ?_
   refine RL.nil ?_
   refine hK28 _ _ _ ?_
   refine CW.kp [0, 1, 2, 3, 8, 18, 21, 22] rfl ?_
   refine CW.region ?_
   refine RL.q (Y.move rfl) rfl ?_
   refine RL.q (Y.add rfl rfl OM) rfl ?_
   refine RL.q (Y.assign rfl) rfl ?_
   refine RL.nil ?_
   refine ⟨((getI (b.drop (a + k1 + k2))).1).toNat - (k + 1), [(1, _), (3, _), (22, _)], ?_, (KP [1, 3, 22, 0, 2, 8, 18, 21]), ?_⟩
   · omega
   · refine Turn.kn (Kn.rds (ds := dn.flatMap Val.enc) (us := us) MM) fun hrd => ?_
     refine Turn.front (x := .own b21 53 _) PK ?_
     refine Turn.front (x := .acc (.slice a123 (k + 1) c123) 53 3 (k + 1) (us ++ us107)) PK ?_
     refine Turn.addRds (hrd.append hr107) ?_
     have hlf := decF_left b n lk ak hak
     have hlf2 := hlf.2 (Decidable.not_not.1 h7)
     exact Turn.drop ⟨[_, _, _], rfl, hs.trans hs107, k + 1, dn ++ [(decF b n lk ak).1], (decF b n lk ak).2.2.1, (decF b n lk ak).2.2.2, a123, c123, us ++ us107, rfl, by omega, rfl, by rw [snoc_flat] <;> rfl, hlf2.1, by have := hlf2.2; omega, hlf.1, by simp [hdn], dJoin_step OM hz h7⟩ SB
  refine CW.exit ?_
  refine hK24 _ _ _ ?_
  refine CW.seq fun K35 hK35 => ?_
  refine CW.region ?_
  refine RL.q (Y.loadAll rfl MM (by rfl) agg53) rfl ?_
  refine RL.q (Y.move rfl) rfl ?_
  refine RL.q (Y.move rfl) rfl ?_
  refine RL.storeAgg _ rfl rfl RP (by rfl) (by first | (simp; done) | simp [IdT.vals]) (by first | (simp [Value.oneCell']; done) | simp [Value.oneCell', IdT.vals]) size53 ?_
  refine RL.q (Y.assign rfl) rfl ?_
  refine RL.q (Y.assign rfl) rfl ?_
  refine RL.q (Y.assign rfl) rfl ?_
  refine RL.nil ?_
  refine hK35 _ _ _ ?_
  refine CW.kp [8, 9, 10, 11] rfl ?_
  refine CW.ret ?_
  have e : decF b (n + 1) l a = (.mk (getI (b.drop a)).1 (getI (b.drop (a + k1))).1 dn, 0, lk, ak) := by
    rw [decF, if_neg hl1, hne, decN3, if_neg h5]
    rw [dJoin_end OM hz, dNode, if_neg (by simp)]
  refine ⟨_, _, _, rfl, rfl, rfl, ?_⟩
  refine CellAt.mk rfl MM (by rfl) agg53 (Turn.kn (Kn.rds (ds := dn.flatMap Val.enc) (us := us) MM) fun hrd => ?_)
  exact Turn.sealAcc (Γ := Γ) (u := .slice ua k ca) PK hrd (by unfold lim; omega) SB fun M2 hs2 hr2 => ⟨hs.trans hs2, rfl, _, by rw [e] <;> rfl, by rw [e]; exact node_rd _ _ dn (by rw [hdn]; exact hr2)⟩

theorem rdecode_ok (w0 : World) (M : Mem) (Γ : List As) (b : List Nat) (ub : Value)  (hb : Kn w0 M Γ (Rd M (dbytes b) ub)) (h256 : ∀ x ∈ b, x < 256) :
    CallOk Try.prog w0 M Γ 40 #[ub] (Gives M Γ fun M' v => ∃ us, v = .tuple #[.agg us.toArray, vint (decV b).2.1, vint (decV b).2.2] ∧ RdL M' (decV b).1.enc us) := by
  refine CallOk.kn hb fun hb => ?_
  obtain ⟨ab, cb, rfl, hcb, hlimb, hlenb⟩ := hb.slice
  refine enterCell3 (f := 40) Try.func40 rfl Try.ntmps40 rfl rfl fun w1 hw1 => ?_
  refine CW.addRd hb ?_
  refine CW.seq fun K1 hK1 => ?_
  refine CW.region ?_
  refine RL.alloc _ zero53 rfl rfl fun b2 => ?_
  refine RL.q (Y.assign rfl) rfl ?_
  refine RL.q (Y.assign rfl) rfl ?_
  refine RL.nil ?_
  refine hK1 _ _ _ ?_
  refine CW.kp [0, 2] rfl ?_
  refine CW.seq fun K2 hK2 => ?_
  refine CW.region ?_
  refine RL.q (Y.move rfl) rfl ?_
  refine RL.call rfl func64 rfl rfl (by exact rdec1_ok 24 _ _ _ b ab cb 1 256 0 rfl OM OM OM OM h256 hb) ?_
  rintro v11 M11 _ ⟨hs11, rfl, us11, rfl, hr11⟩
  refine RL.addRds hr11 ?_
  have hul11 : us11.length = 3 := hr11.1.trans (Val.enc_len _)
  refine RL.q (Y.move rfl) rfl ?_
  refine RL.q (Y.extract rfl rfl) rfl ?_
  refine RL.q (Y.extract rfl rfl) rfl ?_
  refine RL.q (Y.extract rfl rfl) rfl ?_
  refine RL.q (Y.extract rfl rfl) rfl ?_
  refine RL.alloc _ zero53 rfl rfl fun b5 => ?_
  refine RL.storeRds 3 rfl rfl RP MM EL (by first | exact Kn.lenRds MM EL | exact Kn.lenLit rfl) size53 ?_
  refine RL.q (Y.assign rfl) rfl ?_
  refine RL.q (Y.assign rfl) rfl ?_
  refine RL.q (Y.assign rfl) rfl ?_
  refine RL.nil ?_
  refine hK2 _ _ _ ?_
  refine CW.kp [2, 5, 6, 8] rfl ?_
  refine CW.seq fun K3 hK3 => ?_
  refine CW.seq fun K4 hK4 => ?_
  refine CW.region ?_
  refine RL.q (Y.move rfl) rfl ?_
  refine RL.q (Y.neq rfl rfl) rfl ?_
  refine RL.nil ?_
  refine hK4 _ _ _ ?_
  refine CW.kp [2, 5, 6, 8, 17] rfl ?_
  refine CW.ite rfl (fun h1 => ?_) (fun h1 => ?_)
  ·refine CW.seq fun K5 hK5 => ?_
   refine CW.region ?_
   refine RL.q (Y.build [_, _, _] rfl zero53 places53 (by rfl)) rfl ?_
   refine RL.q (Y.move rfl) rfl ?_
   refine RL.storeAgg _ rfl rfl RP (by rfl) (by first | (simp; done) | simp [IdT.vals]) (by first | (simp [Value.oneCell']; done) | simp [Value.oneCell', IdT.vals]) size53 ?_
   refine RL.q (Y.assign rfl) rfl ?_
   refine RL.q (Y.assign rfl) rfl ?_
   refine RL.nil ?_
   refine hK5 _ _ _ ?_
   refine CW.kp [2, 3, 4] rfl ?_
   refine CW.ret ?_
   have e : decV b = (v0, 0, (decF b 24 256 0).2.1) := by rw [decV, if_pos h1]
   refine ⟨_, _, rfl, rfl, ?_⟩
   exact CellAt.mk rfl MM (by first | rfl | exact EL | assumption) agg53 (Turn.drop ⟨hs11, rfl, _, by rw [e] <;> rfl, by rw [e]; exact (by rw [Val.enc_eq]; exact (by repeat (first | exact RdL.nil _ | refine RdL.cons (by first | exact Rd.i _ | exact Rd.nilS | exact Rd.str _ | assumption) ?_)))⟩ SB)
  refine CW.skip ?_
  refine hK3 _ _ _ ?_
  refine CW.seq fun K6 hK6 => ?_
  refine CW.region ?_
  refine RL.q (Y.loadAllR rfl MM MM EL agg53) rfl ?_
  refine RL.q (Y.move rfl) rfl ?_
  refine RL.storeRds 3 rfl rfl RP MM EL (by first | exact Kn.lenRds MM EL | exact Kn.lenLit rfl) size53 ?_
  refine RL.q (Y.assign rfl) rfl ?_
  refine RL.q (Y.assign rfl) rfl ?_
  refine RL.nil ?_
  refine hK6 _ _ _ ?_
  refine CW.kp [2, 3, 4] rfl ?_
  refine CW.ret ?_
  have e : decV b = ((decF b 24 256 0).1, ((decF b 24 256 0).2.2.2 : Int), 0) := by rw [decV, if_neg h1]
  refine ⟨_, _, rfl, rfl, ?_⟩
  exact CellAt.mk rfl MM (by first | rfl | exact EL | assumption) agg53 (Turn.drop ⟨hs11, rfl, _, by rw [e, if_neg h1] <;> rfl, by rw [e]; exact hr11⟩ SB)
end Go.Proofs.Ytfgkhhfkodlbpaa
