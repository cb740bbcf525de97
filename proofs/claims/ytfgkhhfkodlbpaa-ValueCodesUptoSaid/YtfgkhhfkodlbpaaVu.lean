/- THE WALKS, 21: the program of types made of numbers. Printed by m04u.py. -/
import Derived.Test.YtfgkhhfkodlbpaaVt
import Derived.Test.YtfgkhhfkodlbpaaPureA
import Derived.Test.YtfgkhhfkodlbpaaXe4
namespace Go.Proofs.Ytfgkhhfkodlbpaa
open Xe

theorem fill4s {v0 v1 v2 v3 : Value} (h0 : cellsL v0 = [v0]) (h1 : cellsL v1 = [v1]) (h2 : cellsL v2 = [v2]) (h3 : cellsL v3 = [v3]) : ∀ zs : List Value, zs.length = 4 * 1 → fillL (fun i => some (i * 1, 1)) zs ([(0, v0), (1, v1), (2, v2), (3, v3)].map fun p => (p.1, cellsL p.2)) = some [v0, v1, v2, v3] := fun zs hz => by
  match zs, hz with
  | [a, b, c, d], _ => simp [fillL, splice, h0, h1, h2, h3]

set_option maxHeartbeats 2000000 in
theorem types_own (w0 : World) (M : Mem) (Γ : List As) (l : List Int) (ul : Value)  (hl : Kn w0 M Γ (Rd M (dints l) ul)) (hli : ∀ x ∈ l, InI x) :
    CallOk Try.prog w0 M Γ 9 #[ul] (fun v M' Γ' => ∃ (ua : Option Addr) (ca : Nat) (us : List Value) (vm : Value), Sub M M' ∧ v = .agg [vm, .slice ua (tMany l) ca].toArray ∧ Γ' = .acc (.slice ua (tMany l) ca) 46 31 (tMany l) us :: Γ ∧ Rd M' (.sl 1 6 (ModT.enc ⟨idK 0, sCore, [], tIds (tMany l)⟩)) vm ∧ RdL M' ((tDefs l (tMany l)).flatMap DefT.enc) us) := by
  refine CallOk.kn hl fun hl => ?_
  obtain ⟨al, cl, rfl, hcl, hliml, hlenl⟩ := hl.slice
  have hm := tMany_rng l
  have hmc := tMany_cast l
  refine enterCell (f := 9) Try.func9 rfl Try.ntmps9 rfl rfl fun w1 hw1 => ?_
  refine CW.addRd hl ?_
  refine CW.seq fun K1 hK1 => ?_
  refine CW.region ?_
  refine RL.alloc _ zero26 rfl rfl fun b2 => ?_
  refine RL.nil ?_
  refine hK1 _ _ _ ?_
  refine CW.kp [0, 2] rfl ?_
  refine CW.seq fun K2 hK2 => ?_
  refine CW.region ?_
  refine RL.callv rfl func14 rfl rfl (by exact id_ok _ _ _ _ AO AO) ?_
  refine RL.q (Y.build [_, _, _, _, _, _] rfl zero79 places79 (by rfl)) rfl ?_
  refine RL.buildSlice ([vint 0, vint 1, vint 0, .string sCore, .slice none 0 0, .slice none 0 0]) elem23 rfl (by decide) (fill1 rfl rfl) rfl fun b13 => ?_
  refine RL.q (Y.build [_, _] rfl zero26 places26 (by rfl)) rfl ?_
  refine RL.alloc _ zero26 rfl rfl fun b3 => ?_
  refine RL.storeAgg _ rfl rfl RP (by rfl) (by first | (simp; done) | simp [IdT.vals]) (by first | (simp [Value.oneCell']; done) | simp [Value.oneCell', IdT.vals]) size26 ?_
  refine RL.nil ?_
  refine hK2 _ _ _ ?_
  refine CW.kp [0, 2, 3] rfl ?_
  refine CW.seq fun K3 hK3 => ?_
  refine CW.region ?_
  refine RL.q (Y.move rfl) rfl ?_
  refine RL.callv rfl func41 rfl rfl (by exact at_ok _ _ _ _ _ _ _ KK AO AO) ?_
  refine RL.q (Y.add rfl rfl OM) rfl ?_
  refine RL.q (Y.assign rfl) rfl ?_
  refine RL.nil ?_
  refine hK3 _ _ _ ?_
  refine CW.kp [0, 2, 3, 4] rfl ?_
  rw [← hmc]
  refine CW.seq fun K4 hK4 => ?_
  refine CW.region ?_
  refine RL.q (Y.move rfl) rfl ?_
  refine RL.q (Y.add rfl rfl OM) rfl ?_
  refine RL.q (Y.assign rfl) rfl ?_
  refine RL.nil ?_
  refine hK4 _ _ _ ?_
  refine CW.kp [0, 2, 3, 4, 5] rfl ?_
  refine CW.seq fun K5 hK5 => ?_
  refine CW.seq fun K6 hK6 => ?_
  refine CW.region ?_
  refine RL.q (Y.assign rfl) rfl ?_
  refine RL.nil ?_
  refine hK6 _ _ _ ?_
  refine CW.kp [0, 2, 3, 4, 5, 6] rfl ?_
  refine CW.block ?_
  -- LOOP 1: live [0, 2, 3, 4, 5, 6] changed [5, 6]
  refine CW.kp [5, 6, 0, 2, 3, 4] rfl ?_
  refine CW.front (x := .own b13 79 [vint 0, vint 1, vint 0, .string sCore, .slice none 0 0, .slice none 0 0]) PK ?_
  refine CW.accNil 28 3 ?_
  refine CW.addRds (RdL.nil _) ?_
  refine CW.front (x := .own b3 26 [(.slice (some ⟨b13, 0, none⟩) 1 1), .slice none 0 0]) PK ?_
  refine CW.accNil 46 31 ?_
  refine CW.addRds (RdL.nil _) ?_
  refine CW.loopF (fun m Lc M1 Γc => ∃ (i : Nat) (ua : Option Addr) (ca : Nat) (us : List Value) (va : Option Addr) (vc : Nat) (vs : List Value), m = tMany l - i ∧ i ≤ tMany l ∧ Lc = [(5, vint (tNext l i)), (6, vint i)] ∧ Γc = [.rds ((tDefs l i).flatMap DefT.enc) us, .acc (.slice ua i ca) 46 31 i us, .own b3 26 [(.slice (some ⟨b13, 0, none⟩) 1 1), .slice ua i ca], .rds ((tIds i).flatMap IdT.enc) vs, .acc (.slice va i vc) 28 3 i vs, .own b13 79 [vint 0, vint 1, vint 0, .string sCore, .slice none 0 0, .slice va i vc]]) (tMany l) [(5, _), (6, _)] [_, _, _, _, _, _] rfl rfl ⟨0, none, 0, [], none, 0, [], rfl, Nat.zero_le _, rfl, rfl⟩ ?_
  rintro m Lc M1 Γc hs ⟨i, ua, ca, us, va, vc, vs, rfl, hi, rfl, rfl⟩
  refine CW.seq fun K7 hK7 => ?_
  refine CW.seq fun K8 hK8 => ?_
  refine CW.region ?_
  refine RL.q (Y.move rfl) rfl ?_
  refine RL.q (Y.move rfl) rfl ?_
  refine RL.q (Y.lss rfl rfl) rfl ?_
  refine RL.nil ?_
  refine hK8 _ _ _ ?_
  refine CW.kp [0, 2, 3, 4, 5, 6, 22] rfl ?_
  refine CW.ite rfl (fun h1 => ?_) (fun h1 => ?_)
  ·have hi4 : i < 4 := by omega
   refine CW.skip ?_
   refine hK7 _ _ _ ?_
   refine CW.seq fun K9 hK9 => ?_
   refine CW.block ?_
   refine CW.seq fun K10 hK10 => ?_
   refine CW.region ?_
   refine RL.q (Y.move rfl) rfl ?_
   refine RL.q (Y.move rfl) rfl ?_
   refine RL.q (Y.add rfl rfl OM) rfl ?_
   refine RL.callv rfl func41 rfl rfl (by exact at_ok _ _ _ _ _ _ _ KK AO AO) ?_
   refine RL.q (Y.assign rfl) rfl ?_
   refine RL.nil ?_
   refine hK10 _ _ _ ?_
   refine CW.kp [0, 2, 3, 4, 5, 6, 7] rfl ?_
   have hbr := tBits_rng l i
   have hbd := tBits_div l i
   have hbm := tBits_mod l i
   have har := tArity_rng l i
   have hac := tArity_cast l i
   have hnr := tNext_rng l i
   rw [show atL l (1 + (i : Int)) 65536 = tBits l i from rfl]
   refine CW.cut (fun L' M' Γ' => ∃ b8, Keep L' [(0, .slice al l.length cl), (2, .pointer (some (adr (some ⟨b2, 0, none⟩) 0))), (3, .pointer (some (adr (some ⟨b3, 0, none⟩) 0))), (4, vint (tMany l)), (5, vint (tNext l i)), (6, vint i), (7, vint (tBits l i)), (8, .pointer (some (adr (some ⟨b8, 0, none⟩) 0)))] ∧ M' = M1 ∧ ∀ w, St w0 M1 Γ' w → St w0 M1 (.own b8 46 (dvs (idK (1 + (i : Int))) ((tBits l i).tmod 2) (idK 0) (nm4 i) (.slice none 0 0)) :: .rds ((tDefs l i).flatMap DefT.enc) us :: .acc (.slice ua i ca) 46 31 i us :: .own b3 26 [(.slice (some ⟨b13, 0, none⟩) 1 1), .slice ua i ca] :: .rds ((tIds i).flatMap IdT.enc) vs :: .acc (.slice va i vc) 28 3 i vs :: .own b13 79 [vint 0, vint 1, vint 0, .string sCore, .slice none 0 0, .slice va i vc] :: .own b2 26 [.slice none 0 0, .slice none 0 0] :: .rd (dints l) (.slice al l.length cl) :: Γ) w) ?_ ?_
   ·refine CW.regionH mix _ _ (fun _ hw => hw) ?_
    refine HL.take 0 rfl KR KR KR rfl (Y.move rfl) rfl ?_
    refine HL.take 1 rfl KR KR KR rfl (Y.add rfl rfl OM) rfl ?_
    refine HL.take 3 rfl KR KR KR rfl (Y.move rfl) rfl ?_
    refine HL.take 4 rfl KR KR KR rfl (Y.rem rfl rfl OM) rfl ?_
    refine HL.take 7 rfl KR KR KR rfl (Y.move rfl) rfl ?_
    refine HL.step3 2 6 11 rfl rfl rfl KR ?_ ?_ ?_
    ·refine RL.callv rfl func14 rfl rfl (by exact id_ok _ _ _ _ AO AO) ?_
     refine RL.nil ⟨keep_same SB, ?_⟩
     refine HL.step3 5 6 11 rfl rfl rfl KR ?_ ?_ ?_
     ·refine RL.callv rfl func14 rfl rfl (by exact id_ok _ _ _ _ AO AO) ?_
      refine RL.nil ⟨keep_same SB, ?_⟩
      refine HL.step2 6 11 rfl rfl KR ?_ ?_
      ·refine RL.buildSlice [.string sPoint, .string sShape, .string sState, .string sEvent] elem42 rfl (by decide) (fill4s rfl rfl rfl rfl) rfl fun b35 => ?_
       refine RL.nil ⟨keep_same SB, ?_⟩
       refine HL.take 8 rfl KR KR KR rfl (Y.index i rfl rfl OM OM slice42 (fun _ _ => rfl)) rfl ?_
       refine HL.step2 9 11 rfl rfl KR ?_ ?_
       ·refine RL.q (Y.loadOwn rfl MM (nm4_at hi4) flat9) rfl ?_
        refine RL.nil ⟨keep_same SB, ?_⟩
        refine HL.take 10 rfl KR KR KR rfl (Y.build [_, _, _, _, _, _, _, _, _, _, _, _, _, _, _, _, _, _, _, _, _, _, _, _, _, _, _, _, _, _, _] rfl zero46 places46 (by rfl)) rfl ?_
        refine HL.step 11 rfl KR ?_
        refine RL.alloc _ zero46 rfl rfl fun b8 => ?_
        refine RL.nil ⟨keep_same SB, ?_⟩
        refine HL.step 12 rfl KR ?_
        refine RL.storeAgg _ rfl rfl RP (by rfl) (by first | (simp; done) | simp [IdT.vals]) (by first | (simp [Value.oneCell']; done) | simp [Value.oneCell', IdT.vals]) size46 ?_
        refine RL.nil ⟨keep_same SB, ?_⟩
        refine HL.done KR ?_
        dsimp only [thenX]
        exact ⟨b8, (by repeat (first | exact Keep.nil _ | refine Keep.cons _ rfl ?_)), rfl, fun _ hw => hw.sub SB⟩
       refine RL.alloc _ zero46 rfl rfl fun b8 => ?_
       refine RL.nil ⟨keep_same SB, ?_⟩
       refine HL.step 9 rfl KR ?_
       refine RL.q (Y.loadOwn rfl MM (nm4_at hi4) flat9) rfl ?_
       refine RL.nil ⟨keep_same SB, ?_⟩
       refine HL.take 10 rfl KR KR KR rfl (Y.build [_, _, _, _, _, _, _, _, _, _, _, _, _, _, _, _, _, _, _, _, _, _, _, _, _, _, _, _, _, _, _] rfl zero46 places46 (by rfl)) rfl ?_
       refine HL.step 12 rfl KR ?_
       refine RL.storeAgg _ rfl rfl RP (by rfl) (by first | (simp; done) | simp [IdT.vals]) (by first | (simp [Value.oneCell']; done) | simp [Value.oneCell', IdT.vals]) size46 ?_
       refine RL.nil ⟨keep_same SB, ?_⟩
       refine HL.done KR ?_
       dsimp only [thenX]
       exact ⟨b8, (by repeat (first | exact Keep.nil _ | refine Keep.cons _ rfl ?_)), rfl, fun _ hw => hw.sub SB⟩
      refine RL.alloc _ zero46 rfl rfl fun b8 => ?_
      refine RL.nil ⟨keep_same SB, ?_⟩
      refine HL.step 6 rfl KR ?_
      refine RL.buildSlice [.string sPoint, .string sShape, .string sState, .string sEvent] elem42 rfl (by decide) (fill4s rfl rfl rfl rfl) rfl fun b35 => ?_
      refine RL.nil ⟨keep_same SB, ?_⟩
      refine HL.take 8 rfl KR KR KR rfl (Y.index i rfl rfl OM OM slice42 (fun _ _ => rfl)) rfl ?_
      refine HL.step 9 rfl KR ?_
      refine RL.q (Y.loadOwn rfl MM (nm4_at hi4) flat9) rfl ?_
      refine RL.nil ⟨keep_same SB, ?_⟩
      refine HL.take 10 rfl KR KR KR rfl (Y.build [_, _, _, _, _, _, _, _, _, _, _, _, _, _, _, _, _, _, _, _, _, _, _, _, _, _, _, _, _, _, _] rfl zero46 places46 (by rfl)) rfl ?_
      refine HL.step 12 rfl KR ?_
      refine RL.storeAgg _ rfl rfl RP (by rfl) (by first | (simp; done) | simp [IdT.vals]) (by first | (simp [Value.oneCell']; done) | simp [Value.oneCell', IdT.vals]) size46 ?_
      refine RL.nil ⟨keep_same SB, ?_⟩
      refine HL.done KR ?_
      dsimp only [thenX]
      exact ⟨b8, (by repeat (first | exact Keep.nil _ | refine Keep.cons _ rfl ?_)), rfl, fun _ hw => hw.sub SB⟩
     ·refine RL.buildSlice [.string sPoint, .string sShape, .string sState, .string sEvent] elem42 rfl (by decide) (fill4s rfl rfl rfl rfl) rfl fun b35 => ?_
      refine RL.nil ⟨keep_same SB, ?_⟩
      refine HL.take 8 rfl KR KR KR rfl (Y.index i rfl rfl OM OM slice42 (fun _ _ => rfl)) rfl ?_
      refine HL.step3 5 9 11 rfl rfl rfl KR ?_ ?_ ?_
      ·refine RL.callv rfl func14 rfl rfl (by exact id_ok _ _ _ _ AO AO) ?_
       refine RL.nil ⟨keep_same SB, ?_⟩
       refine HL.step2 9 11 rfl rfl KR ?_ ?_
       ·refine RL.q (Y.loadOwn rfl MM (nm4_at hi4) flat9) rfl ?_
        refine RL.nil ⟨keep_same SB, ?_⟩
        refine HL.take 10 rfl KR KR KR rfl (Y.build [_, _, _, _, _, _, _, _, _, _, _, _, _, _, _, _, _, _, _, _, _, _, _, _, _, _, _, _, _, _, _] rfl zero46 places46 (by rfl)) rfl ?_
        refine HL.step 11 rfl KR ?_
        refine RL.alloc _ zero46 rfl rfl fun b8 => ?_
        refine RL.nil ⟨keep_same SB, ?_⟩
        refine HL.step 12 rfl KR ?_
        refine RL.storeAgg _ rfl rfl RP (by rfl) (by first | (simp; done) | simp [IdT.vals]) (by first | (simp [Value.oneCell']; done) | simp [Value.oneCell', IdT.vals]) size46 ?_
        refine RL.nil ⟨keep_same SB, ?_⟩
        refine HL.done KR ?_
        dsimp only [thenX]
        exact ⟨b8, (by repeat (first | exact Keep.nil _ | refine Keep.cons _ rfl ?_)), rfl, fun _ hw => hw.sub SB⟩
       refine RL.alloc _ zero46 rfl rfl fun b8 => ?_
       refine RL.nil ⟨keep_same SB, ?_⟩
       refine HL.step 9 rfl KR ?_
       refine RL.q (Y.loadOwn rfl MM (nm4_at hi4) flat9) rfl ?_
       refine RL.nil ⟨keep_same SB, ?_⟩
       refine HL.take 10 rfl KR KR KR rfl (Y.build [_, _, _, _, _, _, _, _, _, _, _, _, _, _, _, _, _, _, _, _, _, _, _, _, _, _, _, _, _, _, _] rfl zero46 places46 (by rfl)) rfl ?_
       refine HL.step 12 rfl KR ?_
       refine RL.storeAgg _ rfl rfl RP (by rfl) (by first | (simp; done) | simp [IdT.vals]) (by first | (simp [Value.oneCell']; done) | simp [Value.oneCell', IdT.vals]) size46 ?_
       refine RL.nil ⟨keep_same SB, ?_⟩
       refine HL.done KR ?_
       dsimp only [thenX]
       exact ⟨b8, (by repeat (first | exact Keep.nil _ | refine Keep.cons _ rfl ?_)), rfl, fun _ hw => hw.sub SB⟩
      ·refine RL.q (Y.loadOwn rfl MM (nm4_at hi4) flat9) rfl ?_
       refine RL.nil ⟨keep_same SB, ?_⟩
       refine HL.step2 5 11 rfl rfl KR ?_ ?_
       ·refine RL.callv rfl func14 rfl rfl (by exact id_ok _ _ _ _ AO AO) ?_
        refine RL.nil ⟨keep_same SB, ?_⟩
        refine HL.take 10 rfl KR KR KR rfl (Y.build [_, _, _, _, _, _, _, _, _, _, _, _, _, _, _, _, _, _, _, _, _, _, _, _, _, _, _, _, _, _, _] rfl zero46 places46 (by rfl)) rfl ?_
        refine HL.step 11 rfl KR ?_
        refine RL.alloc _ zero46 rfl rfl fun b8 => ?_
        refine RL.nil ⟨keep_same SB, ?_⟩
        refine HL.step 12 rfl KR ?_
        refine RL.storeAgg _ rfl rfl RP (by rfl) (by first | (simp; done) | simp [IdT.vals]) (by first | (simp [Value.oneCell']; done) | simp [Value.oneCell', IdT.vals]) size46 ?_
        refine RL.nil ⟨keep_same SB, ?_⟩
        refine HL.done KR ?_
        dsimp only [thenX]
        exact ⟨b8, (by repeat (first | exact Keep.nil _ | refine Keep.cons _ rfl ?_)), rfl, fun _ hw => hw.sub SB⟩
       refine RL.alloc _ zero46 rfl rfl fun b8 => ?_
       refine RL.nil ⟨keep_same SB, ?_⟩
       refine HL.step 5 rfl KR ?_
       refine RL.callv rfl func14 rfl rfl (by exact id_ok _ _ _ _ AO AO) ?_
       refine RL.nil ⟨keep_same SB, ?_⟩
       refine HL.take 10 rfl KR KR KR rfl (Y.build [_, _, _, _, _, _, _, _, _, _, _, _, _, _, _, _, _, _, _, _, _, _, _, _, _, _, _, _, _, _, _] rfl zero46 places46 (by rfl)) rfl ?_
       refine HL.step 12 rfl KR ?_
       refine RL.storeAgg _ rfl rfl RP (by rfl) (by first | (simp; done) | simp [IdT.vals]) (by first | (simp [Value.oneCell']; done) | simp [Value.oneCell', IdT.vals]) size46 ?_
       refine RL.nil ⟨keep_same SB, ?_⟩
       refine HL.done KR ?_
       dsimp only [thenX]
       exact ⟨b8, (by repeat (first | exact Keep.nil _ | refine Keep.cons _ rfl ?_)), rfl, fun _ hw => hw.sub SB⟩
      refine RL.alloc _ zero46 rfl rfl fun b8 => ?_
      refine RL.nil ⟨keep_same SB, ?_⟩
      refine HL.step2 5 9 rfl rfl KR ?_ ?_
      ·refine RL.callv rfl func14 rfl rfl (by exact id_ok _ _ _ _ AO AO) ?_
       refine RL.nil ⟨keep_same SB, ?_⟩
       refine HL.step 9 rfl KR ?_
       refine RL.q (Y.loadOwn rfl MM (nm4_at hi4) flat9) rfl ?_
       refine RL.nil ⟨keep_same SB, ?_⟩
       refine HL.take 10 rfl KR KR KR rfl (Y.build [_, _, _, _, _, _, _, _, _, _, _, _, _, _, _, _, _, _, _, _, _, _, _, _, _, _, _, _, _, _, _] rfl zero46 places46 (by rfl)) rfl ?_
       refine HL.step 12 rfl KR ?_
       refine RL.storeAgg _ rfl rfl RP (by rfl) (by first | (simp; done) | simp [IdT.vals]) (by first | (simp [Value.oneCell']; done) | simp [Value.oneCell', IdT.vals]) size46 ?_
       refine RL.nil ⟨keep_same SB, ?_⟩
       refine HL.done KR ?_
       dsimp only [thenX]
       exact ⟨b8, (by repeat (first | exact Keep.nil _ | refine Keep.cons _ rfl ?_)), rfl, fun _ hw => hw.sub SB⟩
      refine RL.q (Y.loadOwn rfl MM (nm4_at hi4) flat9) rfl ?_
      refine RL.nil ⟨keep_same SB, ?_⟩
      refine HL.step 5 rfl KR ?_
      refine RL.callv rfl func14 rfl rfl (by exact id_ok _ _ _ _ AO AO) ?_
      refine RL.nil ⟨keep_same SB, ?_⟩
      refine HL.take 10 rfl KR KR KR rfl (Y.build [_, _, _, _, _, _, _, _, _, _, _, _, _, _, _, _, _, _, _, _, _, _, _, _, _, _, _, _, _, _, _] rfl zero46 places46 (by rfl)) rfl ?_
      refine HL.step 12 rfl KR ?_
      refine RL.storeAgg _ rfl rfl RP (by rfl) (by first | (simp; done) | simp [IdT.vals]) (by first | (simp [Value.oneCell']; done) | simp [Value.oneCell', IdT.vals]) size46 ?_
      refine RL.nil ⟨keep_same SB, ?_⟩
      refine HL.done KR ?_
      dsimp only [thenX]
      exact ⟨b8, (by repeat (first | exact Keep.nil _ | refine Keep.cons _ rfl ?_)), rfl, fun _ hw => hw.sub SB⟩
     refine RL.alloc _ zero46 rfl rfl fun b8 => ?_
     refine RL.nil ⟨keep_same SB, ?_⟩
     refine HL.step2 5 6 rfl rfl KR ?_ ?_
     ·refine RL.callv rfl func14 rfl rfl (by exact id_ok _ _ _ _ AO AO) ?_
      refine RL.nil ⟨keep_same SB, ?_⟩
      refine HL.step 6 rfl KR ?_
      refine RL.buildSlice [.string sPoint, .string sShape, .string sState, .string sEvent] elem42 rfl (by decide) (fill4s rfl rfl rfl rfl) rfl fun b35 => ?_
      refine RL.nil ⟨keep_same SB, ?_⟩
      refine HL.take 8 rfl KR KR KR rfl (Y.index i rfl rfl OM OM slice42 (fun _ _ => rfl)) rfl ?_
      refine HL.step 9 rfl KR ?_
      refine RL.q (Y.loadOwn rfl MM (nm4_at hi4) flat9) rfl ?_
      refine RL.nil ⟨keep_same SB, ?_⟩
      refine HL.take 10 rfl KR KR KR rfl (Y.build [_, _, _, _, _, _, _, _, _, _, _, _, _, _, _, _, _, _, _, _, _, _, _, _, _, _, _, _, _, _, _] rfl zero46 places46 (by rfl)) rfl ?_
      refine HL.step 12 rfl KR ?_
      refine RL.storeAgg _ rfl rfl RP (by rfl) (by first | (simp; done) | simp [IdT.vals]) (by first | (simp [Value.oneCell']; done) | simp [Value.oneCell', IdT.vals]) size46 ?_
      refine RL.nil ⟨keep_same SB, ?_⟩
      refine HL.done KR ?_
      dsimp only [thenX]
      exact ⟨b8, (by repeat (first | exact Keep.nil _ | refine Keep.cons _ rfl ?_)), rfl, fun _ hw => hw.sub SB⟩
     refine RL.buildSlice [.string sPoint, .string sShape, .string sState, .string sEvent] elem42 rfl (by decide) (fill4s rfl rfl rfl rfl) rfl fun b35 => ?_
     refine RL.nil ⟨keep_same SB, ?_⟩
     refine HL.take 8 rfl KR KR KR rfl (Y.index i rfl rfl OM OM slice42 (fun _ _ => rfl)) rfl ?_
     refine HL.step2 5 9 rfl rfl KR ?_ ?_
     ·refine RL.callv rfl func14 rfl rfl (by exact id_ok _ _ _ _ AO AO) ?_
      refine RL.nil ⟨keep_same SB, ?_⟩
      refine HL.step 9 rfl KR ?_
      refine RL.q (Y.loadOwn rfl MM (nm4_at hi4) flat9) rfl ?_
      refine RL.nil ⟨keep_same SB, ?_⟩
      refine HL.take 10 rfl KR KR KR rfl (Y.build [_, _, _, _, _, _, _, _, _, _, _, _, _, _, _, _, _, _, _, _, _, _, _, _, _, _, _, _, _, _, _] rfl zero46 places46 (by rfl)) rfl ?_
      refine HL.step 12 rfl KR ?_
      refine RL.storeAgg _ rfl rfl RP (by rfl) (by first | (simp; done) | simp [IdT.vals]) (by first | (simp [Value.oneCell']; done) | simp [Value.oneCell', IdT.vals]) size46 ?_
      refine RL.nil ⟨keep_same SB, ?_⟩
      refine HL.done KR ?_
      dsimp only [thenX]
      exact ⟨b8, (by repeat (first | exact Keep.nil _ | refine Keep.cons _ rfl ?_)), rfl, fun _ hw => hw.sub SB⟩
     refine RL.q (Y.loadOwn rfl MM (nm4_at hi4) flat9) rfl ?_
     refine RL.nil ⟨keep_same SB, ?_⟩
     refine HL.step 5 rfl KR ?_
     refine RL.callv rfl func14 rfl rfl (by exact id_ok _ _ _ _ AO AO) ?_
     refine RL.nil ⟨keep_same SB, ?_⟩
     refine HL.take 10 rfl KR KR KR rfl (Y.build [_, _, _, _, _, _, _, _, _, _, _, _, _, _, _, _, _, _, _, _, _, _, _, _, _, _, _, _, _, _, _] rfl zero46 places46 (by rfl)) rfl ?_
     refine HL.step 12 rfl KR ?_
     refine RL.storeAgg _ rfl rfl RP (by rfl) (by first | (simp; done) | simp [IdT.vals]) (by first | (simp [Value.oneCell']; done) | simp [Value.oneCell', IdT.vals]) size46 ?_
     refine RL.nil ⟨keep_same SB, ?_⟩
     refine HL.done KR ?_
     dsimp only [thenX]
     exact ⟨b8, (by repeat (first | exact Keep.nil _ | refine Keep.cons _ rfl ?_)), rfl, fun _ hw => hw.sub SB⟩
    ·refine RL.buildSlice [.string sPoint, .string sShape, .string sState, .string sEvent] elem42 rfl (by decide) (fill4s rfl rfl rfl rfl) rfl fun b35 => ?_
     refine RL.nil ⟨keep_same SB, ?_⟩
     refine HL.take 8 rfl KR KR KR rfl (Y.index i rfl rfl OM OM slice42 (fun _ _ => rfl)) rfl ?_
     refine HL.step3 2 9 11 rfl rfl rfl KR ?_ ?_ ?_
     ·refine RL.callv rfl func14 rfl rfl (by exact id_ok _ _ _ _ AO AO) ?_
      refine RL.nil ⟨keep_same SB, ?_⟩
      refine HL.step3 5 9 11 rfl rfl rfl KR ?_ ?_ ?_
      ·refine RL.callv rfl func14 rfl rfl (by exact id_ok _ _ _ _ AO AO) ?_
       refine RL.nil ⟨keep_same SB, ?_⟩
       refine HL.step2 9 11 rfl rfl KR ?_ ?_
       ·refine RL.q (Y.loadOwn rfl MM (nm4_at hi4) flat9) rfl ?_
        refine RL.nil ⟨keep_same SB, ?_⟩
        refine HL.take 10 rfl KR KR KR rfl (Y.build [_, _, _, _, _, _, _, _, _, _, _, _, _, _, _, _, _, _, _, _, _, _, _, _, _, _, _, _, _, _, _] rfl zero46 places46 (by rfl)) rfl ?_
        refine HL.step 11 rfl KR ?_
        refine RL.alloc _ zero46 rfl rfl fun b8 => ?_
        refine RL.nil ⟨keep_same SB, ?_⟩
        refine HL.step 12 rfl KR ?_
        refine RL.storeAgg _ rfl rfl RP (by rfl) (by first | (simp; done) | simp [IdT.vals]) (by first | (simp [Value.oneCell']; done) | simp [Value.oneCell', IdT.vals]) size46 ?_
        refine RL.nil ⟨keep_same SB, ?_⟩
        refine HL.done KR ?_
        dsimp only [thenX]
        exact ⟨b8, (by repeat (first | exact Keep.nil _ | refine Keep.cons _ rfl ?_)), rfl, fun _ hw => hw.sub SB⟩
       refine RL.alloc _ zero46 rfl rfl fun b8 => ?_
       refine RL.nil ⟨keep_same SB, ?_⟩
       refine HL.step 9 rfl KR ?_
       refine RL.q (Y.loadOwn rfl MM (nm4_at hi4) flat9) rfl ?_
       refine RL.nil ⟨keep_same SB, ?_⟩
       refine HL.take 10 rfl KR KR KR rfl (Y.build [_, _, _, _, _, _, _, _, _, _, _, _, _, _, _, _, _, _, _, _, _, _, _, _, _, _, _, _, _, _, _] rfl zero46 places46 (by rfl)) rfl ?_
       refine HL.step 12 rfl KR ?_
       refine RL.storeAgg _ rfl rfl RP (by rfl) (by first | (simp; done) | simp [IdT.vals]) (by first | (simp [Value.oneCell']; done) | simp [Value.oneCell', IdT.vals]) size46 ?_
       refine RL.nil ⟨keep_same SB, ?_⟩
       refine HL.done KR ?_
       dsimp only [thenX]
       exact ⟨b8, (by repeat (first | exact Keep.nil _ | refine Keep.cons _ rfl ?_)), rfl, fun _ hw => hw.sub SB⟩
      ·refine RL.q (Y.loadOwn rfl MM (nm4_at hi4) flat9) rfl ?_
       refine RL.nil ⟨keep_same SB, ?_⟩
       refine HL.step2 5 11 rfl rfl KR ?_ ?_
       ·refine RL.callv rfl func14 rfl rfl (by exact id_ok _ _ _ _ AO AO) ?_
        refine RL.nil ⟨keep_same SB, ?_⟩
        refine HL.take 10 rfl KR KR KR rfl (Y.build [_, _, _, _, _, _, _, _, _, _, _, _, _, _, _, _, _, _, _, _, _, _, _, _, _, _, _, _, _, _, _] rfl zero46 places46 (by rfl)) rfl ?_
        refine HL.step 11 rfl KR ?_
        refine RL.alloc _ zero46 rfl rfl fun b8 => ?_
        refine RL.nil ⟨keep_same SB, ?_⟩
        refine HL.step 12 rfl KR ?_
        refine RL.storeAgg _ rfl rfl RP (by rfl) (by first | (simp; done) | simp [IdT.vals]) (by first | (simp [Value.oneCell']; done) | simp [Value.oneCell', IdT.vals]) size46 ?_
        refine RL.nil ⟨keep_same SB, ?_⟩
        refine HL.done KR ?_
        dsimp only [thenX]
        exact ⟨b8, (by repeat (first | exact Keep.nil _ | refine Keep.cons _ rfl ?_)), rfl, fun _ hw => hw.sub SB⟩
       refine RL.alloc _ zero46 rfl rfl fun b8 => ?_
       refine RL.nil ⟨keep_same SB, ?_⟩
       refine HL.step 5 rfl KR ?_
       refine RL.callv rfl func14 rfl rfl (by exact id_ok _ _ _ _ AO AO) ?_
       refine RL.nil ⟨keep_same SB, ?_⟩
       refine HL.take 10 rfl KR KR KR rfl (Y.build [_, _, _, _, _, _, _, _, _, _, _, _, _, _, _, _, _, _, _, _, _, _, _, _, _, _, _, _, _, _, _] rfl zero46 places46 (by rfl)) rfl ?_
       refine HL.step 12 rfl KR ?_
       refine RL.storeAgg _ rfl rfl RP (by rfl) (by first | (simp; done) | simp [IdT.vals]) (by first | (simp [Value.oneCell']; done) | simp [Value.oneCell', IdT.vals]) size46 ?_
       refine RL.nil ⟨keep_same SB, ?_⟩
       refine HL.done KR ?_
       dsimp only [thenX]
       exact ⟨b8, (by repeat (first | exact Keep.nil _ | refine Keep.cons _ rfl ?_)), rfl, fun _ hw => hw.sub SB⟩
      refine RL.alloc _ zero46 rfl rfl fun b8 => ?_
      refine RL.nil ⟨keep_same SB, ?_⟩
      refine HL.step2 5 9 rfl rfl KR ?_ ?_
      ·refine RL.callv rfl func14 rfl rfl (by exact id_ok _ _ _ _ AO AO) ?_
       refine RL.nil ⟨keep_same SB, ?_⟩
       refine HL.step 9 rfl KR ?_
       refine RL.q (Y.loadOwn rfl MM (nm4_at hi4) flat9) rfl ?_
       refine RL.nil ⟨keep_same SB, ?_⟩
       refine HL.take 10 rfl KR KR KR rfl (Y.build [_, _, _, _, _, _, _, _, _, _, _, _, _, _, _, _, _, _, _, _, _, _, _, _, _, _, _, _, _, _, _] rfl zero46 places46 (by rfl)) rfl ?_
       refine HL.step 12 rfl KR ?_
       refine RL.storeAgg _ rfl rfl RP (by rfl) (by first | (simp; done) | simp [IdT.vals]) (by first | (simp [Value.oneCell']; done) | simp [Value.oneCell', IdT.vals]) size46 ?_
       refine RL.nil ⟨keep_same SB, ?_⟩
       refine HL.done KR ?_
       dsimp only [thenX]
       exact ⟨b8, (by repeat (first | exact Keep.nil _ | refine Keep.cons _ rfl ?_)), rfl, fun _ hw => hw.sub SB⟩
      refine RL.q (Y.loadOwn rfl MM (nm4_at hi4) flat9) rfl ?_
      refine RL.nil ⟨keep_same SB, ?_⟩
      refine HL.step 5 rfl KR ?_
      refine RL.callv rfl func14 rfl rfl (by exact id_ok _ _ _ _ AO AO) ?_
      refine RL.nil ⟨keep_same SB, ?_⟩
      refine HL.take 10 rfl KR KR KR rfl (Y.build [_, _, _, _, _, _, _, _, _, _, _, _, _, _, _, _, _, _, _, _, _, _, _, _, _, _, _, _, _, _, _] rfl zero46 places46 (by rfl)) rfl ?_
      refine HL.step 12 rfl KR ?_
      refine RL.storeAgg _ rfl rfl RP (by rfl) (by first | (simp; done) | simp [IdT.vals]) (by first | (simp [Value.oneCell']; done) | simp [Value.oneCell', IdT.vals]) size46 ?_
      refine RL.nil ⟨keep_same SB, ?_⟩
      refine HL.done KR ?_
      dsimp only [thenX]
      exact ⟨b8, (by repeat (first | exact Keep.nil _ | refine Keep.cons _ rfl ?_)), rfl, fun _ hw => hw.sub SB⟩
     ·refine RL.q (Y.loadOwn rfl MM (nm4_at hi4) flat9) rfl ?_
      refine RL.nil ⟨keep_same SB, ?_⟩
      refine HL.step2 2 11 rfl rfl KR ?_ ?_
      ·refine RL.callv rfl func14 rfl rfl (by exact id_ok _ _ _ _ AO AO) ?_
       refine RL.nil ⟨keep_same SB, ?_⟩
       refine HL.step2 5 11 rfl rfl KR ?_ ?_
       ·refine RL.callv rfl func14 rfl rfl (by exact id_ok _ _ _ _ AO AO) ?_
        refine RL.nil ⟨keep_same SB, ?_⟩
        refine HL.take 10 rfl KR KR KR rfl (Y.build [_, _, _, _, _, _, _, _, _, _, _, _, _, _, _, _, _, _, _, _, _, _, _, _, _, _, _, _, _, _, _] rfl zero46 places46 (by rfl)) rfl ?_
        refine HL.step 11 rfl KR ?_
        refine RL.alloc _ zero46 rfl rfl fun b8 => ?_
        refine RL.nil ⟨keep_same SB, ?_⟩
        refine HL.step 12 rfl KR ?_
        refine RL.storeAgg _ rfl rfl RP (by rfl) (by first | (simp; done) | simp [IdT.vals]) (by first | (simp [Value.oneCell']; done) | simp [Value.oneCell', IdT.vals]) size46 ?_
        refine RL.nil ⟨keep_same SB, ?_⟩
        refine HL.done KR ?_
        dsimp only [thenX]
        exact ⟨b8, (by repeat (first | exact Keep.nil _ | refine Keep.cons _ rfl ?_)), rfl, fun _ hw => hw.sub SB⟩
       refine RL.alloc _ zero46 rfl rfl fun b8 => ?_
       refine RL.nil ⟨keep_same SB, ?_⟩
       refine HL.step 5 rfl KR ?_
       refine RL.callv rfl func14 rfl rfl (by exact id_ok _ _ _ _ AO AO) ?_
       refine RL.nil ⟨keep_same SB, ?_⟩
       refine HL.take 10 rfl KR KR KR rfl (Y.build [_, _, _, _, _, _, _, _, _, _, _, _, _, _, _, _, _, _, _, _, _, _, _, _, _, _, _, _, _, _, _] rfl zero46 places46 (by rfl)) rfl ?_
       refine HL.step 12 rfl KR ?_
       refine RL.storeAgg _ rfl rfl RP (by rfl) (by first | (simp; done) | simp [IdT.vals]) (by first | (simp [Value.oneCell']; done) | simp [Value.oneCell', IdT.vals]) size46 ?_
       refine RL.nil ⟨keep_same SB, ?_⟩
       refine HL.done KR ?_
       dsimp only [thenX]
       exact ⟨b8, (by repeat (first | exact Keep.nil _ | refine Keep.cons _ rfl ?_)), rfl, fun _ hw => hw.sub SB⟩
      refine RL.alloc _ zero46 rfl rfl fun b8 => ?_
      refine RL.nil ⟨keep_same SB, ?_⟩
      refine HL.step 2 rfl KR ?_
      refine RL.callv rfl func14 rfl rfl (by exact id_ok _ _ _ _ AO AO) ?_
      refine RL.nil ⟨keep_same SB, ?_⟩
      refine HL.step 5 rfl KR ?_
      refine RL.callv rfl func14 rfl rfl (by exact id_ok _ _ _ _ AO AO) ?_
      refine RL.nil ⟨keep_same SB, ?_⟩
      refine HL.take 10 rfl KR KR KR rfl (Y.build [_, _, _, _, _, _, _, _, _, _, _, _, _, _, _, _, _, _, _, _, _, _, _, _, _, _, _, _, _, _, _] rfl zero46 places46 (by rfl)) rfl ?_
      refine HL.step 12 rfl KR ?_
      refine RL.storeAgg _ rfl rfl RP (by rfl) (by first | (simp; done) | simp [IdT.vals]) (by first | (simp [Value.oneCell']; done) | simp [Value.oneCell', IdT.vals]) size46 ?_
      refine RL.nil ⟨keep_same SB, ?_⟩
      refine HL.done KR ?_
      dsimp only [thenX]
      exact ⟨b8, (by repeat (first | exact Keep.nil _ | refine Keep.cons _ rfl ?_)), rfl, fun _ hw => hw.sub SB⟩
     refine RL.alloc _ zero46 rfl rfl fun b8 => ?_
     refine RL.nil ⟨keep_same SB, ?_⟩
     refine HL.step2 2 9 rfl rfl KR ?_ ?_
     ·refine RL.callv rfl func14 rfl rfl (by exact id_ok _ _ _ _ AO AO) ?_
      refine RL.nil ⟨keep_same SB, ?_⟩
      refine HL.step2 5 9 rfl rfl KR ?_ ?_
      ·refine RL.callv rfl func14 rfl rfl (by exact id_ok _ _ _ _ AO AO) ?_
       refine RL.nil ⟨keep_same SB, ?_⟩
       refine HL.step 9 rfl KR ?_
       refine RL.q (Y.loadOwn rfl MM (nm4_at hi4) flat9) rfl ?_
       refine RL.nil ⟨keep_same SB, ?_⟩
       refine HL.take 10 rfl KR KR KR rfl (Y.build [_, _, _, _, _, _, _, _, _, _, _, _, _, _, _, _, _, _, _, _, _, _, _, _, _, _, _, _, _, _, _] rfl zero46 places46 (by rfl)) rfl ?_
       refine HL.step 12 rfl KR ?_
       refine RL.storeAgg _ rfl rfl RP (by rfl) (by first | (simp; done) | simp [IdT.vals]) (by first | (simp [Value.oneCell']; done) | simp [Value.oneCell', IdT.vals]) size46 ?_
       refine RL.nil ⟨keep_same SB, ?_⟩
       refine HL.done KR ?_
       dsimp only [thenX]
       exact ⟨b8, (by repeat (first | exact Keep.nil _ | refine Keep.cons _ rfl ?_)), rfl, fun _ hw => hw.sub SB⟩
      refine RL.q (Y.loadOwn rfl MM (nm4_at hi4) flat9) rfl ?_
      refine RL.nil ⟨keep_same SB, ?_⟩
      refine HL.step 5 rfl KR ?_
      refine RL.callv rfl func14 rfl rfl (by exact id_ok _ _ _ _ AO AO) ?_
      refine RL.nil ⟨keep_same SB, ?_⟩
      refine HL.take 10 rfl KR KR KR rfl (Y.build [_, _, _, _, _, _, _, _, _, _, _, _, _, _, _, _, _, _, _, _, _, _, _, _, _, _, _, _, _, _, _] rfl zero46 places46 (by rfl)) rfl ?_
      refine HL.step 12 rfl KR ?_
      refine RL.storeAgg _ rfl rfl RP (by rfl) (by first | (simp; done) | simp [IdT.vals]) (by first | (simp [Value.oneCell']; done) | simp [Value.oneCell', IdT.vals]) size46 ?_
      refine RL.nil ⟨keep_same SB, ?_⟩
      refine HL.done KR ?_
      dsimp only [thenX]
      exact ⟨b8, (by repeat (first | exact Keep.nil _ | refine Keep.cons _ rfl ?_)), rfl, fun _ hw => hw.sub SB⟩
     refine RL.q (Y.loadOwn rfl MM (nm4_at hi4) flat9) rfl ?_
     refine RL.nil ⟨keep_same SB, ?_⟩
     refine HL.step 2 rfl KR ?_
     refine RL.callv rfl func14 rfl rfl (by exact id_ok _ _ _ _ AO AO) ?_
     refine RL.nil ⟨keep_same SB, ?_⟩
     refine HL.step 5 rfl KR ?_
     refine RL.callv rfl func14 rfl rfl (by exact id_ok _ _ _ _ AO AO) ?_
     refine RL.nil ⟨keep_same SB, ?_⟩
     refine HL.take 10 rfl KR KR KR rfl (Y.build [_, _, _, _, _, _, _, _, _, _, _, _, _, _, _, _, _, _, _, _, _, _, _, _, _, _, _, _, _, _, _] rfl zero46 places46 (by rfl)) rfl ?_
     refine HL.step 12 rfl KR ?_
     refine RL.storeAgg _ rfl rfl RP (by rfl) (by first | (simp; done) | simp [IdT.vals]) (by first | (simp [Value.oneCell']; done) | simp [Value.oneCell', IdT.vals]) size46 ?_
     refine RL.nil ⟨keep_same SB, ?_⟩
     refine HL.done KR ?_
     dsimp only [thenX]
     exact ⟨b8, (by repeat (first | exact Keep.nil _ | refine Keep.cons _ rfl ?_)), rfl, fun _ hw => hw.sub SB⟩
    refine RL.alloc _ zero46 rfl rfl fun b8 => ?_
    refine RL.nil ⟨keep_same SB, ?_⟩
    refine HL.step2 2 6 rfl rfl KR ?_ ?_
    ·refine RL.callv rfl func14 rfl rfl (by exact id_ok _ _ _ _ AO AO) ?_
     refine RL.nil ⟨keep_same SB, ?_⟩
     refine HL.step2 5 6 rfl rfl KR ?_ ?_
     ·refine RL.callv rfl func14 rfl rfl (by exact id_ok _ _ _ _ AO AO) ?_
      refine RL.nil ⟨keep_same SB, ?_⟩
      refine HL.step 6 rfl KR ?_
      refine RL.buildSlice [.string sPoint, .string sShape, .string sState, .string sEvent] elem42 rfl (by decide) (fill4s rfl rfl rfl rfl) rfl fun b35 => ?_
      refine RL.nil ⟨keep_same SB, ?_⟩
      refine HL.take 8 rfl KR KR KR rfl (Y.index i rfl rfl OM OM slice42 (fun _ _ => rfl)) rfl ?_
      refine HL.step 9 rfl KR ?_
      refine RL.q (Y.loadOwn rfl MM (nm4_at hi4) flat9) rfl ?_
      refine RL.nil ⟨keep_same SB, ?_⟩
      refine HL.take 10 rfl KR KR KR rfl (Y.build [_, _, _, _, _, _, _, _, _, _, _, _, _, _, _, _, _, _, _, _, _, _, _, _, _, _, _, _, _, _, _] rfl zero46 places46 (by rfl)) rfl ?_
      refine HL.step 12 rfl KR ?_
      refine RL.storeAgg _ rfl rfl RP (by rfl) (by first | (simp; done) | simp [IdT.vals]) (by first | (simp [Value.oneCell']; done) | simp [Value.oneCell', IdT.vals]) size46 ?_
      refine RL.nil ⟨keep_same SB, ?_⟩
      refine HL.done KR ?_
      dsimp only [thenX]
      exact ⟨b8, (by repeat (first | exact Keep.nil _ | refine Keep.cons _ rfl ?_)), rfl, fun _ hw => hw.sub SB⟩
     refine RL.buildSlice [.string sPoint, .string sShape, .string sState, .string sEvent] elem42 rfl (by decide) (fill4s rfl rfl rfl rfl) rfl fun b35 => ?_
     refine RL.nil ⟨keep_same SB, ?_⟩
     refine HL.take 8 rfl KR KR KR rfl (Y.index i rfl rfl OM OM slice42 (fun _ _ => rfl)) rfl ?_
     refine HL.step2 5 9 rfl rfl KR ?_ ?_
     ·refine RL.callv rfl func14 rfl rfl (by exact id_ok _ _ _ _ AO AO) ?_
      refine RL.nil ⟨keep_same SB, ?_⟩
      refine HL.step 9 rfl KR ?_
      refine RL.q (Y.loadOwn rfl MM (nm4_at hi4) flat9) rfl ?_
      refine RL.nil ⟨keep_same SB, ?_⟩
      refine HL.take 10 rfl KR KR KR rfl (Y.build [_, _, _, _, _, _, _, _, _, _, _, _, _, _, _, _, _, _, _, _, _, _, _, _, _, _, _, _, _, _, _] rfl zero46 places46 (by rfl)) rfl ?_
      refine HL.step 12 rfl KR ?_
      refine RL.storeAgg _ rfl rfl RP (by rfl) (by first | (simp; done) | simp [IdT.vals]) (by first | (simp [Value.oneCell']; done) | simp [Value.oneCell', IdT.vals]) size46 ?_
      refine RL.nil ⟨keep_same SB, ?_⟩
      refine HL.done KR ?_
      dsimp only [thenX]
      exact ⟨b8, (by repeat (first | exact Keep.nil _ | refine Keep.cons _ rfl ?_)), rfl, fun _ hw => hw.sub SB⟩
     refine RL.q (Y.loadOwn rfl MM (nm4_at hi4) flat9) rfl ?_
     refine RL.nil ⟨keep_same SB, ?_⟩
     refine HL.step 5 rfl KR ?_
     refine RL.callv rfl func14 rfl rfl (by exact id_ok _ _ _ _ AO AO) ?_
     refine RL.nil ⟨keep_same SB, ?_⟩
     refine HL.take 10 rfl KR KR KR rfl (Y.build [_, _, _, _, _, _, _, _, _, _, _, _, _, _, _, _, _, _, _, _, _, _, _, _, _, _, _, _, _, _, _] rfl zero46 places46 (by rfl)) rfl ?_
     refine HL.step 12 rfl KR ?_
     refine RL.storeAgg _ rfl rfl RP (by rfl) (by first | (simp; done) | simp [IdT.vals]) (by first | (simp [Value.oneCell']; done) | simp [Value.oneCell', IdT.vals]) size46 ?_
     refine RL.nil ⟨keep_same SB, ?_⟩
     refine HL.done KR ?_
     dsimp only [thenX]
     exact ⟨b8, (by repeat (first | exact Keep.nil _ | refine Keep.cons _ rfl ?_)), rfl, fun _ hw => hw.sub SB⟩
    refine RL.buildSlice [.string sPoint, .string sShape, .string sState, .string sEvent] elem42 rfl (by decide) (fill4s rfl rfl rfl rfl) rfl fun b35 => ?_
    refine RL.nil ⟨keep_same SB, ?_⟩
    refine HL.take 8 rfl KR KR KR rfl (Y.index i rfl rfl OM OM slice42 (fun _ _ => rfl)) rfl ?_
    refine HL.step2 2 9 rfl rfl KR ?_ ?_
    ·refine RL.callv rfl func14 rfl rfl (by exact id_ok _ _ _ _ AO AO) ?_
     refine RL.nil ⟨keep_same SB, ?_⟩
     refine HL.step2 5 9 rfl rfl KR ?_ ?_
     ·refine RL.callv rfl func14 rfl rfl (by exact id_ok _ _ _ _ AO AO) ?_
      refine RL.nil ⟨keep_same SB, ?_⟩
      refine HL.step 9 rfl KR ?_
      refine RL.q (Y.loadOwn rfl MM (nm4_at hi4) flat9) rfl ?_
      refine RL.nil ⟨keep_same SB, ?_⟩
      refine HL.take 10 rfl KR KR KR rfl (Y.build [_, _, _, _, _, _, _, _, _, _, _, _, _, _, _, _, _, _, _, _, _, _, _, _, _, _, _, _, _, _, _] rfl zero46 places46 (by rfl)) rfl ?_
      refine HL.step 12 rfl KR ?_
      refine RL.storeAgg _ rfl rfl RP (by rfl) (by first | (simp; done) | simp [IdT.vals]) (by first | (simp [Value.oneCell']; done) | simp [Value.oneCell', IdT.vals]) size46 ?_
      refine RL.nil ⟨keep_same SB, ?_⟩
      refine HL.done KR ?_
      dsimp only [thenX]
      exact ⟨b8, (by repeat (first | exact Keep.nil _ | refine Keep.cons _ rfl ?_)), rfl, fun _ hw => hw.sub SB⟩
     refine RL.q (Y.loadOwn rfl MM (nm4_at hi4) flat9) rfl ?_
     refine RL.nil ⟨keep_same SB, ?_⟩
     refine HL.step 5 rfl KR ?_
     refine RL.callv rfl func14 rfl rfl (by exact id_ok _ _ _ _ AO AO) ?_
     refine RL.nil ⟨keep_same SB, ?_⟩
     refine HL.take 10 rfl KR KR KR rfl (Y.build [_, _, _, _, _, _, _, _, _, _, _, _, _, _, _, _, _, _, _, _, _, _, _, _, _, _, _, _, _, _, _] rfl zero46 places46 (by rfl)) rfl ?_
     refine HL.step 12 rfl KR ?_
     refine RL.storeAgg _ rfl rfl RP (by rfl) (by first | (simp; done) | simp [IdT.vals]) (by first | (simp [Value.oneCell']; done) | simp [Value.oneCell', IdT.vals]) size46 ?_
     refine RL.nil ⟨keep_same SB, ?_⟩
     refine HL.done KR ?_
     dsimp only [thenX]
     exact ⟨b8, (by repeat (first | exact Keep.nil _ | refine Keep.cons _ rfl ?_)), rfl, fun _ hw => hw.sub SB⟩
    refine RL.q (Y.loadOwn rfl MM (nm4_at hi4) flat9) rfl ?_
    refine RL.nil ⟨keep_same SB, ?_⟩
    refine HL.step 2 rfl KR ?_
    refine RL.callv rfl func14 rfl rfl (by exact id_ok _ _ _ _ AO AO) ?_
    refine RL.nil ⟨keep_same SB, ?_⟩
    refine HL.step 5 rfl KR ?_
    refine RL.callv rfl func14 rfl rfl (by exact id_ok _ _ _ _ AO AO) ?_
    refine RL.nil ⟨keep_same SB, ?_⟩
    refine HL.take 10 rfl KR KR KR rfl (Y.build [_, _, _, _, _, _, _, _, _, _, _, _, _, _, _, _, _, _, _, _, _, _, _, _, _, _, _, _, _, _, _] rfl zero46 places46 (by rfl)) rfl ?_
    refine HL.step 12 rfl KR ?_
    refine RL.storeAgg _ rfl rfl RP (by rfl) (by first | (simp; done) | simp [IdT.vals]) (by first | (simp [Value.oneCell']; done) | simp [Value.oneCell', IdT.vals]) size46 ?_
    refine RL.nil ⟨keep_same SB, ?_⟩
    refine HL.done KR ?_
    dsimp only [thenX]
    exact ⟨b8, (by repeat (first | exact Keep.nil _ | refine Keep.cons _ rfl ?_)), rfl, fun _ hw => hw.sub SB⟩
   rintro _ M1 Γ8 ⟨b8, hk8, rfl, hG8⟩
   refine CW.pre ?_ hk8 hG8
   refine CW.seq fun K11 hK11 => ?_
   refine CW.region ?_
   refine RL.q (Y.move rfl) rfl ?_
   refine RL.q (Y.quo rfl rfl OM OM) rfl ?_
   refine RL.q (Y.rem rfl rfl OM) rfl ?_
   refine RL.q (Y.add rfl rfl OM) rfl ?_
   refine RL.q (Y.assign rfl) rfl ?_
   refine RL.nil ?_
   refine hK11 _ _ _ ?_
   refine CW.kp [0, 2, 3, 4, 5, 6, 8, 9] rfl ?_
   rw [← hac]
   refine CW.seq fun K12 hK12 => ?_
   refine CW.seq fun K13 hK13 => ?_
   refine CW.region ?_
   refine RL.q (Y.assign rfl) rfl ?_
   refine RL.nil ?_
   refine hK13 _ _ _ ?_
   refine CW.kp [0, 2, 3, 4, 5, 6, 8, 9, 10] rfl ?_
   refine CW.block ?_
   -- LOOP 2: live [0, 2, 3, 4, 5, 6, 8, 9, 10] changed [5, 10]
   refine CW.kp [5, 10, 0, 2, 3, 4, 6, 8, 9] rfl ?_
   refine CW.front (x := .own b8 46 _) PK ?_
   refine CW.accNil 66 11 ?_
   refine CW.addRds (RdL.nil _) ?_
   refine CW.loopF (fun m Lc M2 Γc => ∃ (j : Nat) (xa : Option Addr) (xc : Nat) (xs : List Value), m = tArity l i - j ∧ j ≤ tArity l i ∧ Lc = [(5, vint (tNext l i + (j : Int))), (10, vint j)] ∧ Γc = [.rds ((tSlots l i j).flatMap SlotT.enc) xs, .acc (.slice xa j xc) 66 11 j xs, .own b8 46 (dvs (idK (1 + (i : Int))) ((tBits l i).tmod 2) (idK 0) (nm4 i) (.slice xa j xc))]) (tArity l i) [(5, _), (10, _)] [_, _, _] rfl rfl ⟨0, none, 0, [], rfl, Nat.zero_le _, by simp, rfl⟩ ?_
   rintro m Lc M2 Γc hsj ⟨j, xa, xc, xs, rfl, hj, rfl, rfl⟩
   refine CW.seq fun K14 hK14 => ?_
   refine CW.seq fun K15 hK15 => ?_
   refine CW.region ?_
   refine RL.q (Y.move rfl) rfl ?_
   refine RL.q (Y.move rfl) rfl ?_
   refine RL.q (Y.lss rfl rfl) rfl ?_
   refine RL.nil ?_
   refine hK15 _ _ _ ?_
   refine CW.kp [0, 2, 3, 4, 5, 6, 8, 9, 10, 46] rfl ?_
   refine CW.ite rfl (fun h2 => ?_) (fun h2 => ?_)
   ·have hj3 : j < 3 := by omega
    have hpr := atL_lt l (5 + 3 * (i : Int) + (j : Int)) 65536 OM
    refine CW.skip ?_
    refine hK14 _ _ _ ?_
    refine CW.seq fun K16 hK16 => ?_
    refine CW.block ?_
    refine CW.cut (fun L' M' Γ' => ∃ a68 c68 xs2, Keep L' [(0, .slice al l.length cl), (2, .pointer (some (adr (some ⟨b2, 0, none⟩) 0))), (3, .pointer (some (adr (some ⟨b3, 0, none⟩) 0))), (4, vint (tMany l)), (5, vint (tNext l i + (j : Int))), (6, vint i), (8, .pointer (some (adr (some ⟨b8, 0, none⟩) 0))), (9, vint (tArity l i)), (10, vint j)] ∧ Sub M2 M' ∧ RdL M' (tSlot l i j).enc xs2 ∧ ∀ w, St w0 M' Γ' w → St w0 M' (.acc (.slice a68 (j + 1) c68) 66 11 (j + 1) (xs ++ xs2) :: .rds ((tSlots l i j).flatMap SlotT.enc) xs :: .own b8 46 (dvs (idK (1 + (i : Int))) ((tBits l i).tmod 2) (idK 0) (nm4 i) (.slice a68 (j + 1) c68)) :: .rds ((tDefs l i).flatMap DefT.enc) us :: .acc (.slice ua i ca) 46 31 i us :: .own b3 26 [(.slice (some ⟨b13, 0, none⟩) 1 1), .slice ua i ca] :: .rds ((tIds i).flatMap IdT.enc) vs :: .acc (.slice va i vc) 28 3 i vs :: .own b13 79 [vint 0, vint 1, vint 0, .string sCore, .slice none 0 0, .slice va i vc] :: .own b2 26 [.slice none 0 0, .slice none 0 0] :: .rd (dints l) (.slice al l.length cl) :: Γ) w) ?_ ?_
    ·refine CW.regionGP 21 mix (x := .acc (.slice xa j xc) 66 11 j xs) PK ?_
     refine HG.take 0 rfl KR KR KR rfl (Y.field rfl field46_4) rfl ?_
     refine HG.take 1 rfl KR KR KR rfl (Y.loadOwn rfl MM (by rfl) flat40) rfl ?_
     refine HG.take 2 rfl KR KR KR rfl (Y.move rfl) rfl ?_
     refine HG.take 5 rfl KR KR KR rfl (Y.move rfl) rfl ?_
     refine HG.take 8 rfl KR KR KR rfl (Y.move rfl) rfl ?_
     refine HG.take 9 rfl KR KR KR rfl (Y.move rfl) rfl ?_
     refine HG.take 10 rfl KR KR KR rfl (Y.mul rfl rfl OM) rfl ?_
     refine HG.take 11 rfl KR KR KR rfl (Y.add rfl rfl OM) rfl ?_
     refine HG.take 12 rfl KR KR KR rfl (Y.move rfl) rfl ?_
     refine HG.take 13 rfl KR KR KR rfl (Y.add rfl rfl OM) rfl ?_
     refine HG.take 15 rfl KR KR KR rfl (Y.move rfl) rfl ?_
     refine HG.step2 3 4 rfl rfl KR ?_ ?_
     ·refine RL.callv rfl func14 rfl rfl (by exact id_ok _ _ _ _ AO AO) ?_
      refine RL.nil ⟨keep_same SB, ?_⟩
      refine HG.step2 4 14 rfl rfl KR ?_ ?_
      ·refine RL.buildSlice [.string sX, .string sY, .string sZ] elem42 rfl (by decide) (fill3 (out := [.string sX]) (out' := [.string sY]) (out'' := [.string sZ]) rfl rfl rfl rfl rfl rfl) rfl fun b53 => ?_
       refine RL.nil ⟨keep_same SB, ?_⟩
       refine HG.take 6 rfl KR KR KR rfl (Y.index j rfl rfl OM OM slice42 (fun _ _ => rfl)) rfl ?_
       refine HG.step2 7 14 rfl rfl KR ?_ ?_
       ·refine RL.q (Y.loadOwn rfl MM (nm3_at hj3) flat9) rfl ?_
        refine RL.nil ⟨keep_same SB, ?_⟩
        refine HG.step 14 rfl KR ?_
        refine RL.callv rfl func41 rfl rfl (by exact at_ok _ _ _ _ _ _ _ KK AO AO) ?_
        refine RL.nil ⟨keep_same SB, ?_⟩
        refine HG.step 16 rfl KR ?_
        refine RL.call rfl func42 rfl rfl (by exact pick_ok _ _ _ (atL l (5 + 3 * (i : Int) + (j : Int)) 65536) (i : Int) (by unfold InI; omega) OM OM) ?_
        rintro v65 M65 _ ⟨hs65, rfl, us65, rfl, hr65⟩
        obtain ⟨u65, rfl, hu65⟩ := Ty.open hr65
        have hnew := SlotT.close (tSlot l i j) hu65
        refine RL.nil ⟨keep_more (hs65) SB, ?_⟩
        refine HG.take 17 rfl KR KR KR rfl (Y.build [_, _, _, _, _, _, _, _, _, _, _] rfl zero66 places66 (by rfl)) rfl ?_
        refine HG.step 18 rfl KR ?_
        refine RL.buildSlice _ elem40 rfl (by decide) (fill1 rfl (by rfl)) rfl fun b67 => ?_
        refine RL.nil ⟨keep_more (hs65) SB, ?_⟩
        refine HG.step 19 rfl KR ?_
        refine RL.append elem40 rfl rfl PK (SrcOk.own (sz := 11) (m := 1) MM (by rfl) hnew.one) OM (by unfold lim; omega) rfl fun a68 c68 hc68 => ?_
        refine RL.nil ⟨keep_more (hs65) SB, ?_⟩
        refine HG.take 20 rfl KR KR KR rfl (Y.field rfl field46_4) rfl ?_
        refine HG.last 21 rfl ⟨KR, rfl⟩ KR ?_
        refine RL.store _ rfl rfl RP (by rfl) (by exact Nat.le_of_ble_eq_true rfl) (by rfl) size40 ?_
        refine RL.nil ?_
        dsimp only [thenX]
        exact ⟨a68, c68, _, (by repeat (first | exact Keep.nil _ | refine Keep.cons _ rfl ?_)), hs65, hnew, fun _ hw => hw.sub SB⟩
       refine RL.callv rfl func41 rfl rfl (by exact at_ok _ _ _ _ _ _ _ KK AO AO) ?_
       refine RL.nil ⟨keep_same SB, ?_⟩
       refine HG.step2 7 16 rfl rfl KR ?_ ?_
       ·refine RL.q (Y.loadOwn rfl MM (nm3_at hj3) flat9) rfl ?_
        refine RL.nil ⟨keep_same SB, ?_⟩
        refine HG.step 16 rfl KR ?_
        refine RL.call rfl func42 rfl rfl (by exact pick_ok _ _ _ (atL l (5 + 3 * (i : Int) + (j : Int)) 65536) (i : Int) (by unfold InI; omega) OM OM) ?_
        rintro v65 M65 _ ⟨hs65, rfl, us65, rfl, hr65⟩
        obtain ⟨u65, rfl, hu65⟩ := Ty.open hr65
        have hnew := SlotT.close (tSlot l i j) hu65
        refine RL.nil ⟨keep_more (hs65) SB, ?_⟩
        refine HG.take 17 rfl KR KR KR rfl (Y.build [_, _, _, _, _, _, _, _, _, _, _] rfl zero66 places66 (by rfl)) rfl ?_
        refine HG.step 18 rfl KR ?_
        refine RL.buildSlice _ elem40 rfl (by decide) (fill1 rfl (by rfl)) rfl fun b67 => ?_
        refine RL.nil ⟨keep_more (hs65) SB, ?_⟩
        refine HG.step 19 rfl KR ?_
        refine RL.append elem40 rfl rfl PK (SrcOk.own (sz := 11) (m := 1) MM (by rfl) hnew.one) OM (by unfold lim; omega) rfl fun a68 c68 hc68 => ?_
        refine RL.nil ⟨keep_more (hs65) SB, ?_⟩
        refine HG.take 20 rfl KR KR KR rfl (Y.field rfl field46_4) rfl ?_
        refine HG.last 21 rfl ⟨KR, rfl⟩ KR ?_
        refine RL.store _ rfl rfl RP (by rfl) (by exact Nat.le_of_ble_eq_true rfl) (by rfl) size40 ?_
        refine RL.nil ?_
        dsimp only [thenX]
        exact ⟨a68, c68, _, (by repeat (first | exact Keep.nil _ | refine Keep.cons _ rfl ?_)), hs65, hnew, fun _ hw => hw.sub SB⟩
       refine RL.call rfl func42 rfl rfl (by exact pick_ok _ _ _ (atL l (5 + 3 * (i : Int) + (j : Int)) 65536) (i : Int) (by unfold InI; omega) OM OM) ?_
       rintro v65 M65 _ ⟨hs65, rfl, us65, rfl, hr65⟩
       obtain ⟨u65, rfl, hu65⟩ := Ty.open hr65
       have hnew := SlotT.close (tSlot l i j) hu65
       refine RL.nil ⟨keep_more (hs65) SB, ?_⟩
       refine HG.step 7 rfl KR ?_
       refine RL.q (Y.loadOwn rfl MM (nm3_at hj3) flat9) rfl ?_
       refine RL.nil ⟨keep_more (hs65) SB, ?_⟩
       refine HG.take 17 rfl KR KR KR rfl (Y.build [_, _, _, _, _, _, _, _, _, _, _] rfl zero66 places66 (by rfl)) rfl ?_
       refine HG.step 18 rfl KR ?_
       refine RL.buildSlice _ elem40 rfl (by decide) (fill1 rfl (by rfl)) rfl fun b67 => ?_
       refine RL.nil ⟨keep_more (hs65) SB, ?_⟩
       refine HG.step 19 rfl KR ?_
       refine RL.append elem40 rfl rfl PK (SrcOk.own (sz := 11) (m := 1) MM (by rfl) hnew.one) OM (by unfold lim; omega) rfl fun a68 c68 hc68 => ?_
       refine RL.nil ⟨keep_more (hs65) SB, ?_⟩
       refine HG.take 20 rfl KR KR KR rfl (Y.field rfl field46_4) rfl ?_
       refine HG.last 21 rfl ⟨KR, rfl⟩ KR ?_
       refine RL.store _ rfl rfl RP (by rfl) (by exact Nat.le_of_ble_eq_true rfl) (by rfl) size40 ?_
       refine RL.nil ?_
       dsimp only [thenX]
       exact ⟨a68, c68, _, (by repeat (first | exact Keep.nil _ | refine Keep.cons _ rfl ?_)), hs65, hnew, fun _ hw => hw.sub SB⟩
      refine RL.callv rfl func41 rfl rfl (by exact at_ok _ _ _ _ _ _ _ KK AO AO) ?_
      refine RL.nil ⟨keep_same SB, ?_⟩
      refine HG.step2 4 16 rfl rfl KR ?_ ?_
      ·refine RL.buildSlice [.string sX, .string sY, .string sZ] elem42 rfl (by decide) (fill3 (out := [.string sX]) (out' := [.string sY]) (out'' := [.string sZ]) rfl rfl rfl rfl rfl rfl) rfl fun b53 => ?_
       refine RL.nil ⟨keep_same SB, ?_⟩
       refine HG.take 6 rfl KR KR KR rfl (Y.index j rfl rfl OM OM slice42 (fun _ _ => rfl)) rfl ?_
       refine HG.step2 7 16 rfl rfl KR ?_ ?_
       ·refine RL.q (Y.loadOwn rfl MM (nm3_at hj3) flat9) rfl ?_
        refine RL.nil ⟨keep_same SB, ?_⟩
        refine HG.step 16 rfl KR ?_
        refine RL.call rfl func42 rfl rfl (by exact pick_ok _ _ _ (atL l (5 + 3 * (i : Int) + (j : Int)) 65536) (i : Int) (by unfold InI; omega) OM OM) ?_
        rintro v65 M65 _ ⟨hs65, rfl, us65, rfl, hr65⟩
        obtain ⟨u65, rfl, hu65⟩ := Ty.open hr65
        have hnew := SlotT.close (tSlot l i j) hu65
        refine RL.nil ⟨keep_more (hs65) SB, ?_⟩
        refine HG.take 17 rfl KR KR KR rfl (Y.build [_, _, _, _, _, _, _, _, _, _, _] rfl zero66 places66 (by rfl)) rfl ?_
        refine HG.step 18 rfl KR ?_
        refine RL.buildSlice _ elem40 rfl (by decide) (fill1 rfl (by rfl)) rfl fun b67 => ?_
        refine RL.nil ⟨keep_more (hs65) SB, ?_⟩
        refine HG.step 19 rfl KR ?_
        refine RL.append elem40 rfl rfl PK (SrcOk.own (sz := 11) (m := 1) MM (by rfl) hnew.one) OM (by unfold lim; omega) rfl fun a68 c68 hc68 => ?_
        refine RL.nil ⟨keep_more (hs65) SB, ?_⟩
        refine HG.take 20 rfl KR KR KR rfl (Y.field rfl field46_4) rfl ?_
        refine HG.last 21 rfl ⟨KR, rfl⟩ KR ?_
        refine RL.store _ rfl rfl RP (by rfl) (by exact Nat.le_of_ble_eq_true rfl) (by rfl) size40 ?_
        refine RL.nil ?_
        dsimp only [thenX]
        exact ⟨a68, c68, _, (by repeat (first | exact Keep.nil _ | refine Keep.cons _ rfl ?_)), hs65, hnew, fun _ hw => hw.sub SB⟩
       refine RL.call rfl func42 rfl rfl (by exact pick_ok _ _ _ (atL l (5 + 3 * (i : Int) + (j : Int)) 65536) (i : Int) (by unfold InI; omega) OM OM) ?_
       rintro v65 M65 _ ⟨hs65, rfl, us65, rfl, hr65⟩
       obtain ⟨u65, rfl, hu65⟩ := Ty.open hr65
       have hnew := SlotT.close (tSlot l i j) hu65
       refine RL.nil ⟨keep_more (hs65) SB, ?_⟩
       refine HG.step 7 rfl KR ?_
       refine RL.q (Y.loadOwn rfl MM (nm3_at hj3) flat9) rfl ?_
       refine RL.nil ⟨keep_more (hs65) SB, ?_⟩
       refine HG.take 17 rfl KR KR KR rfl (Y.build [_, _, _, _, _, _, _, _, _, _, _] rfl zero66 places66 (by rfl)) rfl ?_
       refine HG.step 18 rfl KR ?_
       refine RL.buildSlice _ elem40 rfl (by decide) (fill1 rfl (by rfl)) rfl fun b67 => ?_
       refine RL.nil ⟨keep_more (hs65) SB, ?_⟩
       refine HG.step 19 rfl KR ?_
       refine RL.append elem40 rfl rfl PK (SrcOk.own (sz := 11) (m := 1) MM (by rfl) hnew.one) OM (by unfold lim; omega) rfl fun a68 c68 hc68 => ?_
       refine RL.nil ⟨keep_more (hs65) SB, ?_⟩
       refine HG.take 20 rfl KR KR KR rfl (Y.field rfl field46_4) rfl ?_
       refine HG.last 21 rfl ⟨KR, rfl⟩ KR ?_
       refine RL.store _ rfl rfl RP (by rfl) (by exact Nat.le_of_ble_eq_true rfl) (by rfl) size40 ?_
       refine RL.nil ?_
       dsimp only [thenX]
       exact ⟨a68, c68, _, (by repeat (first | exact Keep.nil _ | refine Keep.cons _ rfl ?_)), hs65, hnew, fun _ hw => hw.sub SB⟩
      refine RL.call rfl func42 rfl rfl (by exact pick_ok _ _ _ (atL l (5 + 3 * (i : Int) + (j : Int)) 65536) (i : Int) (by unfold InI; omega) OM OM) ?_
      rintro v65 M65 _ ⟨hs65, rfl, us65, rfl, hr65⟩
      obtain ⟨u65, rfl, hu65⟩ := Ty.open hr65
      have hnew := SlotT.close (tSlot l i j) hu65
      refine RL.nil ⟨keep_more (hs65) SB, ?_⟩
      refine HG.step 4 rfl KR ?_
      refine RL.buildSlice [.string sX, .string sY, .string sZ] elem42 rfl (by decide) (fill3 (out := [.string sX]) (out' := [.string sY]) (out'' := [.string sZ]) rfl rfl rfl rfl rfl rfl) rfl fun b53 => ?_
      refine RL.nil ⟨keep_more (hs65) SB, ?_⟩
      refine HG.take 6 rfl KR KR KR rfl (Y.index j rfl rfl OM OM slice42 (fun _ _ => rfl)) rfl ?_
      refine HG.step 7 rfl KR ?_
      refine RL.q (Y.loadOwn rfl MM (nm3_at hj3) flat9) rfl ?_
      refine RL.nil ⟨keep_more (hs65) SB, ?_⟩
      refine HG.take 17 rfl KR KR KR rfl (Y.build [_, _, _, _, _, _, _, _, _, _, _] rfl zero66 places66 (by rfl)) rfl ?_
      refine HG.step 18 rfl KR ?_
      refine RL.buildSlice _ elem40 rfl (by decide) (fill1 rfl (by rfl)) rfl fun b67 => ?_
      refine RL.nil ⟨keep_more (hs65) SB, ?_⟩
      refine HG.step 19 rfl KR ?_
      refine RL.append elem40 rfl rfl PK (SrcOk.own (sz := 11) (m := 1) MM (by rfl) hnew.one) OM (by unfold lim; omega) rfl fun a68 c68 hc68 => ?_
      refine RL.nil ⟨keep_more (hs65) SB, ?_⟩
      refine HG.take 20 rfl KR KR KR rfl (Y.field rfl field46_4) rfl ?_
      refine HG.last 21 rfl ⟨KR, rfl⟩ KR ?_
      refine RL.store _ rfl rfl RP (by rfl) (by exact Nat.le_of_ble_eq_true rfl) (by rfl) size40 ?_
      refine RL.nil ?_
      dsimp only [thenX]
      exact ⟨a68, c68, _, (by repeat (first | exact Keep.nil _ | refine Keep.cons _ rfl ?_)), hs65, hnew, fun _ hw => hw.sub SB⟩
     refine RL.buildSlice [.string sX, .string sY, .string sZ] elem42 rfl (by decide) (fill3 (out := [.string sX]) (out' := [.string sY]) (out'' := [.string sZ]) rfl rfl rfl rfl rfl rfl) rfl fun b53 => ?_
     refine RL.nil ⟨keep_same SB, ?_⟩
     refine HG.take 6 rfl KR KR KR rfl (Y.index j rfl rfl OM OM slice42 (fun _ _ => rfl)) rfl ?_
     refine HG.step2 3 7 rfl rfl KR ?_ ?_
     ·refine RL.callv rfl func14 rfl rfl (by exact id_ok _ _ _ _ AO AO) ?_
      refine RL.nil ⟨keep_same SB, ?_⟩
      refine HG.step2 7 14 rfl rfl KR ?_ ?_
      ·refine RL.q (Y.loadOwn rfl MM (nm3_at hj3) flat9) rfl ?_
       refine RL.nil ⟨keep_same SB, ?_⟩
       refine HG.step 14 rfl KR ?_
       refine RL.callv rfl func41 rfl rfl (by exact at_ok _ _ _ _ _ _ _ KK AO AO) ?_
       refine RL.nil ⟨keep_same SB, ?_⟩
       refine HG.step 16 rfl KR ?_
       refine RL.call rfl func42 rfl rfl (by exact pick_ok _ _ _ (atL l (5 + 3 * (i : Int) + (j : Int)) 65536) (i : Int) (by unfold InI; omega) OM OM) ?_
       rintro v65 M65 _ ⟨hs65, rfl, us65, rfl, hr65⟩
       obtain ⟨u65, rfl, hu65⟩ := Ty.open hr65
       have hnew := SlotT.close (tSlot l i j) hu65
       refine RL.nil ⟨keep_more (hs65) SB, ?_⟩
       refine HG.take 17 rfl KR KR KR rfl (Y.build [_, _, _, _, _, _, _, _, _, _, _] rfl zero66 places66 (by rfl)) rfl ?_
       refine HG.step 18 rfl KR ?_
       refine RL.buildSlice _ elem40 rfl (by decide) (fill1 rfl (by rfl)) rfl fun b67 => ?_
       refine RL.nil ⟨keep_more (hs65) SB, ?_⟩
       refine HG.step 19 rfl KR ?_
       refine RL.append elem40 rfl rfl PK (SrcOk.own (sz := 11) (m := 1) MM (by rfl) hnew.one) OM (by unfold lim; omega) rfl fun a68 c68 hc68 => ?_
       refine RL.nil ⟨keep_more (hs65) SB, ?_⟩
       refine HG.take 20 rfl KR KR KR rfl (Y.field rfl field46_4) rfl ?_
       refine HG.last 21 rfl ⟨KR, rfl⟩ KR ?_
       refine RL.store _ rfl rfl RP (by rfl) (by exact Nat.le_of_ble_eq_true rfl) (by rfl) size40 ?_
       refine RL.nil ?_
       dsimp only [thenX]
       exact ⟨a68, c68, _, (by repeat (first | exact Keep.nil _ | refine Keep.cons _ rfl ?_)), hs65, hnew, fun _ hw => hw.sub SB⟩
      refine RL.callv rfl func41 rfl rfl (by exact at_ok _ _ _ _ _ _ _ KK AO AO) ?_
      refine RL.nil ⟨keep_same SB, ?_⟩
      refine HG.step2 7 16 rfl rfl KR ?_ ?_
      ·refine RL.q (Y.loadOwn rfl MM (nm3_at hj3) flat9) rfl ?_
       refine RL.nil ⟨keep_same SB, ?_⟩
       refine HG.step 16 rfl KR ?_
       refine RL.call rfl func42 rfl rfl (by exact pick_ok _ _ _ (atL l (5 + 3 * (i : Int) + (j : Int)) 65536) (i : Int) (by unfold InI; omega) OM OM) ?_
       rintro v65 M65 _ ⟨hs65, rfl, us65, rfl, hr65⟩
       obtain ⟨u65, rfl, hu65⟩ := Ty.open hr65
       have hnew := SlotT.close (tSlot l i j) hu65
       refine RL.nil ⟨keep_more (hs65) SB, ?_⟩
       refine HG.take 17 rfl KR KR KR rfl (Y.build [_, _, _, _, _, _, _, _, _, _, _] rfl zero66 places66 (by rfl)) rfl ?_
       refine HG.step 18 rfl KR ?_
       refine RL.buildSlice _ elem40 rfl (by decide) (fill1 rfl (by rfl)) rfl fun b67 => ?_
       refine RL.nil ⟨keep_more (hs65) SB, ?_⟩
       refine HG.step 19 rfl KR ?_
       refine RL.append elem40 rfl rfl PK (SrcOk.own (sz := 11) (m := 1) MM (by rfl) hnew.one) OM (by unfold lim; omega) rfl fun a68 c68 hc68 => ?_
       refine RL.nil ⟨keep_more (hs65) SB, ?_⟩
       refine HG.take 20 rfl KR KR KR rfl (Y.field rfl field46_4) rfl ?_
       refine HG.last 21 rfl ⟨KR, rfl⟩ KR ?_
       refine RL.store _ rfl rfl RP (by rfl) (by exact Nat.le_of_ble_eq_true rfl) (by rfl) size40 ?_
       refine RL.nil ?_
       dsimp only [thenX]
       exact ⟨a68, c68, _, (by repeat (first | exact Keep.nil _ | refine Keep.cons _ rfl ?_)), hs65, hnew, fun _ hw => hw.sub SB⟩
      refine RL.call rfl func42 rfl rfl (by exact pick_ok _ _ _ (atL l (5 + 3 * (i : Int) + (j : Int)) 65536) (i : Int) (by unfold InI; omega) OM OM) ?_
      rintro v65 M65 _ ⟨hs65, rfl, us65, rfl, hr65⟩
      obtain ⟨u65, rfl, hu65⟩ := Ty.open hr65
      have hnew := SlotT.close (tSlot l i j) hu65
      refine RL.nil ⟨keep_more (hs65) SB, ?_⟩
      refine HG.step 7 rfl KR ?_
      refine RL.q (Y.loadOwn rfl MM (nm3_at hj3) flat9) rfl ?_
      refine RL.nil ⟨keep_more (hs65) SB, ?_⟩
      refine HG.take 17 rfl KR KR KR rfl (Y.build [_, _, _, _, _, _, _, _, _, _, _] rfl zero66 places66 (by rfl)) rfl ?_
      refine HG.step 18 rfl KR ?_
      refine RL.buildSlice _ elem40 rfl (by decide) (fill1 rfl (by rfl)) rfl fun b67 => ?_
      refine RL.nil ⟨keep_more (hs65) SB, ?_⟩
      refine HG.step 19 rfl KR ?_
      refine RL.append elem40 rfl rfl PK (SrcOk.own (sz := 11) (m := 1) MM (by rfl) hnew.one) OM (by unfold lim; omega) rfl fun a68 c68 hc68 => ?_
      refine RL.nil ⟨keep_more (hs65) SB, ?_⟩
      refine HG.take 20 rfl KR KR KR rfl (Y.field rfl field46_4) rfl ?_
      refine HG.last 21 rfl ⟨KR, rfl⟩ KR ?_
      refine RL.store _ rfl rfl RP (by rfl) (by exact Nat.le_of_ble_eq_true rfl) (by rfl) size40 ?_
      refine RL.nil ?_
      dsimp only [thenX]
      exact ⟨a68, c68, _, (by repeat (first | exact Keep.nil _ | refine Keep.cons _ rfl ?_)), hs65, hnew, fun _ hw => hw.sub SB⟩
     refine RL.q (Y.loadOwn rfl MM (nm3_at hj3) flat9) rfl ?_
     refine RL.nil ⟨keep_same SB, ?_⟩
     refine HG.step 3 rfl KR ?_
     refine RL.callv rfl func14 rfl rfl (by exact id_ok _ _ _ _ AO AO) ?_
     refine RL.nil ⟨keep_same SB, ?_⟩
     refine HG.step 14 rfl KR ?_
     refine RL.callv rfl func41 rfl rfl (by exact at_ok _ _ _ _ _ _ _ KK AO AO) ?_
     refine RL.nil ⟨keep_same SB, ?_⟩
     refine HG.step 16 rfl KR ?_
     refine RL.call rfl func42 rfl rfl (by exact pick_ok _ _ _ (atL l (5 + 3 * (i : Int) + (j : Int)) 65536) (i : Int) (by unfold InI; omega) OM OM) ?_
     rintro v65 M65 _ ⟨hs65, rfl, us65, rfl, hr65⟩
     obtain ⟨u65, rfl, hu65⟩ := Ty.open hr65
     have hnew := SlotT.close (tSlot l i j) hu65
     refine RL.nil ⟨keep_more (hs65) SB, ?_⟩
     refine HG.take 17 rfl KR KR KR rfl (Y.build [_, _, _, _, _, _, _, _, _, _, _] rfl zero66 places66 (by rfl)) rfl ?_
     refine HG.step 18 rfl KR ?_
     refine RL.buildSlice _ elem40 rfl (by decide) (fill1 rfl (by rfl)) rfl fun b67 => ?_
     refine RL.nil ⟨keep_more (hs65) SB, ?_⟩
     refine HG.step 19 rfl KR ?_
     refine RL.append elem40 rfl rfl PK (SrcOk.own (sz := 11) (m := 1) MM (by rfl) hnew.one) OM (by unfold lim; omega) rfl fun a68 c68 hc68 => ?_
     refine RL.nil ⟨keep_more (hs65) SB, ?_⟩
     refine HG.take 20 rfl KR KR KR rfl (Y.field rfl field46_4) rfl ?_
     refine HG.last 21 rfl ⟨KR, rfl⟩ KR ?_
     refine RL.store _ rfl rfl RP (by rfl) (by exact Nat.le_of_ble_eq_true rfl) (by rfl) size40 ?_
     refine RL.nil ?_
     dsimp only [thenX]
     exact ⟨a68, c68, _, (by repeat (first | exact Keep.nil _ | refine Keep.cons _ rfl ?_)), hs65, hnew, fun _ hw => hw.sub SB⟩
    rintro _ M65 Γ13 ⟨a68, c68, xs2, hk13, hs65, hnew, hG13⟩
    refine CW.pre ?_ hk13 hG13
    refine CW.region ?_
    refine RL.q (Y.move rfl) rfl ?_
    refine RL.q (Y.add rfl rfl OM) rfl ?_
    refine RL.q (Y.assign rfl) rfl ?_
    refine RL.nil ?_
    refine hK16 _ _ _ ?_
    refine CW.kp [0, 2, 3, 4, 5, 6, 8, 9, 10] rfl ?_
    refine CW.region ?_
    refine RL.q (Y.move rfl) rfl ?_
    refine RL.q (Y.add rfl rfl OM) rfl ?_
    refine RL.q (Y.assign rfl) rfl ?_
    refine RL.nil ?_
    refine ⟨tArity l i - (j + 1), [(5, _), (10, _)], ?_, (KP [5, 10, 0, 2, 3, 4, 6, 8, 9]), ?_⟩
    · omega
    · refine Turn.kn (Kn.rds (ds := (tSlots l i j).flatMap SlotT.enc) (us := xs) MM) fun hrx => ?_
      refine Turn.front (x := .own b8 46 _) PK ?_
      refine Turn.front (x := .acc (.slice a68 (j + 1) c68) 66 11 (j + 1) _) PK ?_
      refine Turn.addRds (hrx.append hnew) ?_
      exact Turn.drop ⟨[_, _, _], rfl, hsj.trans hs65, j + 1, a68, c68, _, rfl, by omega, by rw [show tNext l i + (j : Int) + 1 = tNext l i + ((j + 1 : Nat) : Int) from by omega] <;> rfl, by rw [tSlots_succ] <;> rfl⟩ SB
   obtain rfl : j = tArity l i := by omega
   refine CW.know (Kn.rds (ds := (tSlots l i (tArity l i)).flatMap SlotT.enc) (us := xs) MM) fun hxs => ?_
   refine CW.sealAcc (u := .slice xa (tArity l i) xc) PK hxs (by unfold lim; omega) fun M3 a3 c3 hs3 e3 hc3 hr3 => ?_
   injection e3 with e3a _ e3c
   subst e3a e3c
   have hdef : RdL M3 (tDef l i).enc _ := dvs_rd (idK (1 + (i : Int))) ((tBits l i).tmod 2) (idK 0) (nm4 i) (tSlots l i (tArity l i)) _ (by rw [tSlots_len]; exact hr3)
   refine CW.addRds hdef ?_
   refine CW.exit ?_
   refine hK12 _ _ _ ?_
   refine CW.seq fun K17 hK17 => ?_
   refine CW.region ?_
   refine RL.q (Y.field rfl field26_1) rfl ?_
   refine RL.q (Y.loadOwn rfl MM (by rfl) flat24) rfl ?_
   refine RL.q (Y.loadAllR rfl MM MM EL agg46) rfl ?_
   refine RL.buildSlice _ elem24 rfl (by decide) (fill1 rfl (by rfl)) rfl fun b75 => ?_
   refine RL.append elem24 rfl rfl PK (SrcOk.own (sz := 31) (m := 1) MM (by rfl) hdef.one) OM (by unfold lim; omega) rfl fun a76 c76 hc76 => ?_
   refine RL.q (Y.field rfl field26_1) rfl ?_
   refine RL.store _ rfl rfl RP (by rfl) (by simp) (by rfl) size24 ?_
   refine RL.nil ?_
   refine hK17 _ _ _ ?_
   refine CW.kp [0, 2, 3, 4, 5, 6, 8] rfl ?_
   refine CW.regionGP 13 mix (x := .acc (.slice va i vc) 28 3 i vs) PK ?_
   refine HG.take 0 rfl KR KR KR rfl (Y.field rfl field26_0) rfl ?_
   refine HG.take 1 rfl KR KR KR rfl (Y.loadOwn rfl MM (by rfl) flat23) rfl ?_
   refine HG.take 2 rfl KR KR KR rfl (Y.field rfl field26_0) rfl ?_
   refine HG.take 3 rfl KR KR KR rfl (Y.loadOwn rfl MM (by rfl) flat23) rfl ?_
   refine HG.take 4 rfl KR KR KR rfl (Y.index 0 rfl rfl rfl AO slice23 SM) rfl ?_
   refine HG.take 5 rfl KR KR KR rfl (Y.field rfl field79_3) rfl ?_
   refine HG.take 6 rfl KR KR KR rfl (Y.loadOwn rfl MM (by rfl) flat77) rfl ?_
   refine HG.take 7 rfl KR KR KR rfl (Y.field rfl field46_0) rfl ?_
   refine HG.take 8 rfl KR KR KR rfl (Y.loadAggV (idK (1 + (i : Int))).vals rfl MM MM (by rfl) agg28) rfl ?_
   refine HG.step 9 rfl KR ?_
   refine RL.buildSlice _ elem77 rfl (by decide) (fill1 rfl (by rfl)) rfl fun b87 => ?_
   refine RL.nil ⟨keep_same SB, ?_⟩
   refine HG.step 10 rfl KR ?_
   refine RL.append elem77 rfl rfl PK (SrcOk.own (sz := 3) (m := 1) MM (by rfl) (IdT.vals_rd (M := M1) (idK (1 + (i : Int)))).one) OM (by unfold lim; omega) rfl fun a88 c88 hc88 => ?_
   refine RL.nil ⟨keep_same SB, ?_⟩
   refine HG.step 11 rfl KR ?_
   refine RL.q (Y.index 0 rfl rfl rfl AO slice23 SM) rfl ?_
   refine RL.nil ⟨keep_same SB, ?_⟩
   refine HG.take 12 rfl KR KR KR rfl (Y.field rfl field79_3) rfl ?_
   refine HG.last 13 rfl ⟨KR, rfl⟩ KR ?_
   refine RL.store _ rfl rfl RP (by rfl) (by simp) (by rfl) size77 ?_
   refine RL.nil ?_
   refine hK9 _ _ _ ?_
   refine CW.kp [0, 2, 3, 4, 5, 6] rfl ?_
   refine CW.region ?_
   refine RL.q (Y.move rfl) rfl ?_
   refine RL.q (Y.add rfl rfl OM) rfl ?_
   refine RL.q (Y.assign rfl) rfl ?_
   refine RL.nil ?_
   refine ⟨tMany l - (i + 1), [(5, _), (6, _)], ?_, (KP [5, 6, 0, 2, 3, 4]), ?_⟩
   · omega
   · refine Turn.kn (Kn.rds (ds := ((tDefs l i).flatMap DefT.enc)) (us := us) MM) fun hrd => ?_
     refine Turn.kn (Kn.rds (ds := ((tIds i).flatMap IdT.enc)) (us := vs) MM) fun hrv => ?_
     refine Turn.front (x := .own b13 79 _) PK ?_
     refine Turn.front (x := .acc (.slice a88 (i + 1) c88) 28 3 (i + 1) _) PK ?_
     refine Turn.addRds (hrv.append (IdT.vals_rd (idK (1 + (i : Int))))) ?_
     refine Turn.front (x := .own b3 26 _) PK ?_
     refine Turn.front (x := .acc (.slice a76 (i + 1) c76) 46 31 (i + 1) _) PK ?_
     refine Turn.addRds (hrd.append hdef) ?_
     exact Turn.drop ⟨[_, _, _, _, _, _], rfl, hs.trans (hsj.trans hs3), i + 1, a76, c76, _, a88, c88, _, rfl, by omega, rfl, by rw [tDefs_succ, tIds_succ] <;> rfl⟩ SB
  obtain rfl : i = tMany l := by omega
  refine CW.know (Kn.rds (ds := (tDefs l (tMany l)).flatMap DefT.enc) (us := us) MM) fun hds => ?_
  refine CW.know (Kn.rds (ds := (tIds (tMany l)).flatMap IdT.enc) (us := vs) MM) fun hvs => ?_
  refine CW.sealAcc (u := .slice va (tMany l) vc) PK hvs (by unfold lim; omega) fun M3 a3 c3 hs3 e3 hc3 hr3 => ?_
  injection e3 with e3a _ e3c
  subst e3a e3c
  refine CW.sealOwn (b := b13) (k := 1) (sz := 6) (ds := ModT.enc ⟨idK 0, sCore, [], tIds (tMany l)⟩) PK (RdL.cons (Rd.i _) (RdL.cons (Rd.i _) (RdL.cons (Rd.i _) (RdL.cons (Rd.str _) (RdL.cons Rd.nilS (RdL.cons (by rw [tIds_len]; exact hr3) (RdL.nil _))))))) rfl (by unfold lim; omega) fun M5 hs5 hr5 => ?_
  refine CW.exit ?_
  refine hK5 _ _ _ ?_
  refine CW.seq fun K18 hK18 => ?_
  refine CW.region ?_
  refine RL.q (Y.loadAll rfl MM (by rfl) agg26) rfl ?_
  refine RL.storeAgg _ rfl rfl RP (by rfl) (by first | (simp; done) | simp [IdT.vals]) (by first | (simp [Value.oneCell']; done) | simp [Value.oneCell', IdT.vals]) size26 ?_
  refine RL.nil ?_
  refine hK18 _ _ _ ?_
  refine CW.kp [2] rfl ?_
  refine CW.ret ?_
  exact CellAt.mk rfl MM (by rfl) agg26 (Turn.front (x := .acc (.slice ua (tMany l) ca) 46 31 (tMany l) us) PK (Turn.drop ⟨ua, ca, us, _, hs.trans (hs3.trans hs5), rfl, rfl, by simpa using hr5, hds.mono (hs3.trans hs5)⟩ SB))

theorem types_ok (w0 : World) (M : Mem) (Γ : List As) (l : List Int) (ul : Value) (hl : Kn w0 M Γ (Rd M (dints l) ul)) (hli : ∀ x ∈ l, InI x) :
    CallOk Try.prog w0 M Γ 9 #[ul] (Gives M Γ fun M' v => ∃ us, v = .agg us.toArray ∧ RdL M' (typesP l).enc us) := by
  refine (types_own w0 M Γ l ul hl hli).turn ?_
  rintro v M' Γ' ⟨ua, ca, us, vm, hs, rfl, rfl, hm, hd⟩
  exact Turn.sealAcc (Γ := Γ) (u := .slice ua (tMany l) ca) PK hd (by have := tMany_rng l; unfold lim; omega) (List.Sublist.refl _) fun M2 hs2 hr2 => ⟨hs.trans hs2, rfl, _, rfl, by rw [ProgT.enc_eq]; exact RdL.cons (by simpa [typesP] using Rd.mono hs2 _ _ hm) (RdL.cons (by rw [show (typesP l).defs = tDefs l (tMany l) from rfl, tDefs_len]; exact hr2) (RdL.nil _))⟩
end Go.Proofs.Ytfgkhhfkodlbpaa
