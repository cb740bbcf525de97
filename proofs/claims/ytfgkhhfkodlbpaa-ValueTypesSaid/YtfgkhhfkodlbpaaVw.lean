/- THE LAW ValueTypes. Printed by m04w.py. -/
import Derived.Test.YtfgkhhfkodlbpaaVv
import Derived.Test.YtfgkhhfkodlbpaaPure11
namespace Go.Proofs.Ytfgkhhfkodlbpaa
open Xe

set_option maxHeartbeats 1000000 in
theorem ValueTypes_ok (w0 : World) (M : Mem) (Γ : List As) (n : List Int) (un : Value) (p : ProgT) (usp : List Value) (i : IdT) (a : Ty) (usa : List Value) (b : Ty) (usb : List Value) (m : Int)  (hn : Kn w0 M Γ (Rd M (dints n) un)) (hp : Kn w0 M Γ (RdL M p.enc usp)) (ha : Kn w0 M Γ (RdL M a.enc usa)) (hb : Kn w0 M Γ (RdL M b.enc usb)) (hni : ∀ x ∈ n, InI x) (hmi : InI m) :
    CallOk Try.prog w0 M Γ 3 #[un, .agg usp.toArray, .agg i.vals.toArray, .agg usa.toArray, .agg usb.toArray, vint m] (Is M Γ (.bool true)) := by
  refine CallOk.kn hn fun hn => ?_
  obtain ⟨an, cn, rfl, hcn, hlimn, hlenn⟩ := hn.slice
  refine CallOk.kn hp fun hp => ?_
  rw [ProgT.enc_eq] at hp
  refine CallOk.kn ha fun ha => ?_
  rw [Ty.enc_eq] at ha
  refine CallOk.kn hb fun hb => ?_
  rw [Ty.enc_eq] at hb
  have har := around_lt m 4 (by omega)
  obtain ⟨N, hN⟩ := Int.eq_ofNat_of_zero_le (show 0 ≤ 22 + around m 4 by omega)
  have hN25 : N ≤ 25 := by omega
  refine enter (f := 3) Try.func3 rfl Try.ntmps3 rfl rfl fun w1 hw1 => ?_
  refine CW.addRd hn ?_
  refine CW.addRds hp ?_
  refine CW.addRds ha ?_
  refine CW.addRds hb ?_
  refine CW.seq fun K1 hK1 => ?_
  refine CW.region ?_
  refine RL.box _ rfl rfl rfl fun b7 => ?_
  refine RL.box _ rfl rfl rfl fun b8 => ?_
  refine RL.box _ rfl rfl rfl fun b9 => ?_
  refine RL.box _ rfl rfl rfl fun b10 => ?_
  refine RL.q (Y.assign rfl) rfl ?_
  refine RL.nil ?_
  refine hK1 _ _ _ ?_
  refine CW.keep (Keep.cons 0 rfl (Keep.cons 5 rfl (Keep.cons 7 rfl (Keep.cons 8 rfl (Keep.cons 9 rfl (Keep.cons 10 rfl (Keep.nil _))))))) ?_
  refine CW.seq fun K2 hK2 => ?_
  refine CW.region ?_
  refine RL.q (Y.move rfl) rfl ?_
  refine RL.call rfl func9 rfl rfl (by exact types_ok _ _ _ n _ (by exact Kn.rd MM) hni) ?_
  rintro v27 M27 _ ⟨hs27, rfl, us27, rfl, hr27⟩
  refine RL.addRds hr27 ?_
  have hul27 : us27.length = 2 := hr27.1.trans (ProgT.enc_len _)
  refine RL.alloc _ zero26 rfl rfl fun b13 => ?_
  first | refine RL.storeRds 2 rfl rfl RP MM EL (by first | exact Kn.lenRds MM EL | exact Kn.lenLit rfl) size26 ?_ | refine RL.storeAgg _ rfl rfl RP (by rfl) (by first | (simp; done) | simp [IdT.vals]) (by first | (simp [Value.oneCell']; done) | simp [Value.oneCell', IdT.vals]) size26 ?_
  refine RL.nil ?_
  refine hK2 _ _ _ ?_
  refine CW.keep (Keep.cons 5 rfl (Keep.cons 7 rfl (Keep.cons 8 rfl (Keep.cons 9 rfl (Keep.cons 10 rfl (Keep.cons 13 rfl (Keep.nil _))))))) ?_
  refine CW.seq fun K3 hK3 => ?_
  refine CW.region ?_
  first | refine RL.q (Y.loadAllR rfl MM MM EL agg26) rfl ?_ | refine RL.q (Y.loadAll rfl MM (by rfl) agg26) rfl ?_ | refine RL.loadPart rfl rfl MM MM (by rfl) (by rfl) agg26 rfl fun us28 hul28 hur28 => ?_
  refine RL.call rfl func10 rfl rfl (by exact few_ok _ _ _ p _ (by exact KK)) ?_
  rintro v29 M29 _ ⟨hs29, rfl, us29, rfl, hr29⟩
  refine RL.addRds hr29 ?_
  have hul29 : us29.length = 2 := hr29.1.trans (ProgT.enc_len _)
  refine RL.alloc _ zero26 rfl rfl fun b14 => ?_
  first | refine RL.storeRds 2 rfl rfl RP MM EL (by first | exact Kn.lenRds MM EL | exact Kn.lenLit rfl) size26 ?_ | refine RL.storeAgg _ rfl rfl RP (by rfl) (by first | (simp; done) | simp [IdT.vals]) (by first | (simp [Value.oneCell']; done) | simp [Value.oneCell', IdT.vals]) size26 ?_
  refine RL.nil ?_
  refine hK3 _ _ _ ?_
  refine CW.keep (Keep.cons 5 rfl (Keep.cons 8 rfl (Keep.cons 9 rfl (Keep.cons 10 rfl (Keep.cons 13 rfl (Keep.cons 14 rfl (Keep.nil _))))))) ?_
  refine CW.seq fun K4 hK4 => ?_
  refine CW.region ?_
  refine RL.q (Y.build [_, _, _, _, _] rfl zero31 places31 (by rfl)) rfl ?_
  refine RL.alloc _ zero31 rfl rfl fun b15 => ?_
  first | refine RL.storeRds 5 rfl rfl RP MM EL (by first | exact Kn.lenRds MM EL | exact Kn.lenLit rfl) size31 ?_ | refine RL.storeAgg _ rfl rfl RP (by rfl) (by first | (simp; done) | simp [IdT.vals]) (by first | (simp [Value.oneCell']; done) | simp [Value.oneCell', IdT.vals]) size31 ?_
  refine RL.nil ?_
  refine hK4 _ _ _ ?_
  refine CW.keep (Keep.cons 5 rfl (Keep.cons 8 rfl (Keep.cons 9 rfl (Keep.cons 10 rfl (Keep.cons 13 rfl (Keep.cons 14 rfl (Keep.cons 15 rfl (Keep.nil _)))))))) ?_
  refine CW.seq fun K5 hK5 => ?_
  refine CW.seq fun K6 hK6 => ?_
  refine CW.region ?_
  refine RL.q (Y.assign rfl) rfl ?_
  refine RL.nil ?_
  refine hK6 _ _ _ ?_
  refine CW.keep (Keep.cons 5 rfl (Keep.cons 8 rfl (Keep.cons 9 rfl (Keep.cons 10 rfl (Keep.cons 13 rfl (Keep.cons 14 rfl (Keep.cons 15 rfl (Keep.cons 16 rfl (Keep.nil _))))))))) ?_
  refine CW.block ?_
  -- LOOP 1: live [5, 8, 9, 10, 13, 14, 15, 16] changed [16]
  refine CW.keep (Keep.cons 16 rfl (Keep.cons 5 rfl (Keep.cons 8 rfl (Keep.cons 9 rfl (Keep.cons 10 rfl (Keep.cons 13 rfl (Keep.cons 14 rfl (Keep.cons 15 rfl (Keep.nil _))))))))) ?_
  refine CW.front (x := .own b15 31 [vint 0, vint 0, vint 0, vint 0, .slice none 0 0]) PK ?_
  refine CW.addRds ty0_rd ?_
  refine CW.loopF (fun mm Lc M1 Γc => ∃ (k : Nat) (us : List Value), mm = N - k ∧ k ≤ N ∧ Lc = [(16, vint k)] ∧ Γc = [.rds (nest k).enc us, .own b15 31 us] ∧ us.length = 5) N [(16, _)] [_, _] rfl rfl ⟨0, _, rfl, Nat.zero_le _, rfl, rfl, rfl⟩ ?_
  rintro mm Lc M1 Γc hs ⟨k, us, rfl, hk, rfl, rfl, hus⟩
  refine CW.seq fun K7 hK7 => ?_
  refine CW.seq fun K8 hK8 => ?_
  refine CW.region ?_
  refine RL.q (Y.move rfl) rfl ?_
  refine RL.q (Y.move rfl) rfl ?_
  refine RL.callv rfl func11 rfl rfl (by exact around_ok _ _ _ m 4 hmi (by omega)) ?_
  refine RL.q (Y.add rfl rfl (by omega)) rfl ?_
  refine RL.q (Y.lss rfl rfl) rfl ?_
  refine RL.nil ?_
  refine hK8 _ _ _ ?_
  refine CW.keep (Keep.cons 5 rfl (Keep.cons 8 rfl (Keep.cons 9 rfl (Keep.cons 10 rfl (Keep.cons 13 rfl (Keep.cons 14 rfl (Keep.cons 15 rfl (Keep.cons 16 rfl (Keep.cons 35 rfl (Keep.nil _)))))))))) ?_
  refine CW.ite rfl (fun h1 => ?_) (fun h1 => ?_)
  · refine CW.skip ?_
    refine hK7 _ _ _ ?_
    refine CW.seq fun K9 hK9 => ?_
    refine CW.block ?_
    refine CW.region ?_
    first | refine RL.q (Y.loadAllR rfl MM MM EL agg31) rfl ?_ | refine RL.q (Y.loadAll rfl MM (by rfl) agg31) rfl ?_ | refine RL.loadPart rfl rfl MM MM (by rfl) (by rfl) agg31 rfl fun us38 hul38 hur38 => ?_
    refine RL.call rfl func12 rfl rfl (by exact list_ok _ _ _ (nest k) _ (by exact Kn.rds MM)) ?_
    rintro v39 M39 _ ⟨hs39, rfl, us39, rfl, hr39⟩
    refine RL.addRds hr39 ?_
    have hul39 : us39.length = 5 := hr39.1.trans (Ty.enc_len _)
    first | refine RL.storeRds 5 rfl rfl RP MM EL (by first | exact Kn.lenRds MM EL | exact Kn.lenLit rfl) size31 ?_ | refine RL.storeAgg _ rfl rfl RP (by rfl) (by first | (simp; done) | simp [IdT.vals]) (by first | (simp [Value.oneCell']; done) | simp [Value.oneCell', IdT.vals]) size31 ?_
    refine RL.nil ?_
    refine hK9 _ _ _ ?_
    refine CW.keep (Keep.cons 5 rfl (Keep.cons 8 rfl (Keep.cons 9 rfl (Keep.cons 10 rfl (Keep.cons 13 rfl (Keep.cons 14 rfl (Keep.cons 15 rfl (Keep.cons 16 rfl (Keep.nil _))))))))) ?_
    refine CW.region ?_
    refine RL.q (Y.move rfl) rfl ?_
    refine RL.q (Y.add rfl rfl (by omega)) rfl ?_
    refine RL.q (Y.assign rfl) rfl ?_
    refine RL.nil ?_
    refine ⟨N - (k + 1), [(16, _)], ?_, (Keep.cons 16 rfl (Keep.cons 5 rfl (Keep.cons 8 rfl (Keep.cons 9 rfl (Keep.cons 10 rfl (Keep.cons 13 rfl (Keep.cons 14 rfl (Keep.cons 15 rfl (Keep.nil _))))))))), ?_⟩
    · omega
    · refine Turn.front (x := .own b15 31 us39) PK ?_
      refine Turn.front (x := .rds (listT (nest k)).enc us39) PK ?_
      exact Turn.drop ⟨[_, _], rfl, hs.trans hs39, k + 1, us39, rfl, by omega, rfl, rfl, hul39⟩ SB
  · obtain rfl : N = k := by omega
    obtain ⟨usN, rfl⟩ : ∃ q, q = us := ⟨_, rfl⟩
    have hulN := hus
    refine CW.exit ?_
    refine hK5 _ _ _ ?_
    refine CW.seq fun K10 hK10 => ?_
    have hula : usa.length = 5 := ha.1
    have hulb : usb.length = 5 := hb.1
    refine CW.regionH mix _ _ (fun _ hw => hw) ?_
    first | refine HL.take 0 rfl (by kernel_rfl) (by kernel_rfl) (by kernel_rfl) rfl (Y.loadAllR rfl MM MM EL agg31) rfl ?_ | refine HL.take 0 rfl (by kernel_rfl) (by kernel_rfl) (by kernel_rfl) rfl (Y.loadAll rfl MM (by rfl) agg31) rfl ?_ | refine HL.loadPart 0 rfl (by kernel_rfl) (by kernel_rfl) (by kernel_rfl) rfl rfl MM MM (by rfl) (by rfl) agg31 rfl fun us40 hul40 hur40 => ?_
    first | refine HL.take 1 rfl (by kernel_rfl) (by kernel_rfl) (by kernel_rfl) rfl (Y.loadAllR rfl MM MM EL agg31) rfl ?_ | refine HL.take 1 rfl (by kernel_rfl) (by kernel_rfl) (by kernel_rfl) rfl (Y.loadAll rfl MM (by rfl) agg31) rfl ?_ | refine HL.loadPart 1 rfl (by kernel_rfl) (by kernel_rfl) (by kernel_rfl) rfl rfl MM MM (by rfl) (by rfl) agg31 rfl fun us41 hul41 hur41 => ?_
    first | refine HL.take 2 rfl (by kernel_rfl) (by kernel_rfl) (by kernel_rfl) rfl (Y.loadAggV [_, _, _] rfl MM MM (by rfl) agg28) rfl ?_ | refine HL.take 2 rfl (by kernel_rfl) (by kernel_rfl) (by kernel_rfl) rfl (Y.loadAll rfl MM (by rfl) agg28) rfl ?_
    first | refine HL.take 4 rfl (by kernel_rfl) (by kernel_rfl) (by kernel_rfl) rfl (Y.loadAllR rfl MM MM EL agg31) rfl ?_ | refine HL.take 4 rfl (by kernel_rfl) (by kernel_rfl) (by kernel_rfl) rfl (Y.loadAll rfl MM (by rfl) agg31) rfl ?_ | refine HL.loadPart 4 rfl (by kernel_rfl) (by kernel_rfl) (by kernel_rfl) rfl rfl MM MM (by rfl) (by rfl) agg31 rfl fun us44 hul44 hur44 => ?_
    first | refine HL.take 8 rfl (by kernel_rfl) (by kernel_rfl) (by kernel_rfl) rfl (Y.loadAllR rfl MM MM EL agg31) rfl ?_ | refine HL.take 8 rfl (by kernel_rfl) (by kernel_rfl) (by kernel_rfl) rfl (Y.loadAll rfl MM (by rfl) agg31) rfl ?_ | refine HL.loadPart 8 rfl (by kernel_rfl) (by kernel_rfl) (by kernel_rfl) rfl rfl MM MM (by rfl) (by rfl) agg31 rfl fun us48 hul48 hur48 => ?_
    refine HL.step 3 rfl (by kernel_rfl) ?_
    refine RL.callv rfl func13 rfl rfl (by exact of_ok _ _ _ i) ?_
    refine RL.nil ⟨keep_same SB, ?_⟩
    refine HL.step 5 rfl (by kernel_rfl) ?_
    refine RL.call rfl func12 rfl rfl (by exact list_ok _ _ _ a _ (by exact Kn.ty MM)) ?_
    rintro v45 M45 _ ⟨hs45, rfl, us45, rfl, hr45⟩
    refine RL.addRds hr45 ?_
    have hul45 : us45.length = 5 := hr45.1.trans (Ty.enc_len _)
    refine RL.nil ⟨keep_more (hs45) SB, ?_⟩
    refine HL.step 6 rfl (by kernel_rfl) ?_
    refine RL.callv rfl func14 rfl rfl (by exact id_ok _ _ _ _ (by first | assumption | omega) (by first | assumption | omega)) ?_
    refine RL.nil ⟨keep_more (hs45) SB, ?_⟩
    refine HL.step 7 rfl (by kernel_rfl) ?_
    refine RL.callv rfl func13 rfl rfl (by exact of_ok _ _ _ (idK 1)) ?_
    refine RL.nil ⟨keep_more (hs45) SB, ?_⟩
    refine HL.step 9 rfl (by kernel_rfl) ?_
    refine RL.buildSlice (([usa, usb, [vint 3, vint i.shop, vint i.seq, vint i.index, .slice none 0 0], us45, [vint 3, vint (idK 1).shop, vint (idK 1).seq, vint (idK 1).index, .slice none 0 0], usN]).flatten) elem29 rfl (by decide) (fillRow (vs := [.agg usa.toArray, .agg usb.toArray, .agg ([vint 3, vint i.shop, vint i.seq, vint i.index, .slice none 0 0]).toArray, .agg us45.toArray, .agg ([vint 3, vint (idK 1).shop, vint (idK 1).seq, vint (idK 1).index, .slice none 0 0]).toArray, .agg usN.toArray]) (outs := [usa, usb, [vint 3, vint i.shop, vint i.seq, vint i.index, .slice none 0 0], us45, [vint 3, vint (idK 1).shop, vint (idK 1).seq, vint (idK 1).index, .slice none 0 0], usN]) rfl (by simp [hula, hulb, hul45, hulN])) rfl fun b49 => ?_
    refine RL.nil ⟨keep_more (hs45) SB, ?_⟩
    refine HL.take 10 rfl (by kernel_rfl) (by kernel_rfl) (by kernel_rfl) rfl (Y.assign rfl) rfl ?_
    refine HL.done (by kernel_rfl) ?_
    refine hK10 _ _ _ ?_
    refine CW.keep (Keep.cons 8 rfl (Keep.cons 13 rfl (Keep.cons 14 rfl (Keep.cons 17 rfl (Keep.nil _))))) ?_
    refine CW.know (Kn.ty (t := a) (us := usa) MM) fun hA => ?_
    refine CW.know (Kn.ty (t := b) (us := usb) MM) fun hB => ?_
    refine CW.know (Kn.rds (ds := (nest N).enc) (us := usN) MM) fun hC => ?_
    refine CW.sealOwn (b := b49) (k := 6) (sz := 5) (ds := ([a, b, ofT i, listT a, ofT (idK 1), nest N]).flatMap Ty.enc) PK (by simpa using hA.append (hB.append ((ty_rd i).append (hr45.append ((ty_rd (idK 1)).append hC))))) (by simp [hula, hulb, hul45, hulN]) (by unfold lim; omega) fun Mb49 hsb49 hrb49 => ?_
    obtain ⟨ts, hts⟩ : ∃ ts, ts = [a, b, ofT i, listT a, ofT (idK 1), nest N] := ⟨_, rfl⟩
    rw [← hts] at hrb49
    have hlts : ts.length = 6 := by rw [hts]; rfl
    refine CW.addRd hrb49 ?_
    refine CW.seq fun K11 hK11 => ?_
    refine CW.seq fun K12 hK12 => ?_
    refine CW.region ?_
    refine RL.q (Y.assign rfl) rfl ?_
    refine RL.nil ?_
    refine hK12 _ _ _ ?_
    refine CW.keep (Keep.cons 8 rfl (Keep.cons 13 rfl (Keep.cons 14 rfl (Keep.cons 17 rfl (Keep.cons 18 rfl (Keep.nil _)))))) ?_
    refine CW.block ?_
    -- LOOP 2: live [8, 13, 14, 17, 18] changed [18]
    refine CW.keep (Keep.cons 18 rfl (Keep.cons 8 rfl (Keep.cons 13 rfl (Keep.cons 14 rfl (Keep.cons 17 rfl (Keep.nil _)))))) ?_
    refine CW.loopF (fun mm Lc M1 Γc => ∃ i1 : Nat, mm = 6 - i1 ∧ i1 ≤ 6 ∧ Lc = [(18, vint i1)] ∧ Γc = [] ∧ M1 = Mb49) 6 [(18, _)] [] rfl rfl ⟨0, rfl, Nat.zero_le _, rfl, rfl, rfl⟩ ?_
    rintro mm Lc Mb49 Γc hsi1 ⟨i1, rfl, hi1k, rfl, rfl, rfl⟩
    refine CW.seq fun K13 hK13 => ?_
    refine CW.seq fun K14 hK14 => ?_
    refine CW.region ?_
    refine RL.q (Y.move rfl) rfl ?_
    refine RL.q (Y.move rfl) rfl ?_
    refine RL.q (Y.len rfl Try.underlying29) rfl ?_
    refine RL.q (Y.lss rfl rfl) rfl ?_
    refine RL.nil ?_
    refine hK14 _ _ _ ?_
    refine CW.keep (Keep.cons 8 rfl (Keep.cons 13 rfl (Keep.cons 14 rfl (Keep.cons 17 rfl (Keep.cons 18 rfl (Keep.cons 53 rfl (Keep.nil _))))))) ?_
    refine CW.ite rfl (fun h2 => ?_) (fun h2 => ?_)
    · refine CW.skip ?_
      refine hK13 _ _ _ ?_
      refine CW.seq fun K15 hK15 => ?_
      refine CW.block ?_
      refine CW.seq fun K16 hK16 => ?_
      refine CW.seq fun K17 hK17 => ?_
      refine CW.regionQ mix (by kernel_rfl) ?_
      first | refine QL.q (Y.loadAllR rfl MM MM EL agg26) rfl ?_ | refine QL.q (Y.loadAll rfl MM (by rfl) agg26) rfl ?_ | refine QL.loadPart rfl rfl MM MM (by rfl) (by rfl) agg26 rfl fun us56 hul56 hur56 => ?_
      refine QL.q (Y.move rfl) rfl ?_
      refine QL.q (Y.move rfl) rfl ?_
      refine QL.q (Y.index _ rfl rfl rfl (by first | assumption | omega) slice29 (by first | exact fun _ hw => hw.rd_some MM (by omega) | exact fun _ hw => (hw.acc_cell MM (by assumption)).1 | exact fun _ _ => rfl)) rfl ?_
      refine QL.loadAgg rfl rfl MM (Eq.trans (flat_take Ty.enc_len _ _ _ (List.getElem?_eq_getElem (by first | assumption | omega))) (Ty.enc_eq _)) (by rfl) agg31 rfl fun us60 hul60 hur60 => ?_
      refine QL.callv rfl func15 rfl rfl (by exact fun _ hC => validType_ok _ _ _ (typesP n) _ ts[i1] _ (Kn.via hC KK) (Kn.via hC KK)) ?_
      first | refine QL.q (Y.loadAllR rfl MM MM EL agg26) rfl ?_ | refine QL.q (Y.loadAll rfl MM (by rfl) agg26) rfl ?_ | refine QL.loadPart rfl rfl MM MM (by rfl) (by rfl) agg26 rfl fun us62 hul62 hur62 => ?_
      refine QL.q (Y.move rfl) rfl ?_
      refine QL.q (Y.move rfl) rfl ?_
      refine QL.q (Y.index _ rfl rfl rfl (by first | assumption | omega) slice29 (by first | exact fun _ hw => hw.rd_some MM (by omega) | exact fun _ hw => (hw.acc_cell MM (by assumption)).1 | exact fun _ _ => rfl)) rfl ?_
      refine QL.loadAgg rfl rfl MM (Eq.trans (flat_take Ty.enc_len _ _ _ (List.getElem?_eq_getElem (by first | assumption | omega))) (Ty.enc_eq _)) (by rfl) agg31 rfl fun us66 hul66 hur66 => ?_
      refine QL.callv rfl func16 rfl rfl (by exact fun _ hC => rvalidType_ok _ _ _ (typesP n) _ ts[i1] _ (Kn.via hC KK) (Kn.via hC KK)) ?_
      refine QL.q (Y.litB false (Y.neqD Try.underlying4 rfl rfl) (congrArg Value.bool (decide_eq_false (fun h => h Iff.rfl)))) rfl ?_
      refine QL.q (Y.move rfl) rfl ?_
      first | refine QL.qg ⟨_, _, rfl, rfl, rfl⟩ (Y.loadAllR rfl MM MM EL agg26) rfl ?_ | refine QL.qg ⟨_, _, rfl, rfl, rfl⟩ (Y.loadAll rfl MM (by rfl) agg26) rfl ?_ | refine QL.loadPart ⟨_, _, rfl, rfl, rfl⟩ rfl MM MM (by rfl) (by rfl) agg26 rfl fun us70 hul70 hur70 => ?_
      refine QL.qg ⟨_, _, rfl, rfl, rfl⟩ (Y.move rfl) rfl ?_
      refine QL.qg ⟨_, _, rfl, rfl, rfl⟩ (Y.move rfl) rfl ?_
      refine QL.qg ⟨_, _, rfl, rfl, rfl⟩ (Y.index _ rfl rfl rfl (by first | assumption | omega) slice29 (by first | exact fun _ hw => hw.rd_some MM (by omega) | exact fun _ hw => (hw.acc_cell MM (by assumption)).1 | exact fun _ _ => rfl)) rfl ?_
      refine QL.loadAgg ⟨_, _, rfl, rfl, rfl⟩ rfl MM (Eq.trans (flat_take Ty.enc_len _ _ _ (List.getElem?_eq_getElem (by first | assumption | omega))) (Ty.enc_eq _)) (by rfl) agg31 rfl fun us74 hul74 hur74 => ?_
      refine QL.callv ⟨_, _, rfl, rfl, rfl⟩ func15 rfl rfl (by exact fun _ hC => validType_ok _ _ _ (fewP p) _ ts[i1] _ (Kn.via hC KK) (Kn.via hC KK)) ?_
      first | refine QL.qg ⟨_, _, rfl, rfl, rfl⟩ (Y.loadAllR rfl MM MM EL agg26) rfl ?_ | refine QL.qg ⟨_, _, rfl, rfl, rfl⟩ (Y.loadAll rfl MM (by rfl) agg26) rfl ?_ | refine QL.loadPart ⟨_, _, rfl, rfl, rfl⟩ rfl MM MM (by rfl) (by rfl) agg26 rfl fun us76 hul76 hur76 => ?_
      refine QL.qg ⟨_, _, rfl, rfl, rfl⟩ (Y.move rfl) rfl ?_
      refine QL.qg ⟨_, _, rfl, rfl, rfl⟩ (Y.move rfl) rfl ?_
      refine QL.qg ⟨_, _, rfl, rfl, rfl⟩ (Y.index _ rfl rfl rfl (by first | assumption | omega) slice29 (by first | exact fun _ hw => hw.rd_some MM (by omega) | exact fun _ hw => (hw.acc_cell MM (by assumption)).1 | exact fun _ _ => rfl)) rfl ?_
      refine QL.loadAgg ⟨_, _, rfl, rfl, rfl⟩ rfl MM (Eq.trans (flat_take Ty.enc_len _ _ _ (List.getElem?_eq_getElem (by first | assumption | omega))) (Ty.enc_eq _)) (by rfl) agg31 rfl fun us80 hul80 hur80 => ?_
      refine QL.callv ⟨_, _, rfl, rfl, rfl⟩ func16 rfl rfl (by exact fun _ hC => rvalidType_ok _ _ _ (fewP p) _ ts[i1] _ (Kn.via hC KK) (Kn.via hC KK)) ?_
      refine QL.qg ⟨_, _, rfl, rfl, rfl⟩ (Y.litB false (Y.neqD Try.underlying4 rfl rfl) (congrArg Value.bool (decide_eq_false (fun h => h Iff.rfl)))) rfl ?_
      refine QL.q (Y.pickF rfl rfl) rfl ?_
      refine QL.nil ?_
      refine hK17 _ _ _ ?_
      refine CW.keep (Keep.cons 8 rfl (Keep.cons 13 rfl (Keep.cons 14 rfl (Keep.cons 17 rfl (Keep.cons 18 rfl (Keep.cons 83 rfl (Keep.nil _))))))) ?_
      refine CW.no rfl ?_
      refine CW.skip ?_
      refine hK16 _ _ _ ?_
      refine CW.seq fun K18 hK18 => ?_
      refine CW.region ?_
      refine RL.q (Y.assign rfl) rfl ?_
      refine RL.nil ?_
      refine hK18 _ _ _ ?_
      refine CW.keep (Keep.cons 8 rfl (Keep.cons 13 rfl (Keep.cons 14 rfl (Keep.cons 17 rfl (Keep.cons 18 rfl (Keep.cons 19 rfl (Keep.nil _))))))) ?_
      refine CW.block ?_
      -- LOOP 3: live [8, 13, 14, 17, 18, 19] changed [19]
      refine CW.keep (Keep.cons 19 rfl (Keep.cons 8 rfl (Keep.cons 13 rfl (Keep.cons 14 rfl (Keep.cons 17 rfl (Keep.cons 18 rfl (Keep.nil _))))))) ?_
      refine CW.loopF (fun mm Lc M1 Γc => ∃ j1 : Nat, mm = 6 - j1 ∧ j1 ≤ 6 ∧ Lc = [(19, vint j1)] ∧ Γc = [] ∧ M1 = Mb49) 6 [(19, _)] [] rfl rfl ⟨0, rfl, Nat.zero_le _, rfl, rfl, rfl⟩ ?_
      rintro mm Lc Mb49 Γc hsj1 ⟨j1, rfl, hj1k, rfl, rfl, rfl⟩
      refine CW.seq fun K19 hK19 => ?_
      refine CW.seq fun K20 hK20 => ?_
      refine CW.region ?_
      refine RL.q (Y.move rfl) rfl ?_
      refine RL.q (Y.move rfl) rfl ?_
      refine RL.q (Y.len rfl Try.underlying29) rfl ?_
      refine RL.q (Y.lss rfl rfl) rfl ?_
      refine RL.nil ?_
      refine hK20 _ _ _ ?_
      refine CW.keep (Keep.cons 8 rfl (Keep.cons 13 rfl (Keep.cons 14 rfl (Keep.cons 17 rfl (Keep.cons 18 rfl (Keep.cons 19 rfl (Keep.cons 87 rfl (Keep.nil _)))))))) ?_
      refine CW.ite rfl (fun h4 => ?_) (fun h4 => ?_)
      · refine CW.skip ?_
        refine hK19 _ _ _ ?_
        refine CW.seq fun K21 hK21 => ?_
        refine CW.block ?_
        refine CW.seq fun K22 hK22 => ?_
        refine CW.regionQ mix (by kernel_rfl) ?_
        refine QL.q (Y.move rfl) rfl ?_
        refine QL.q (Y.move rfl) rfl ?_
        refine QL.q (Y.index _ rfl rfl rfl (by first | assumption | omega) slice29 (by first | exact fun _ hw => hw.rd_some MM (by omega) | exact fun _ hw => (hw.acc_cell MM (by assumption)).1 | exact fun _ _ => rfl)) rfl ?_
        refine QL.loadAgg rfl rfl MM (Eq.trans (flat_take Ty.enc_len _ _ _ (List.getElem?_eq_getElem (by first | assumption | omega))) (Ty.enc_eq _)) (by rfl) agg31 rfl fun us93 hul93 hur93 => ?_
        refine QL.q (Y.move rfl) rfl ?_
        refine QL.q (Y.move rfl) rfl ?_
        refine QL.q (Y.index _ rfl rfl rfl (by first | assumption | omega) slice29 (by first | exact fun _ hw => hw.rd_some MM (by omega) | exact fun _ hw => (hw.acc_cell MM (by assumption)).1 | exact fun _ _ => rfl)) rfl ?_
        refine QL.loadAgg rfl rfl MM (Eq.trans (flat_take Ty.enc_len _ _ _ (List.getElem?_eq_getElem (by first | assumption | omega))) (Ty.enc_eq _)) (by rfl) agg31 rfl fun us97 hul97 hur97 => ?_
        refine QL.callv rfl func17 rfl rfl (by exact fun _ hC => sameTy_ok _ _ _ _ ts[i1] _ ts[j1] _ rfl (Kn.via hC KK) (Kn.via hC KK)) ?_
        refine QL.q (Y.move rfl) rfl ?_
        refine QL.q (Y.move rfl) rfl ?_
        refine QL.q (Y.index _ rfl rfl rfl (by first | assumption | omega) slice29 (by first | exact fun _ hw => hw.rd_some MM (by omega) | exact fun _ hw => (hw.acc_cell MM (by assumption)).1 | exact fun _ _ => rfl)) rfl ?_
        refine QL.loadAgg rfl rfl MM (Eq.trans (flat_take Ty.enc_len _ _ _ (List.getElem?_eq_getElem (by first | assumption | omega))) (Ty.enc_eq _)) (by rfl) agg31 rfl fun us102 hul102 hur102 => ?_
        refine QL.q (Y.move rfl) rfl ?_
        refine QL.q (Y.move rfl) rfl ?_
        refine QL.q (Y.index _ rfl rfl rfl (by first | assumption | omega) slice29 (by first | exact fun _ hw => hw.rd_some MM (by omega) | exact fun _ hw => (hw.acc_cell MM (by assumption)).1 | exact fun _ _ => rfl)) rfl ?_
        refine QL.loadAgg rfl rfl MM (Eq.trans (flat_take Ty.enc_len _ _ _ (List.getElem?_eq_getElem (by first | assumption | omega))) (Ty.enc_eq _)) (by rfl) agg31 rfl fun us106 hul106 hur106 => ?_
        refine QL.callv rfl func18 rfl rfl (by exact fun _ hC => rsameTy_ok _ _ _ _ ts[i1] _ ts[j1] _ rfl (Kn.via hC KK) (Kn.via hC KK)) ?_
        refine QL.q (Y.litB false (Y.neqD Try.underlying4 rfl rfl) (congrArg Value.bool (decide_eq_false (fun h => h Iff.rfl)))) rfl ?_
        refine QL.nil ?_
        refine hK22 _ _ _ ?_
        refine CW.keep (Keep.cons 8 rfl (Keep.cons 13 rfl (Keep.cons 14 rfl (Keep.cons 17 rfl (Keep.cons 18 rfl (Keep.cons 19 rfl (Keep.cons 108 rfl (Keep.nil _)))))))) ?_
        refine CW.no rfl ?_
        refine CW.skip ?_
        refine hK21 _ _ _ ?_
        refine CW.region ?_
        refine RL.q (Y.move rfl) rfl ?_
        refine RL.q (Y.add rfl rfl (by omega)) rfl ?_
        refine RL.q (Y.assign rfl) rfl ?_
        refine RL.nil ?_
        refine ⟨6 - (j1 + 1), [(19, _)], ?_, (Keep.cons 19 rfl (Keep.cons 8 rfl (Keep.cons 13 rfl (Keep.cons 14 rfl (Keep.cons 17 rfl (Keep.cons 18 rfl (Keep.nil _))))))), ?_⟩
        · omega
        · exact Turn.drop ⟨[], rfl, hsj1, j1 + 1, rfl, by omega, rfl, rfl, rfl⟩ SB
      · refine CW.exit ?_
        refine hK15 _ _ _ ?_
        refine CW.region ?_
        refine RL.q (Y.move rfl) rfl ?_
        refine RL.q (Y.add rfl rfl (by omega)) rfl ?_
        refine RL.q (Y.assign rfl) rfl ?_
        refine RL.nil ?_
        refine ⟨6 - (i1 + 1), [(18, _)], ?_, (Keep.cons 18 rfl (Keep.cons 8 rfl (Keep.cons 13 rfl (Keep.cons 14 rfl (Keep.cons 17 rfl (Keep.nil _)))))), ?_⟩
        · omega
        · exact Turn.drop ⟨[], rfl, hsi1, i1 + 1, rfl, by omega, rfl, rfl, rfl⟩ SB
    · refine CW.exit ?_
      refine hK11 _ _ _ ?_
      refine CW.seq fun K23 hK23 => ?_
      refine CW.region ?_
      first | refine RL.q (Y.loadAllR rfl MM MM EL agg26) rfl ?_ | refine RL.q (Y.loadAll rfl MM (by rfl) agg26) rfl ?_ | refine RL.loadPart rfl rfl MM MM (by rfl) (by rfl) agg26 rfl fun us110 hul110 hur110 => ?_
      first | refine RL.q (Y.loadAggV [_, _, _] rfl MM MM (by rfl) agg28) rfl ?_ | refine RL.q (Y.loadAll rfl MM (by rfl) agg28) rfl ?_
      refine RL.call rfl func19 rfl rfl (by exact def_ok _ _ _ (fewP p) _ i (by exact Kn.rds MM)) ?_
      rintro v112 M45 _ ⟨rfl, rfl, us112, rfl, hr112⟩
      refine RL.addRds hr112 ?_
      have hul112 : us112.length = 31 := hr112.1.trans (DefT.enc_len _)
      refine RL.q (Y.move rfl) rfl ?_
      refine RL.q (Y.extract rfl rfl) rfl ?_
      refine RL.q (Y.extract rfl rfl) rfl ?_
      refine RL.alloc _ zero46 rfl rfl fun b20 => ?_
      first | refine RL.storeRds 31 rfl rfl RP MM EL (by first | exact Kn.lenRds MM EL | exact Kn.lenLit rfl) size46 ?_ | refine RL.storeAgg _ rfl rfl RP (by rfl) (by first | (simp; done) | simp [IdT.vals]) (by first | (simp [Value.oneCell']; done) | simp [Value.oneCell', IdT.vals]) size46 ?_
      refine RL.q (Y.assign rfl) rfl ?_
      refine RL.nil ?_
      refine hK23 _ _ _ ?_
      refine CW.keep (Keep.cons 8 rfl (Keep.cons 13 rfl (Keep.cons 14 rfl (Keep.cons 20 rfl (Keep.cons 21 rfl (Keep.nil _)))))) ?_
      refine CW.seq fun K24 hK24 => ?_
      refine CW.region ?_
      first | refine RL.q (Y.loadAllR rfl MM MM EL agg26) rfl ?_ | refine RL.q (Y.loadAll rfl MM (by rfl) agg26) rfl ?_ | refine RL.loadPart rfl rfl MM MM (by rfl) (by rfl) agg26 rfl fun us116 hul116 hur116 => ?_
      first | refine RL.q (Y.loadAggV [_, _, _] rfl MM MM (by rfl) agg28) rfl ?_ | refine RL.q (Y.loadAll rfl MM (by rfl) agg28) rfl ?_
      refine RL.call rfl func20 rfl rfl (by exact rdef_ok _ _ _ (fewP p) _ i (by exact Kn.rds MM)) ?_
      rintro v118 M45 _ ⟨rfl, rfl, us118, rfl, hr118⟩
      refine RL.addRds hr118 ?_
      have hul118 : us118.length = 31 := hr118.1.trans (DefT.enc_len _)
      refine RL.q (Y.move rfl) rfl ?_
      refine RL.q (Y.extract rfl rfl) rfl ?_
      refine RL.q (Y.extract rfl rfl) rfl ?_
      refine RL.alloc _ zero46 rfl rfl fun b22 => ?_
      first | refine RL.storeRds 31 rfl rfl RP MM EL (by first | exact Kn.lenRds MM EL | exact Kn.lenLit rfl) size46 ?_ | refine RL.storeAgg _ rfl rfl RP (by rfl) (by first | (simp; done) | simp [IdT.vals]) (by first | (simp [Value.oneCell']; done) | simp [Value.oneCell', IdT.vals]) size46 ?_
      refine RL.q (Y.assign rfl) rfl ?_
      refine RL.nil ?_
      refine hK24 _ _ _ ?_
      refine CW.keep (Keep.cons 13 rfl (Keep.cons 20 rfl (Keep.cons 21 rfl (Keep.cons 22 rfl (Keep.cons 23 rfl (Keep.nil _)))))) ?_
      refine CW.seq fun K25 hK25 => ?_
      refine CW.regionH mix _ _ (fun _ hw => hw) ?_
      first | refine HL.take 0 rfl (by kernel_rfl) (by kernel_rfl) (by kernel_rfl) rfl (Y.loadAllR rfl MM MM EL agg26) rfl ?_ | refine HL.take 0 rfl (by kernel_rfl) (by kernel_rfl) (by kernel_rfl) rfl (Y.loadAll rfl MM (by rfl) agg26) rfl ?_ | refine HL.loadPart 0 rfl (by kernel_rfl) (by kernel_rfl) (by kernel_rfl) rfl rfl MM MM (by rfl) (by rfl) agg26 rfl fun us122 hul122 hur122 => ?_
      refine HL.step2 1 6 rfl rfl (by kernel_rfl) ?_ ?_
      · refine RL.callv rfl func14 rfl rfl (by exact id_ok _ _ _ _ (by first | assumption | omega) (by first | assumption | omega)) ?_
        refine RL.nil ⟨keep_same SB, ?_⟩
        refine HL.step2 2 6 rfl rfl (by kernel_rfl) ?_ ?_
        · refine RL.call rfl func19 rfl rfl (by exact def_ok _ _ _ (typesP n) _ (idK 1) (by exact Kn.rds MM)) ?_
          rintro v124 M45 _ ⟨rfl, rfl, us124, rfl, hr124⟩
          rw [(types_def1 n).2] at hr124
          rw [types_has1]
          refine RL.addRds hr124 ?_
          have hul124 : us124.length = 31 := hr124.1.trans (DefT.enc_len _)
          refine RL.nil ⟨keep_same SB, ?_⟩
          refine HL.take 3 rfl (by kernel_rfl) (by kernel_rfl) (by kernel_rfl) rfl (Y.move rfl) rfl ?_
          refine HL.take 4 rfl (by kernel_rfl) (by kernel_rfl) (by kernel_rfl) rfl (Y.extract rfl rfl) rfl ?_
          refine HL.take 5 rfl (by kernel_rfl) (by kernel_rfl) (by kernel_rfl) rfl (Y.extract rfl rfl) rfl ?_
          refine HL.step 6 rfl (by kernel_rfl) ?_
          refine RL.alloc _ zero46 rfl rfl fun b24 => ?_
          refine RL.nil ⟨keep_same SB, ?_⟩
          refine HL.step 7 rfl (by kernel_rfl) ?_
          first | refine RL.storeRds 31 rfl rfl RP MM EL (by first | exact Kn.lenRds MM EL | exact Kn.lenLit rfl) size46 ?_ | refine RL.storeAgg _ rfl rfl RP (by rfl) (by first | (simp; done) | simp [IdT.vals]) (by first | (simp [Value.oneCell']; done) | simp [Value.oneCell', IdT.vals]) size46 ?_
          refine RL.nil ⟨keep_same SB, ?_⟩
          refine HL.take 8 rfl (by kernel_rfl) (by kernel_rfl) (by kernel_rfl) rfl (Y.assign rfl) rfl ?_
          refine HL.done (by kernel_rfl) ?_
          refine hK25 _ _ _ ?_
          refine CW.keep (Keep.cons 20 rfl (Keep.cons 21 rfl (Keep.cons 22 rfl (Keep.cons 23 rfl (Keep.cons 24 rfl (Keep.cons 25 rfl (Keep.nil _))))))) ?_
          refine CW.seq fun K26 hK26 => ?_
          refine CW.region ?_
          refine RL.q (Y.move rfl) rfl ?_
          refine RL.q (Y.move rfl) rfl ?_
          refine RL.q (Y.litB true (Y.eqlBB Try.underlying4 rfl rfl) (congrArg Value.bool (beq_self_eq_true _))) rfl ?_
          refine RL.q (Y.move rfl) rfl ?_
          refine RL.qg ⟨_, _, rfl, rfl, rfl⟩ (Y.field rfl field46_0) rfl ?_
          first | refine RL.qg ⟨_, _, rfl, rfl, rfl⟩ (Y.loadAggV [_, _, _] rfl MM MM (by rfl) agg28) rfl ?_ | refine RL.qg ⟨_, _, rfl, rfl, rfl⟩ (Y.loadAll rfl MM (by rfl) agg28) rfl ?_
          refine RL.qg ⟨_, _, rfl, rfl, rfl⟩ (Y.field rfl field46_0) rfl ?_
          first | refine RL.qg ⟨_, _, rfl, rfl, rfl⟩ (Y.loadAggV [_, _, _] rfl MM MM (by rfl) agg28) rfl ?_ | refine RL.qg ⟨_, _, rfl, rfl, rfl⟩ (Y.loadAll rfl MM (by rfl) agg28) rfl ?_
          refine RL.qg ⟨_, _, rfl, rfl, rfl⟩ (Y.litB true (id28_eql rfl rfl) (congrArg Value.bool (decide_eq_true rfl))) rfl ?_
          refine RL.q (Y.pickT rfl rfl) rfl ?_
          refine RL.q (Y.move rfl) rfl ?_
          refine RL.qg ⟨_, _, rfl, rfl, rfl⟩ (Y.field rfl field46_3) rfl ?_
          first | refine RL.qg ⟨_, _, rfl, rfl, rfl⟩ (Y.loadOwnV rfl MM MM (by rfl) flat9) rfl ?_ | refine RL.qg ⟨_, _, rfl, rfl, rfl⟩ (Y.loadOwn rfl MM (by rfl) flat9) rfl ?_ | refine RL.loadOwnSl ⟨_, _, rfl, rfl, rfl⟩ rfl MM MM (by rfl) flat9 rfl fun a139 c139 hu139 hc139 hl139 => ?_
          refine RL.qg ⟨_, _, rfl, rfl, rfl⟩ (Y.field rfl field46_3) rfl ?_
          first | refine RL.qg ⟨_, _, rfl, rfl, rfl⟩ (Y.loadOwnV rfl MM MM (by rfl) flat9) rfl ?_ | refine RL.qg ⟨_, _, rfl, rfl, rfl⟩ (Y.loadOwn rfl MM (by rfl) flat9) rfl ?_ | refine RL.loadOwnSl ⟨_, _, rfl, rfl, rfl⟩ rfl MM MM (by rfl) flat9 rfl fun a141 c141 hu141 hc141 hl141 => ?_
          refine RL.qg ⟨_, _, rfl, rfl, rfl⟩ (Y.litB true (Y.eqlS rfl rfl) (congrArg Value.bool (decide_eq_true rfl))) rfl ?_
          refine RL.q (Y.pickT rfl rfl) rfl ?_
          refine RL.q (Y.move rfl) rfl ?_
          refine RL.qg ⟨_, _, rfl, rfl, rfl⟩ (Y.field rfl field46_4) rfl ?_
          first | refine RL.qg ⟨_, _, rfl, rfl, rfl⟩ (Y.loadOwnV rfl MM MM (by rfl) flat40) rfl ?_ | refine RL.qg ⟨_, _, rfl, rfl, rfl⟩ (Y.loadOwn rfl MM (by rfl) flat40) rfl ?_ | refine RL.loadOwnSl ⟨_, _, rfl, rfl, rfl⟩ rfl MM MM (by rfl) flat40 rfl fun a146 c146 hu146 hc146 hl146 => ?_
          refine RL.qg ⟨_, _, rfl, rfl, rfl⟩ (Y.len rfl Try.underlying40) rfl ?_
          refine RL.qg ⟨_, _, rfl, rfl, rfl⟩ (Y.field rfl field46_4) rfl ?_
          first | refine RL.qg ⟨_, _, rfl, rfl, rfl⟩ (Y.loadOwnV rfl MM MM (by rfl) flat40) rfl ?_ | refine RL.qg ⟨_, _, rfl, rfl, rfl⟩ (Y.loadOwn rfl MM (by rfl) flat40) rfl ?_ | refine RL.loadOwnSl ⟨_, _, rfl, rfl, rfl⟩ rfl MM MM (by rfl) flat40 rfl fun a149 c149 hu149 hc149 hl149 => ?_
          refine RL.qg ⟨_, _, rfl, rfl, rfl⟩ (Y.len rfl Try.underlying40) rfl ?_
          refine RL.qg ⟨_, _, rfl, rfl, rfl⟩ (Y.litB true (Y.eql rfl rfl) (congrArg Value.bool (decide_eq_true rfl))) rfl ?_
          refine RL.q (Y.pickT rfl rfl) rfl ?_
          refine RL.q (Y.move rfl) rfl ?_
          refine RL.qg ⟨_, _, rfl, rfl, rfl⟩ (Y.litB true (Y.move rfl) (rfl)) rfl ?_
          refine RL.q (Y.pickT rfl rfl) rfl ?_
          refine RL.q (Y.move rfl) rfl ?_
          refine RL.qg ⟨_, _, rfl, rfl, rfl⟩ (Y.field rfl field46_3) rfl ?_
          first | refine RL.qg ⟨_, _, rfl, rfl, rfl⟩ (Y.loadOwnV rfl MM MM (by rfl) flat9) rfl ?_ | refine RL.qg ⟨_, _, rfl, rfl, rfl⟩ (Y.loadOwn rfl MM (by rfl) flat9) rfl ?_ | refine RL.loadOwnSl ⟨_, _, rfl, rfl, rfl⟩ rfl MM MM (by rfl) flat9 rfl fun a158 c158 hu158 hc158 hl158 => ?_
          refine RL.qg ⟨_, _, rfl, rfl, rfl⟩ (Y.litB true (Y.eqlS rfl rfl) (congrArg Value.bool (decide_eq_true rfl))) rfl ?_
          refine RL.q (Y.pickT rfl rfl) rfl ?_
          refine RL.q (Y.move rfl) rfl ?_
          refine RL.callv ⟨_, _, rfl, rfl, rfl⟩ func21 rfl rfl (by exact lives_ok _ _ _) ?_
          refine RL.q (Y.pickT rfl rfl) rfl ?_
          refine RL.q (Y.assign rfl) rfl ?_
          refine RL.nil ?_
          refine hK26 _ _ _ ?_
          refine CW.keep (Keep.cons 12 rfl (Keep.nil _)) ?_
          refine CW.ret ?_
          exact ⟨_, rfl, Turn.back hw1 (hs27.trans (hs29.trans (hs.trans (hs45.trans (hsb49.trans hsi1))))) ⟨rfl, rfl, rfl⟩ SB⟩
        · refine RL.alloc _ zero46 rfl rfl fun b24 => ?_
          refine RL.nil ⟨keep_same SB, ?_⟩
          refine HL.step 2 rfl (by kernel_rfl) ?_
          refine RL.call rfl func19 rfl rfl (by exact def_ok _ _ _ (typesP n) _ (idK 1) (by exact Kn.rds MM)) ?_
          rintro v124 M45 _ ⟨rfl, rfl, us124, rfl, hr124⟩
          rw [(types_def1 n).2] at hr124
          rw [types_has1]
          refine RL.addRds hr124 ?_
          have hul124 : us124.length = 31 := hr124.1.trans (DefT.enc_len _)
          refine RL.nil ⟨keep_same SB, ?_⟩
          refine HL.take 3 rfl (by kernel_rfl) (by kernel_rfl) (by kernel_rfl) rfl (Y.move rfl) rfl ?_
          refine HL.take 4 rfl (by kernel_rfl) (by kernel_rfl) (by kernel_rfl) rfl (Y.extract rfl rfl) rfl ?_
          refine HL.take 5 rfl (by kernel_rfl) (by kernel_rfl) (by kernel_rfl) rfl (Y.extract rfl rfl) rfl ?_
          refine HL.step 7 rfl (by kernel_rfl) ?_
          first | refine RL.storeRds 31 rfl rfl RP MM EL (by first | exact Kn.lenRds MM EL | exact Kn.lenLit rfl) size46 ?_ | refine RL.storeAgg _ rfl rfl RP (by rfl) (by first | (simp; done) | simp [IdT.vals]) (by first | (simp [Value.oneCell']; done) | simp [Value.oneCell', IdT.vals]) size46 ?_
          refine RL.nil ⟨keep_same SB, ?_⟩
          refine HL.take 8 rfl (by kernel_rfl) (by kernel_rfl) (by kernel_rfl) rfl (Y.assign rfl) rfl ?_
          refine HL.done (by kernel_rfl) ?_
          refine hK25 _ _ _ ?_
          refine CW.keep (Keep.cons 20 rfl (Keep.cons 21 rfl (Keep.cons 22 rfl (Keep.cons 23 rfl (Keep.cons 24 rfl (Keep.cons 25 rfl (Keep.nil _))))))) ?_
          refine CW.seq fun K27 hK27 => ?_
          refine CW.region ?_
          refine RL.q (Y.move rfl) rfl ?_
          refine RL.q (Y.move rfl) rfl ?_
          refine RL.q (Y.litB true (Y.eqlBB Try.underlying4 rfl rfl) (congrArg Value.bool (beq_self_eq_true _))) rfl ?_
          refine RL.q (Y.move rfl) rfl ?_
          refine RL.qg ⟨_, _, rfl, rfl, rfl⟩ (Y.field rfl field46_0) rfl ?_
          first | refine RL.qg ⟨_, _, rfl, rfl, rfl⟩ (Y.loadAggV [_, _, _] rfl MM MM (by rfl) agg28) rfl ?_ | refine RL.qg ⟨_, _, rfl, rfl, rfl⟩ (Y.loadAll rfl MM (by rfl) agg28) rfl ?_
          refine RL.qg ⟨_, _, rfl, rfl, rfl⟩ (Y.field rfl field46_0) rfl ?_
          first | refine RL.qg ⟨_, _, rfl, rfl, rfl⟩ (Y.loadAggV [_, _, _] rfl MM MM (by rfl) agg28) rfl ?_ | refine RL.qg ⟨_, _, rfl, rfl, rfl⟩ (Y.loadAll rfl MM (by rfl) agg28) rfl ?_
          refine RL.qg ⟨_, _, rfl, rfl, rfl⟩ (Y.litB true (id28_eql rfl rfl) (congrArg Value.bool (decide_eq_true rfl))) rfl ?_
          refine RL.q (Y.pickT rfl rfl) rfl ?_
          refine RL.q (Y.move rfl) rfl ?_
          refine RL.qg ⟨_, _, rfl, rfl, rfl⟩ (Y.field rfl field46_3) rfl ?_
          first | refine RL.qg ⟨_, _, rfl, rfl, rfl⟩ (Y.loadOwnV rfl MM MM (by rfl) flat9) rfl ?_ | refine RL.qg ⟨_, _, rfl, rfl, rfl⟩ (Y.loadOwn rfl MM (by rfl) flat9) rfl ?_ | refine RL.loadOwnSl ⟨_, _, rfl, rfl, rfl⟩ rfl MM MM (by rfl) flat9 rfl fun a139 c139 hu139 hc139 hl139 => ?_
          refine RL.qg ⟨_, _, rfl, rfl, rfl⟩ (Y.field rfl field46_3) rfl ?_
          first | refine RL.qg ⟨_, _, rfl, rfl, rfl⟩ (Y.loadOwnV rfl MM MM (by rfl) flat9) rfl ?_ | refine RL.qg ⟨_, _, rfl, rfl, rfl⟩ (Y.loadOwn rfl MM (by rfl) flat9) rfl ?_ | refine RL.loadOwnSl ⟨_, _, rfl, rfl, rfl⟩ rfl MM MM (by rfl) flat9 rfl fun a141 c141 hu141 hc141 hl141 => ?_
          refine RL.qg ⟨_, _, rfl, rfl, rfl⟩ (Y.litB true (Y.eqlS rfl rfl) (congrArg Value.bool (decide_eq_true rfl))) rfl ?_
          refine RL.q (Y.pickT rfl rfl) rfl ?_
          refine RL.q (Y.move rfl) rfl ?_
          refine RL.qg ⟨_, _, rfl, rfl, rfl⟩ (Y.field rfl field46_4) rfl ?_
          first | refine RL.qg ⟨_, _, rfl, rfl, rfl⟩ (Y.loadOwnV rfl MM MM (by rfl) flat40) rfl ?_ | refine RL.qg ⟨_, _, rfl, rfl, rfl⟩ (Y.loadOwn rfl MM (by rfl) flat40) rfl ?_ | refine RL.loadOwnSl ⟨_, _, rfl, rfl, rfl⟩ rfl MM MM (by rfl) flat40 rfl fun a146 c146 hu146 hc146 hl146 => ?_
          refine RL.qg ⟨_, _, rfl, rfl, rfl⟩ (Y.len rfl Try.underlying40) rfl ?_
          refine RL.qg ⟨_, _, rfl, rfl, rfl⟩ (Y.field rfl field46_4) rfl ?_
          first | refine RL.qg ⟨_, _, rfl, rfl, rfl⟩ (Y.loadOwnV rfl MM MM (by rfl) flat40) rfl ?_ | refine RL.qg ⟨_, _, rfl, rfl, rfl⟩ (Y.loadOwn rfl MM (by rfl) flat40) rfl ?_ | refine RL.loadOwnSl ⟨_, _, rfl, rfl, rfl⟩ rfl MM MM (by rfl) flat40 rfl fun a149 c149 hu149 hc149 hl149 => ?_
          refine RL.qg ⟨_, _, rfl, rfl, rfl⟩ (Y.len rfl Try.underlying40) rfl ?_
          refine RL.qg ⟨_, _, rfl, rfl, rfl⟩ (Y.litB true (Y.eql rfl rfl) (congrArg Value.bool (decide_eq_true rfl))) rfl ?_
          refine RL.q (Y.pickT rfl rfl) rfl ?_
          refine RL.q (Y.move rfl) rfl ?_
          refine RL.qg ⟨_, _, rfl, rfl, rfl⟩ (Y.litB true (Y.move rfl) (rfl)) rfl ?_
          refine RL.q (Y.pickT rfl rfl) rfl ?_
          refine RL.q (Y.move rfl) rfl ?_
          refine RL.qg ⟨_, _, rfl, rfl, rfl⟩ (Y.field rfl field46_3) rfl ?_
          first | refine RL.qg ⟨_, _, rfl, rfl, rfl⟩ (Y.loadOwnV rfl MM MM (by rfl) flat9) rfl ?_ | refine RL.qg ⟨_, _, rfl, rfl, rfl⟩ (Y.loadOwn rfl MM (by rfl) flat9) rfl ?_ | refine RL.loadOwnSl ⟨_, _, rfl, rfl, rfl⟩ rfl MM MM (by rfl) flat9 rfl fun a158 c158 hu158 hc158 hl158 => ?_
          refine RL.qg ⟨_, _, rfl, rfl, rfl⟩ (Y.litB true (Y.eqlS rfl rfl) (congrArg Value.bool (decide_eq_true rfl))) rfl ?_
          refine RL.q (Y.pickT rfl rfl) rfl ?_
          refine RL.q (Y.move rfl) rfl ?_
          refine RL.callv ⟨_, _, rfl, rfl, rfl⟩ func21 rfl rfl (by exact lives_ok _ _ _) ?_
          refine RL.q (Y.pickT rfl rfl) rfl ?_
          refine RL.q (Y.assign rfl) rfl ?_
          refine RL.nil ?_
          refine hK27 _ _ _ ?_
          refine CW.keep (Keep.cons 12 rfl (Keep.nil _)) ?_
          refine CW.ret ?_
          exact ⟨_, rfl, Turn.back hw1 (hs27.trans (hs29.trans (hs.trans (hs45.trans (hsb49.trans hsi1))))) ⟨rfl, rfl, rfl⟩ SB⟩
      · refine RL.alloc _ zero46 rfl rfl fun b24 => ?_
        refine RL.nil ⟨keep_same SB, ?_⟩
        refine HL.step 1 rfl (by kernel_rfl) ?_
        refine RL.callv rfl func14 rfl rfl (by exact id_ok _ _ _ _ (by first | assumption | omega) (by first | assumption | omega)) ?_
        refine RL.nil ⟨keep_same SB, ?_⟩
        refine HL.step 2 rfl (by kernel_rfl) ?_
        refine RL.call rfl func19 rfl rfl (by exact def_ok _ _ _ (typesP n) _ (idK 1) (by exact Kn.rds MM)) ?_
        rintro v124 M45 _ ⟨rfl, rfl, us124, rfl, hr124⟩
        rw [(types_def1 n).2] at hr124
        rw [types_has1]
        refine RL.addRds hr124 ?_
        have hul124 : us124.length = 31 := hr124.1.trans (DefT.enc_len _)
        refine RL.nil ⟨keep_same SB, ?_⟩
        refine HL.take 3 rfl (by kernel_rfl) (by kernel_rfl) (by kernel_rfl) rfl (Y.move rfl) rfl ?_
        refine HL.take 4 rfl (by kernel_rfl) (by kernel_rfl) (by kernel_rfl) rfl (Y.extract rfl rfl) rfl ?_
        refine HL.take 5 rfl (by kernel_rfl) (by kernel_rfl) (by kernel_rfl) rfl (Y.extract rfl rfl) rfl ?_
        refine HL.step 7 rfl (by kernel_rfl) ?_
        first | refine RL.storeRds 31 rfl rfl RP MM EL (by first | exact Kn.lenRds MM EL | exact Kn.lenLit rfl) size46 ?_ | refine RL.storeAgg _ rfl rfl RP (by rfl) (by first | (simp; done) | simp [IdT.vals]) (by first | (simp [Value.oneCell']; done) | simp [Value.oneCell', IdT.vals]) size46 ?_
        refine RL.nil ⟨keep_same SB, ?_⟩
        refine HL.take 8 rfl (by kernel_rfl) (by kernel_rfl) (by kernel_rfl) rfl (Y.assign rfl) rfl ?_
        refine HL.done (by kernel_rfl) ?_
        refine hK25 _ _ _ ?_
        refine CW.keep (Keep.cons 20 rfl (Keep.cons 21 rfl (Keep.cons 22 rfl (Keep.cons 23 rfl (Keep.cons 24 rfl (Keep.cons 25 rfl (Keep.nil _))))))) ?_
        refine CW.seq fun K28 hK28 => ?_
        refine CW.region ?_
        refine RL.q (Y.move rfl) rfl ?_
        refine RL.q (Y.move rfl) rfl ?_
        refine RL.q (Y.litB true (Y.eqlBB Try.underlying4 rfl rfl) (congrArg Value.bool (beq_self_eq_true _))) rfl ?_
        refine RL.q (Y.move rfl) rfl ?_
        refine RL.qg ⟨_, _, rfl, rfl, rfl⟩ (Y.field rfl field46_0) rfl ?_
        first | refine RL.qg ⟨_, _, rfl, rfl, rfl⟩ (Y.loadAggV [_, _, _] rfl MM MM (by rfl) agg28) rfl ?_ | refine RL.qg ⟨_, _, rfl, rfl, rfl⟩ (Y.loadAll rfl MM (by rfl) agg28) rfl ?_
        refine RL.qg ⟨_, _, rfl, rfl, rfl⟩ (Y.field rfl field46_0) rfl ?_
        first | refine RL.qg ⟨_, _, rfl, rfl, rfl⟩ (Y.loadAggV [_, _, _] rfl MM MM (by rfl) agg28) rfl ?_ | refine RL.qg ⟨_, _, rfl, rfl, rfl⟩ (Y.loadAll rfl MM (by rfl) agg28) rfl ?_
        refine RL.qg ⟨_, _, rfl, rfl, rfl⟩ (Y.litB true (id28_eql rfl rfl) (congrArg Value.bool (decide_eq_true rfl))) rfl ?_
        refine RL.q (Y.pickT rfl rfl) rfl ?_
        refine RL.q (Y.move rfl) rfl ?_
        refine RL.qg ⟨_, _, rfl, rfl, rfl⟩ (Y.field rfl field46_3) rfl ?_
        first | refine RL.qg ⟨_, _, rfl, rfl, rfl⟩ (Y.loadOwnV rfl MM MM (by rfl) flat9) rfl ?_ | refine RL.qg ⟨_, _, rfl, rfl, rfl⟩ (Y.loadOwn rfl MM (by rfl) flat9) rfl ?_ | refine RL.loadOwnSl ⟨_, _, rfl, rfl, rfl⟩ rfl MM MM (by rfl) flat9 rfl fun a139 c139 hu139 hc139 hl139 => ?_
        refine RL.qg ⟨_, _, rfl, rfl, rfl⟩ (Y.field rfl field46_3) rfl ?_
        first | refine RL.qg ⟨_, _, rfl, rfl, rfl⟩ (Y.loadOwnV rfl MM MM (by rfl) flat9) rfl ?_ | refine RL.qg ⟨_, _, rfl, rfl, rfl⟩ (Y.loadOwn rfl MM (by rfl) flat9) rfl ?_ | refine RL.loadOwnSl ⟨_, _, rfl, rfl, rfl⟩ rfl MM MM (by rfl) flat9 rfl fun a141 c141 hu141 hc141 hl141 => ?_
        refine RL.qg ⟨_, _, rfl, rfl, rfl⟩ (Y.litB true (Y.eqlS rfl rfl) (congrArg Value.bool (decide_eq_true rfl))) rfl ?_
        refine RL.q (Y.pickT rfl rfl) rfl ?_
        refine RL.q (Y.move rfl) rfl ?_
        refine RL.qg ⟨_, _, rfl, rfl, rfl⟩ (Y.field rfl field46_4) rfl ?_
        first | refine RL.qg ⟨_, _, rfl, rfl, rfl⟩ (Y.loadOwnV rfl MM MM (by rfl) flat40) rfl ?_ | refine RL.qg ⟨_, _, rfl, rfl, rfl⟩ (Y.loadOwn rfl MM (by rfl) flat40) rfl ?_ | refine RL.loadOwnSl ⟨_, _, rfl, rfl, rfl⟩ rfl MM MM (by rfl) flat40 rfl fun a146 c146 hu146 hc146 hl146 => ?_
        refine RL.qg ⟨_, _, rfl, rfl, rfl⟩ (Y.len rfl Try.underlying40) rfl ?_
        refine RL.qg ⟨_, _, rfl, rfl, rfl⟩ (Y.field rfl field46_4) rfl ?_
        first | refine RL.qg ⟨_, _, rfl, rfl, rfl⟩ (Y.loadOwnV rfl MM MM (by rfl) flat40) rfl ?_ | refine RL.qg ⟨_, _, rfl, rfl, rfl⟩ (Y.loadOwn rfl MM (by rfl) flat40) rfl ?_ | refine RL.loadOwnSl ⟨_, _, rfl, rfl, rfl⟩ rfl MM MM (by rfl) flat40 rfl fun a149 c149 hu149 hc149 hl149 => ?_
        refine RL.qg ⟨_, _, rfl, rfl, rfl⟩ (Y.len rfl Try.underlying40) rfl ?_
        refine RL.qg ⟨_, _, rfl, rfl, rfl⟩ (Y.litB true (Y.eql rfl rfl) (congrArg Value.bool (decide_eq_true rfl))) rfl ?_
        refine RL.q (Y.pickT rfl rfl) rfl ?_
        refine RL.q (Y.move rfl) rfl ?_
        refine RL.qg ⟨_, _, rfl, rfl, rfl⟩ (Y.litB true (Y.move rfl) (rfl)) rfl ?_
        refine RL.q (Y.pickT rfl rfl) rfl ?_
        refine RL.q (Y.move rfl) rfl ?_
        refine RL.qg ⟨_, _, rfl, rfl, rfl⟩ (Y.field rfl field46_3) rfl ?_
        first | refine RL.qg ⟨_, _, rfl, rfl, rfl⟩ (Y.loadOwnV rfl MM MM (by rfl) flat9) rfl ?_ | refine RL.qg ⟨_, _, rfl, rfl, rfl⟩ (Y.loadOwn rfl MM (by rfl) flat9) rfl ?_ | refine RL.loadOwnSl ⟨_, _, rfl, rfl, rfl⟩ rfl MM MM (by rfl) flat9 rfl fun a158 c158 hu158 hc158 hl158 => ?_
        refine RL.qg ⟨_, _, rfl, rfl, rfl⟩ (Y.litB true (Y.eqlS rfl rfl) (congrArg Value.bool (decide_eq_true rfl))) rfl ?_
        refine RL.q (Y.pickT rfl rfl) rfl ?_
        refine RL.q (Y.move rfl) rfl ?_
        refine RL.callv ⟨_, _, rfl, rfl, rfl⟩ func21 rfl rfl (by exact lives_ok _ _ _) ?_
        refine RL.q (Y.pickT rfl rfl) rfl ?_
        refine RL.q (Y.assign rfl) rfl ?_
        refine RL.nil ?_
        refine hK28 _ _ _ ?_
        refine CW.keep (Keep.cons 12 rfl (Keep.nil _)) ?_
        refine CW.ret ?_
        exact ⟨_, rfl, Turn.back hw1 (hs27.trans (hs29.trans (hs.trans (hs45.trans (hsb49.trans hsi1))))) ⟨rfl, rfl, rfl⟩ SB⟩
end Go.Proofs.Ytfgkhhfkodlbpaa
