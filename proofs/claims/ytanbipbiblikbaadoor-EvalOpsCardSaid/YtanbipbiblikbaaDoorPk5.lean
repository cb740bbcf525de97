/- Er, XeLd, Arg, Laid, put together. -/
import Derived.Test.YtanbipbiblikbaaDoorPk4
import Derived.Deep.DeepHandedRow
import Derived.LaidMore
import Derived.Test.YtanbipbiblikbaaDoorCards
import Derived.Test.YtanbipbiblikbaaDoorTie
import Derived.Stop.Joined
/- THE LAW EvalOps. Printed by m11r.py. -/
namespace Go.Proofs.YtanbipbiblikbaaDoor
open Xe

set_option maxHeartbeats 4000000 in
set_option maxRecDepth 4000 in
theorem EvalOps_ok (w0 : World) (M : Mem) (Γ : List As) (a : Int) (b : Int) (l : List Int) (ul : Value) (m : List Int) (um : Value)  (hl : Kn w0 M Γ (Rd M (dints l) ul)) (hm : Kn w0 M Γ (Rd M (dints m) um)) (hN0 : NumsM M) (hai : InI a) (hbi : InI b) (hli : ∀ z ∈ l, InI z) (hmi : ∀ z ∈ m, InI z) :
    CallOk Tryd.prog w0 M Γ 3 #[vint a, vint b, ul, um] (Is M Γ (.bool true)) := by
  refine CallOk.kn hl fun hl => ?_
  obtain ⟨al, cl, rfl, hcl, hliml, hlenl⟩ := hl.slice
  refine CallOk.kn hm fun hm => ?_
  obtain ⟨am, cm, rfl, hcm, hlimm, hlenm⟩ := hm.slice
  have hia := number_in a
  have hib := number_in b
  have hNc := hN0
  have hT := Sub.refl M
  have ha2 := around2 a
  have hb2 := around2 b
  have ha40 := around_lt a 40 OM
  have htm := tMany_rng l
  have hdl : (typesP l).defs.length = tMany l := tDefs_len l (tMany l)
  refine enter (f := 3) Tryd.func3 rfl Tryd.ntmps3 rfl rfl fun w1 hw1 => ?_
  refine CW.addRd hl ?_
  refine CW.addRd hm ?_
  refine CW.seq fun K1 hK1 => ?_
  refine CW.region ?_
  refine RL.q (Y.assign rfl) rfl ?_
  refine RL.nil ?_
  refine hK1 _ _ _ ?_
  refine CW.kp [0, 1, 2, 3] rfl ?_
  refine CW.seq fun K2 hK2 => ?_
  refine CW.region ?_
  refine RL.q (Y.move rfl) rfl ?_
  refine RL.callv rfl func10 rfl rfl (by exact number_ok _ _ _ _ AO) ?_
  refine RL.q (Y.build [vint 0, vint (numberF a), .slice none 0 0] rfl zero26 places26 (by rfl)) rfl ?_
  refine RL.alloc _ zero26 rfl rfl fun b9 => ?_
  refine RL.storeAgg [vint 0, vint (numberF a), .slice none 0 0] rfl rfl RP (by rfl) (by first | (simp; done) | simp [IdT.vals]) (by first | (simp [Value.oneCell']; done) | simp [Value.oneCell', IdT.vals]) size26 ?_
  refine RL.nil ?_
  refine hK2 _ _ _ ?_
  refine CW.kp [0, 1, 2, 3, 9] rfl ?_
  refine CW.seq fun K3 hK3 => ?_
  refine CW.region ?_
  refine RL.q (Y.move rfl) rfl ?_
  refine RL.callv rfl func10 rfl rfl (by exact number_ok _ _ _ _ AO) ?_
  refine RL.q (Y.build [vint 0, vint (numberF b), .slice none 0 0] rfl zero26 places26 (by rfl)) rfl ?_
  refine RL.alloc _ zero26 rfl rfl fun b10 => ?_
  refine RL.storeAgg [vint 0, vint (numberF b), .slice none 0 0] rfl rfl RP (by rfl) (by first | (simp; done) | simp [IdT.vals]) (by first | (simp [Value.oneCell']; done) | simp [Value.oneCell', IdT.vals]) size26 ?_
  refine RL.nil ?_
  refine hK3 _ _ _ ?_
  refine CW.kp [0, 1, 2, 3, 9, 10] rfl ?_
  refine CW.seq fun K4 hK4 => ?_
  refine CW.seq fun K5 hK5 => ?_
  refine CW.region ?_
  refine RL.q (Y.assign rfl) rfl ?_
  refine RL.nil ?_
  refine hK5 _ _ _ ?_
  refine CW.kp [0, 1, 2, 3, 9, 10, 11] rfl ?_
  refine CW.block ?_
  -- LOOP 1: live [0, 1, 2, 3, 9, 10, 11] changed [11]
  refine CW.kp [11, 0, 1, 2, 3, 9, 10] rfl ?_
  refine CW.loopF (fun mm Lc M1 Γc => ∃ n : Int, mm = (6 - n).toNat ∧ 0 ≤ n ∧ n ≤ 6 ∧ Lc = [(11, vint n)] ∧ Γc = [] ∧ NumsM M1 ∧ Sub M M1) 6 [(11, _)] [] rfl rfl ⟨0, rfl, by omega, by omega, rfl, rfl, hNc, hT⟩ ?_
  rintro mm Lc M1 Γc hs ⟨n, rfl, hn0, hn1, rfl, rfl, hNc, hT⟩
  refine CW.seq fun K6 hK6 => ?_
  refine CW.seq fun K7 hK7 => ?_
  refine CW.region ?_
  refine RL.q (Y.move rfl) rfl ?_
  refine RL.q (Y.leq rfl rfl) rfl ?_
  refine RL.nil ?_
  refine hK7 _ _ _ ?_
  refine CW.kp [0, 1, 2, 3, 9, 10, 11, 27] rfl ?_
  refine CW.ite rfl (fun h1 => ?_) (fun h1 => ?_)
  ·obtain ⟨r, hr⟩ := op_num hn0 OM (x := (vnum (numberF a))) (y := (vnum (numberF b))) hia hib
   refine CW.skip ?_
   refine hK6 _ _ _ ?_
   refine CW.seq fun K8 hK8 => ?_
   refine CW.block ?_
   refine CW.seq fun K9 hK9 => ?_
   refine CW.regionH mix _ _ (fun _ hw => hw) ?_
   refine HL.take 0 rfl KR KR KR rfl (Y.move rfl) rfl ?_
   first | refine HL.take 1 rfl KR KR KR rfl (Y.loadAllR rfl MM MM EL agg26) rfl ?_ | refine HL.take 1 rfl KR KR KR rfl (Y.loadAll rfl MM (by rfl) agg26) rfl ?_ | refine HL.loadPart 1 rfl KR KR KR rfl rfl MM MM (by rfl) (by rfl) agg26 rfl fun us31 hul31 hur31 => ?_
   first | refine HL.take 2 rfl KR KR KR rfl (Y.loadAllR rfl MM MM EL agg26) rfl ?_ | refine HL.take 2 rfl KR KR KR rfl (Y.loadAll rfl MM (by rfl) agg26) rfl ?_ | refine HL.loadPart 2 rfl KR KR KR rfl rfl MM MM (by rfl) (by rfl) agg26 rfl fun us32 hul32 hur32 => ?_
   refine HL.take 5 rfl KR KR KR rfl (Y.move rfl) rfl ?_
   first | refine HL.take 6 rfl KR KR KR rfl (Y.loadAllR rfl MM MM EL agg26) rfl ?_ | refine HL.take 6 rfl KR KR KR rfl (Y.loadAll rfl MM (by rfl) agg26) rfl ?_ | refine HL.loadPart 6 rfl KR KR KR rfl rfl MM MM (by rfl) (by rfl) agg26 rfl fun us36 hul36 hur36 => ?_
   first | refine HL.take 7 rfl KR KR KR rfl (Y.loadAllR rfl MM MM EL agg26) rfl ?_ | refine HL.take 7 rfl KR KR KR rfl (Y.loadAll rfl MM (by rfl) agg26) rfl ?_ | refine HL.loadPart 7 rfl KR KR KR rfl rfl MM MM (by rfl) (by rfl) agg26 rfl fun us37 hul37 hur37 => ?_
   refine HL.step2 3 8 rfl rfl KR ?_ ?_
   ·refine RL.buildSlice ([vint 0, vint (numberF a), .slice none 0 0] ++ [vint 0, vint (numberF b), .slice none 0 0]) elem24 rfl (by decide) (fill2 (out := [vint 0, vint (numberF a), .slice none 0 0]) (out' := [vint 0, vint (numberF b), .slice none 0 0]) rfl rfl rfl rfl) rfl fun b33 => ?_
    refine RL.nil ⟨keep_same SB, ?_⟩
    refine HL.step2 4 8 rfl rfl KR ?_ ?_
    ·refine RL.sealOwn (b := b33) (k := 2) (sz := 3) (ds := [(vnum (numberF a)), (vnum (numberF b))].flatMap Val.enc) PK (kids2 (leaf_rd _ _) (leaf_rd _ _)) (by simp [*]) (by unfold lim; omega) fun Mb33 hsb33 hrb33 => ?_
     have hNc := hNc.mono hsb33
     have hT := hT.trans hsb33
     refine RL.call rfl func12 rfl rfl (by exact op_ok _ _ _ n [(vnum (numberF a)), (vnum (numberF b))] _ r (Kn.of hrb33) hNc (by intro z hz; simp only [List.mem_cons, List.not_mem_nil, or_false] at hz; rcases hz with rfl | rfl <;> first | exact Nat.le_of_ble_eq_true rfl | omega) hr) ?_
     rintro v34 M34 _ ⟨hx34, rfl, us34, rfl, hr34⟩
     have hs34 := hsb33.trans hx34
     have hNc := hNc.mono hx34
     have hT := hT.trans hx34
     refine RL.addRds hr34 ?_
     have hul34 : us34.length = 3 := hr34.1.trans (Val.enc_len _)
     refine RL.nil ⟨keep_more (hs34) SB, ?_⟩
     refine HL.step 8 rfl KR ?_
     refine RL.buildSlice ([vint 0, vint (numberF a), .slice none 0 0] ++ [vint 0, vint (numberF b), .slice none 0 0]) elem24 rfl (by decide) (fill2 (out := [vint 0, vint (numberF a), .slice none 0 0]) (out' := [vint 0, vint (numberF b), .slice none 0 0]) rfl rfl rfl rfl) rfl fun b38 => ?_
     refine RL.nil ⟨keep_more (hs34) SB, ?_⟩
     refine HL.step 9 rfl KR ?_
     refine RL.sealOwn (b := b38) (k := 2) (sz := 3) (ds := [(vnum (numberF a)), (vnum (numberF b))].flatMap Val.enc) PK (kids2 (leaf_rd _ _) (leaf_rd _ _)) (by simp [*]) (by unfold lim; omega) fun Mb38 hsb38 hrb38 => ?_
     have hNc := hNc.mono hsb38
     have hT := hT.trans hsb38
     refine RL.call rfl func13 rfl rfl (by exact rop2_ok _ _ _ n [(vnum (numberF a)), (vnum (numberF b))] _ r (Kn.of hrb38) rfl OM (by first | exact Nat.le_of_ble_eq_true rfl | (show _ ≤ _; omega) | assumption) (by first | exact Nat.le_of_ble_eq_true rfl | (show _ ≤ _; omega) | assumption) hr (by intro h; omega)) ?_
     rintro v39 M39 _ ⟨hx39, rfl, us39, rfl, hr39⟩
     have hs39 := hsb38.trans hx39
     have hNc := hNc.mono hx39
     have hT := hT.trans hx39
     refine RL.addRds hr39 ?_
     have hul39 : us39.length = 3 := hr39.1.trans (Val.enc_len _)
     refine RL.nil ⟨keep_more (hs34.trans (hs39)) SB, ?_⟩
     refine HL.step 10 rfl KR ?_
     refine RL.callv rfl func11 rfl rfl (by exact CallOk.val (same_ok _ _ _ r _ r _ (by exact Kn.rds MM) (by exact Kn.rds MM)) (v' := .bool true) (congrArg Value.bool (decide_eq_true (cmpV_self _)))) ?_
     refine RL.nil ⟨keep_more (hs34.trans (hs39)) SB, ?_⟩
     refine HL.take 11 rfl KR KR KR rfl (Y.not rfl) rfl ?_
     refine HL.done KR ?_
     refine hK9 _ _ _ ?_
     refine CW.kp [0, 1, 2, 3, 9, 10, 11, 41] rfl ?_
     refine CW.no rfl ?_
     refine CW.skip ?_
     refine hK8 _ _ _ ?_
     refine CW.region ?_
     refine RL.q (Y.move rfl) rfl ?_
     refine RL.q (Y.add rfl rfl OM) rfl ?_
     refine RL.q (Y.assign rfl) rfl ?_
     refine RL.nil ?_
     refine ⟨(6 - (n + 1)).toNat, [(11, _)], ?_, (KP [11, 0, 1, 2, 3, 9, 10]), ?_⟩
     · omega
     · exact Turn.drop ⟨[], rfl, by first | exact hs.trans (hs34.trans hs39), n + 1, rfl, by omega, by omega, rfl, rfl, hNc, hT⟩ SB
    refine RL.buildSlice ([vint 0, vint (numberF a), .slice none 0 0] ++ [vint 0, vint (numberF b), .slice none 0 0]) elem24 rfl (by decide) (fill2 (out := [vint 0, vint (numberF a), .slice none 0 0]) (out' := [vint 0, vint (numberF b), .slice none 0 0]) rfl rfl rfl rfl) rfl fun b38 => ?_
    refine RL.nil ⟨keep_same SB, ?_⟩
    refine HL.step 4 rfl KR ?_
    refine RL.sealOwn (b := b33) (k := 2) (sz := 3) (ds := [(vnum (numberF a)), (vnum (numberF b))].flatMap Val.enc) PK (kids2 (leaf_rd _ _) (leaf_rd _ _)) (by simp [*]) (by unfold lim; omega) fun Mb33 hsb33 hrb33 => ?_
    have hNc := hNc.mono hsb33
    have hT := hT.trans hsb33
    refine RL.call rfl func12 rfl rfl (by exact op_ok _ _ _ n [(vnum (numberF a)), (vnum (numberF b))] _ r (Kn.of hrb33) hNc (by intro z hz; simp only [List.mem_cons, List.not_mem_nil, or_false] at hz; rcases hz with rfl | rfl <;> first | exact Nat.le_of_ble_eq_true rfl | omega) hr) ?_
    rintro v34 M34 _ ⟨hx34, rfl, us34, rfl, hr34⟩
    have hs34 := hsb33.trans hx34
    have hNc := hNc.mono hx34
    have hT := hT.trans hx34
    refine RL.addRds hr34 ?_
    have hul34 : us34.length = 3 := hr34.1.trans (Val.enc_len _)
    refine RL.nil ⟨keep_more (hs34) SB, ?_⟩
    refine HL.step 9 rfl KR ?_
    refine RL.sealOwn (b := b38) (k := 2) (sz := 3) (ds := [(vnum (numberF a)), (vnum (numberF b))].flatMap Val.enc) PK (kids2 (leaf_rd _ _) (leaf_rd _ _)) (by simp [*]) (by unfold lim; omega) fun Mb38 hsb38 hrb38 => ?_
    have hNc := hNc.mono hsb38
    have hT := hT.trans hsb38
    refine RL.call rfl func13 rfl rfl (by exact rop2_ok _ _ _ n [(vnum (numberF a)), (vnum (numberF b))] _ r (Kn.of hrb38) rfl OM (by first | exact Nat.le_of_ble_eq_true rfl | (show _ ≤ _; omega) | assumption) (by first | exact Nat.le_of_ble_eq_true rfl | (show _ ≤ _; omega) | assumption) hr (by intro h; omega)) ?_
    rintro v39 M39 _ ⟨hx39, rfl, us39, rfl, hr39⟩
    have hs39 := hsb38.trans hx39
    have hNc := hNc.mono hx39
    have hT := hT.trans hx39
    refine RL.addRds hr39 ?_
    have hul39 : us39.length = 3 := hr39.1.trans (Val.enc_len _)
    refine RL.nil ⟨keep_more (hs34.trans (hs39)) SB, ?_⟩
    refine HL.step 10 rfl KR ?_
    refine RL.callv rfl func11 rfl rfl (by exact CallOk.val (same_ok _ _ _ r _ r _ (by exact Kn.rds MM) (by exact Kn.rds MM)) (v' := .bool true) (congrArg Value.bool (decide_eq_true (cmpV_self _)))) ?_
    refine RL.nil ⟨keep_more (hs34.trans (hs39)) SB, ?_⟩
    refine HL.take 11 rfl KR KR KR rfl (Y.not rfl) rfl ?_
    refine HL.done KR ?_
    refine hK9 _ _ _ ?_
    refine CW.kp [0, 1, 2, 3, 9, 10, 11, 41] rfl ?_
    refine CW.no rfl ?_
    refine CW.skip ?_
    refine hK8 _ _ _ ?_
    refine CW.region ?_
    refine RL.q (Y.move rfl) rfl ?_
    refine RL.q (Y.add rfl rfl OM) rfl ?_
    refine RL.q (Y.assign rfl) rfl ?_
    refine RL.nil ?_
    refine ⟨(6 - (n + 1)).toNat, [(11, _)], ?_, (KP [11, 0, 1, 2, 3, 9, 10]), ?_⟩
    · omega
    · exact Turn.drop ⟨[], rfl, by first | exact hs.trans (hs34.trans hs39), n + 1, rfl, by omega, by omega, rfl, rfl, hNc, hT⟩ SB
   refine RL.buildSlice ([vint 0, vint (numberF a), .slice none 0 0] ++ [vint 0, vint (numberF b), .slice none 0 0]) elem24 rfl (by decide) (fill2 (out := [vint 0, vint (numberF a), .slice none 0 0]) (out' := [vint 0, vint (numberF b), .slice none 0 0]) rfl rfl rfl rfl) rfl fun b38 => ?_
   refine RL.nil ⟨keep_same SB, ?_⟩
   refine HL.step 3 rfl KR ?_
   refine RL.buildSlice ([vint 0, vint (numberF a), .slice none 0 0] ++ [vint 0, vint (numberF b), .slice none 0 0]) elem24 rfl (by decide) (fill2 (out := [vint 0, vint (numberF a), .slice none 0 0]) (out' := [vint 0, vint (numberF b), .slice none 0 0]) rfl rfl rfl rfl) rfl fun b33 => ?_
   refine RL.nil ⟨keep_same SB, ?_⟩
   refine HL.step 4 rfl KR ?_
   refine RL.sealOwn (b := b33) (k := 2) (sz := 3) (ds := [(vnum (numberF a)), (vnum (numberF b))].flatMap Val.enc) PK (kids2 (leaf_rd _ _) (leaf_rd _ _)) (by simp [*]) (by unfold lim; omega) fun Mb33 hsb33 hrb33 => ?_
   have hNc := hNc.mono hsb33
   have hT := hT.trans hsb33
   refine RL.call rfl func12 rfl rfl (by exact op_ok _ _ _ n [(vnum (numberF a)), (vnum (numberF b))] _ r (Kn.of hrb33) hNc (by intro z hz; simp only [List.mem_cons, List.not_mem_nil, or_false] at hz; rcases hz with rfl | rfl <;> first | exact Nat.le_of_ble_eq_true rfl | omega) hr) ?_
   rintro v34 M34 _ ⟨hx34, rfl, us34, rfl, hr34⟩
   have hs34 := hsb33.trans hx34
   have hNc := hNc.mono hx34
   have hT := hT.trans hx34
   refine RL.addRds hr34 ?_
   have hul34 : us34.length = 3 := hr34.1.trans (Val.enc_len _)
   refine RL.nil ⟨keep_more (hs34) SB, ?_⟩
   refine HL.step 9 rfl KR ?_
   refine RL.sealOwn (b := b38) (k := 2) (sz := 3) (ds := [(vnum (numberF a)), (vnum (numberF b))].flatMap Val.enc) PK (kids2 (leaf_rd _ _) (leaf_rd _ _)) (by simp [*]) (by unfold lim; omega) fun Mb38 hsb38 hrb38 => ?_
   have hNc := hNc.mono hsb38
   have hT := hT.trans hsb38
   refine RL.call rfl func13 rfl rfl (by exact rop2_ok _ _ _ n [(vnum (numberF a)), (vnum (numberF b))] _ r (Kn.of hrb38) rfl OM (by first | exact Nat.le_of_ble_eq_true rfl | (show _ ≤ _; omega) | assumption) (by first | exact Nat.le_of_ble_eq_true rfl | (show _ ≤ _; omega) | assumption) hr (by intro h; omega)) ?_
   rintro v39 M39 _ ⟨hx39, rfl, us39, rfl, hr39⟩
   have hs39 := hsb38.trans hx39
   have hNc := hNc.mono hx39
   have hT := hT.trans hx39
   refine RL.addRds hr39 ?_
   have hul39 : us39.length = 3 := hr39.1.trans (Val.enc_len _)
   refine RL.nil ⟨keep_more (hs34.trans (hs39)) SB, ?_⟩
   refine HL.step 10 rfl KR ?_
   refine RL.callv rfl func11 rfl rfl (by exact CallOk.val (same_ok _ _ _ r _ r _ (by exact Kn.rds MM) (by exact Kn.rds MM)) (v' := .bool true) (congrArg Value.bool (decide_eq_true (cmpV_self _)))) ?_
   refine RL.nil ⟨keep_more (hs34.trans (hs39)) SB, ?_⟩
   refine HL.take 11 rfl KR KR KR rfl (Y.not rfl) rfl ?_
   refine HL.done KR ?_
   refine hK9 _ _ _ ?_
   refine CW.kp [0, 1, 2, 3, 9, 10, 11, 41] rfl ?_
   refine CW.no rfl ?_
   refine CW.skip ?_
   refine hK8 _ _ _ ?_
   refine CW.region ?_
   refine RL.q (Y.move rfl) rfl ?_
   refine RL.q (Y.add rfl rfl OM) rfl ?_
   refine RL.q (Y.assign rfl) rfl ?_
   refine RL.nil ?_
   refine ⟨(6 - (n + 1)).toNat, [(11, _)], ?_, (KP [11, 0, 1, 2, 3, 9, 10]), ?_⟩
   · omega
   · exact Turn.drop ⟨[], rfl, by first | exact hs.trans (hs34.trans hs39), n + 1, rfl, by omega, by omega, rfl, rfl, hNc, hT⟩ SB
  refine CW.exit ?_
  refine hK4 _ _ _ ?_
  refine CW.seq fun K10 hK10 => ?_
  refine CW.region ?_
  refine RL.q (Y.move rfl) rfl ?_
  refine RL.call rfl func14 rfl rfl (by exact types_ok _ _ _ l _ (by exact Kn.rd MM) hli) ?_
  rintro v43 M43 _ ⟨hs43, rfl, us43, rfl, hr43⟩
  refine RL.addRds hr43 ?_
  have hul43 : us43.length = 2 := hr43.1.trans (ProgT.enc_len _)
  have hNc := hNc.mono hs43
  have hT := hT.trans hs43
  refine RL.alloc _ zero32 rfl rfl fun b12 => ?_
  first | refine RL.storeRds 2 rfl rfl RP MM EL (by first | exact Kn.lenRds MM EL | exact Kn.lenLit rfl) size32 ?_ | refine RL.storeAgg _ rfl rfl RP (by rfl) (by first | (simp; done) | simp [IdT.vals]) (by first | (simp [Value.oneCell']; done) | simp [Value.oneCell', IdT.vals]) size32 ?_
  refine RL.nil ?_
  refine hK10 _ _ _ ?_
  refine CW.kp [0, 1, 2, 3, 12] rfl ?_
  refine CW.cut (fun L' M' Γ' => ∃ (b13 : Nat) (us49 : List Value), Keep L' [(0, vint a), (1, vint b), (2, .slice al l.length cl), (3, .slice am m.length cm), (12, ptrB b12), (13, ptrB b13)] ∧ Sub M M' ∧ Sub M43 M' ∧ NumsM M' ∧ us49.length = 5 ∧ RdL M' (pickTy (around a 40) ((typesP l).defs.length : Nat)).enc us49 ∧ ∀ w, St w0 M' Γ' w → St w0 M' (.own b13 38 us49 :: .own b12 32 us43 :: .rds (typesP l).enc us43 :: .rd (dints m) (.slice am m.length cm) :: .rd (dints l) (.slice al l.length cl) :: Γ) w) ?_ ?_
  ·refine CW.regionH mix _ _ (fun _ hw => hw) ?_
   refine HL.take 0 rfl KR KR KR rfl (Y.move rfl) rfl ?_
   refine HL.take 2 rfl KR KR KR rfl (Y.field rfl field32_1) rfl ?_
   first | refine HL.take 3 rfl KR KR KR rfl (Y.loadOwnV rfl MM MM (by rfl) flat30) rfl ?_ | refine HL.take 3 rfl KR KR KR rfl (Y.loadOwn rfl MM (by rfl) flat30) rfl ?_ | refine HL.loadOwnSl 3 rfl KR KR KR rfl rfl MM MM (by rfl) flat30 rfl fun a47 c47 hu47 hc47 hl47 => ?_
   refine HL.take 4 rfl KR KR KR rfl (Y.len rfl Tryd.underlying30) rfl ?_
   refine HL.step2 1 6 rfl rfl KR ?_ ?_
   ·refine RL.callv rfl func16 rfl rfl (by exact around_ok _ _ _ _ _ AO AO) ?_
    refine RL.nil ⟨keep_same SB, ?_⟩
    refine HL.step2 5 6 rfl rfl KR ?_ ?_
    ·refine RL.call rfl func15 rfl rfl (by exact pick_ok _ _ _ (around a 40) ((typesP l).defs.length : Nat) (by unfold InI; omega) OM OM) ?_
     rintro v49 M49 _ ⟨hs49, rfl, us49, rfl, hr49⟩
     refine RL.addRds hr49 ?_
     have hul49 : us49.length = 5 := hr49.1.trans (Ty.enc_len _)
     have hNc := hNc.mono hs49
     have hT := hT.trans hs49
     refine RL.nil ⟨keep_more (hs49) SB, ?_⟩
     refine HL.step 6 rfl KR ?_
     refine RL.alloc _ zero38 rfl rfl fun b13 => ?_
     refine RL.nil ⟨keep_more (hs49) SB, ?_⟩
     refine HL.step 7 rfl KR ?_
     first | refine RL.storeRds 5 rfl rfl RP MM EL (by first | exact Kn.lenRds MM EL | exact Kn.lenLit rfl) size38 ?_ | refine RL.storeAgg _ rfl rfl RP (by rfl) (by first | (simp; done) | simp [IdT.vals]) (by first | (simp [Value.oneCell']; done) | simp [Value.oneCell', IdT.vals]) size38 ?_
     refine RL.nil ⟨keep_more (hs49) SB, ?_⟩
     refine HL.done KR ?_
     dsimp only [thenX]
     exact ⟨b13, us49, (by repeat (first | exact Keep.nil _ | refine Keep.cons _ rfl ?_)), hT, by first | exact hs49, hNc, hul49, hr49, fun _ hw => hw.sub SB⟩
    refine RL.alloc _ zero38 rfl rfl fun b13 => ?_
    refine RL.nil ⟨keep_same SB, ?_⟩
    refine HL.step 5 rfl KR ?_
    refine RL.call rfl func15 rfl rfl (by exact pick_ok _ _ _ (around a 40) ((typesP l).defs.length : Nat) (by unfold InI; omega) OM OM) ?_
    rintro v49 M49 _ ⟨hs49, rfl, us49, rfl, hr49⟩
    refine RL.addRds hr49 ?_
    have hul49 : us49.length = 5 := hr49.1.trans (Ty.enc_len _)
    have hNc := hNc.mono hs49
    have hT := hT.trans hs49
    refine RL.nil ⟨keep_more (hs49) SB, ?_⟩
    refine HL.step 7 rfl KR ?_
    first | refine RL.storeRds 5 rfl rfl RP MM EL (by first | exact Kn.lenRds MM EL | exact Kn.lenLit rfl) size38 ?_ | refine RL.storeAgg _ rfl rfl RP (by rfl) (by first | (simp; done) | simp [IdT.vals]) (by first | (simp [Value.oneCell']; done) | simp [Value.oneCell', IdT.vals]) size38 ?_
    refine RL.nil ⟨keep_more (hs49) SB, ?_⟩
    refine HL.done KR ?_
    dsimp only [thenX]
    exact ⟨b13, us49, (by repeat (first | exact Keep.nil _ | refine Keep.cons _ rfl ?_)), hT, by first | exact hs49, hNc, hul49, hr49, fun _ hw => hw.sub SB⟩
   refine RL.alloc _ zero38 rfl rfl fun b13 => ?_
   refine RL.nil ⟨keep_same SB, ?_⟩
   refine HL.step 1 rfl KR ?_
   refine RL.callv rfl func16 rfl rfl (by exact around_ok _ _ _ _ _ AO AO) ?_
   refine RL.nil ⟨keep_same SB, ?_⟩
   refine HL.step 5 rfl KR ?_
   refine RL.call rfl func15 rfl rfl (by exact pick_ok _ _ _ (around a 40) ((typesP l).defs.length : Nat) (by unfold InI; omega) OM OM) ?_
   rintro v49 M49 _ ⟨hs49, rfl, us49, rfl, hr49⟩
   refine RL.addRds hr49 ?_
   have hul49 : us49.length = 5 := hr49.1.trans (Ty.enc_len _)
   have hNc := hNc.mono hs49
   have hT := hT.trans hs49
   refine RL.nil ⟨keep_more (hs49) SB, ?_⟩
   refine HL.step 7 rfl KR ?_
   first | refine RL.storeRds 5 rfl rfl RP MM EL (by first | exact Kn.lenRds MM EL | exact Kn.lenLit rfl) size38 ?_ | refine RL.storeAgg _ rfl rfl RP (by rfl) (by first | (simp; done) | simp [IdT.vals]) (by first | (simp [Value.oneCell']; done) | simp [Value.oneCell', IdT.vals]) size38 ?_
   refine RL.nil ⟨keep_more (hs49) SB, ?_⟩
   refine HL.done KR ?_
   dsimp only [thenX]
   exact ⟨b13, us49, (by repeat (first | exact Keep.nil _ | refine Keep.cons _ rfl ?_)), hT, by first | exact hs49, hNc, hul49, hr49, fun _ hw => hw.sub SB⟩
  rintro _ M9 Γ9 ⟨b13, us49, hk9, hT, hs9, hNc, hul49, hr49, hG9⟩
  refine CW.pre ?_ hk9 hG9
  refine CW.addRds hr49 ?_
  refine CW.seq fun K11 hK11 => ?_
  refine CW.region ?_
  first | refine RL.q (Y.loadAllR rfl MM MM EL agg32) rfl ?_ | refine RL.q (Y.loadAll rfl MM (by rfl) agg32) rfl ?_ | refine RL.loadPart rfl rfl MM MM (by rfl) (by rfl) agg32 rfl fun us50 hul50 hur50 => ?_
  first | refine RL.q (Y.loadAllR rfl MM MM EL agg38) rfl ?_ | refine RL.q (Y.loadAll rfl MM (by rfl) agg38) rfl ?_ | refine RL.loadPart rfl rfl MM MM (by rfl) (by rfl) agg38 rfl fun us51 hul51 hur51 => ?_
  refine RL.q (Y.move rfl) rfl ?_
  refine RL.call rfl func17 rfl rfl (by exact value_ok _ _ _ (typesP l) _ (pickTy (around a 40) ((typesP l).defs.length : Nat)) _ l _ 14 (by exact Kn.rds MM) (by exact Kn.rds MM) (by exact Kn.rd MM) (pick_types l (around a 40)) (by decide) OM hli) ?_
  rintro v53 M53 _ ⟨hs53, rfl, us53, rfl, hr53⟩
  refine RL.addRds hr53 ?_
  have hul53 : us53.length = 3 := hr53.1.trans (Val.enc_len _)
  have hNc := hNc.mono hs53
  have hT := hT.trans hs53
  refine RL.alloc _ zero26 rfl rfl fun b14 => ?_
  first | refine RL.storeRds 3 rfl rfl RP MM EL (by first | exact Kn.lenRds MM EL | exact Kn.lenLit rfl) size26 ?_ | refine RL.storeAgg _ rfl rfl RP (by rfl) (by first | (simp; done) | simp [IdT.vals]) (by first | (simp [Value.oneCell']; done) | simp [Value.oneCell', IdT.vals]) size26 ?_
  refine RL.nil ?_
  refine hK11 _ _ _ ?_
  refine CW.kp [0, 1, 3, 12, 13, 14] rfl ?_
  obtain ⟨v, hv⟩ : ∃ v, v = valV (typesP l) 14 (pickTy (around a 40) ((typesP l).defs.length : Nat)) l := ⟨_, rfl⟩
  have hzv : v.size ≤ 256 := by rw [hv]; exact valV_small _ _ _ _
  rw [← hv] at hr53
  refine CW.addRds hr53 ?_
  refine CW.seq fun K12 hK12 => ?_
  refine CW.region ?_
  first | refine RL.q (Y.loadAllR rfl MM MM EL agg32) rfl ?_ | refine RL.q (Y.loadAll rfl MM (by rfl) agg32) rfl ?_ | refine RL.loadPart rfl rfl MM MM (by rfl) (by rfl) agg32 rfl fun us54 hul54 hur54 => ?_
  first | refine RL.q (Y.loadAllR rfl MM MM EL agg38) rfl ?_ | refine RL.q (Y.loadAll rfl MM (by rfl) agg38) rfl ?_ | refine RL.loadPart rfl rfl MM MM (by rfl) (by rfl) agg38 rfl fun us55 hul55 hur55 => ?_
  refine RL.q (Y.move rfl) rfl ?_
  refine RL.call rfl func17 rfl rfl (by exact value_ok _ _ _ (typesP l) _ (pickTy (around a 40) ((typesP l).defs.length : Nat)) _ m _ 14 (by exact Kn.rds MM) (by exact Kn.rds MM) (by exact Kn.rd MM) (pick_types l (around a 40)) (by decide) OM hmi) ?_
  rintro v57 M57 _ ⟨hs57, rfl, us57, rfl, hr57⟩
  refine RL.addRds hr57 ?_
  have hul57 : us57.length = 3 := hr57.1.trans (Val.enc_len _)
  have hNc := hNc.mono hs57
  have hT := hT.trans hs57
  refine RL.alloc _ zero26 rfl rfl fun b15 => ?_
  first | refine RL.storeRds 3 rfl rfl RP MM EL (by first | exact Kn.lenRds MM EL | exact Kn.lenLit rfl) size26 ?_ | refine RL.storeAgg _ rfl rfl RP (by rfl) (by first | (simp; done) | simp [IdT.vals]) (by first | (simp [Value.oneCell']; done) | simp [Value.oneCell', IdT.vals]) size26 ?_
  refine RL.nil ?_
  refine hK12 _ _ _ ?_
  refine CW.kp [0, 1, 14, 15] rfl ?_
  obtain ⟨w, hw⟩ : ∃ w, w = valV (typesP l) 14 (pickTy (around a 40) ((typesP l).defs.length : Nat)) m := ⟨_, rfl⟩
  have hzw : w.size ≤ 256 := by rw [hw]; exact valV_small _ _ _ _
  rw [← hw] at hr57
  have hvV := hr53.mono hs57
  have hwW := hr57
  have hz1 := node2_size (k := 4) (n := 0) hzv hzw
  have hz2 := node1_size (k := 4) (n := 0) hzw
  refine CW.seq fun K13 hK13 => ?_
  refine CW.region ?_
  first | refine RL.q (Y.loadAllR rfl MM MM EL agg26) rfl ?_ | refine RL.q (Y.loadAll rfl MM (by rfl) agg26) rfl ?_ | refine RL.loadPart rfl rfl MM MM (by rfl) (by rfl) agg26 rfl fun us58 hul58 hur58 => ?_
  first | refine RL.q (Y.loadAllR rfl MM MM EL agg26) rfl ?_ | refine RL.q (Y.loadAll rfl MM (by rfl) agg26) rfl ?_ | refine RL.loadPart rfl rfl MM MM (by rfl) (by rfl) agg26 rfl fun us59 hul59 hur59 => ?_
  refine RL.buildSlice (us53 ++ us57) elem24 rfl (by decide) (fill2 (out := us53) (out' := us57) rfl hul53 rfl hul57) rfl fun b60 => ?_
  refine RL.q (Y.build [_, _, _] rfl zero26 places26 (by rfl)) rfl ?_
  first | refine RL.q (Y.loadAllR rfl MM MM EL agg26) rfl ?_ | refine RL.q (Y.loadAll rfl MM (by rfl) agg26) rfl ?_ | refine RL.loadPart rfl rfl MM MM (by rfl) (by rfl) agg26 rfl fun us62 hul62 hur62 => ?_
  refine RL.buildSlice us57 elem24 rfl (by decide) (fill1 rfl hul57) rfl fun b63 => ?_
  refine RL.q (Y.build [_, _, _] rfl zero26 places26 (by rfl)) rfl ?_
  refine RL.buildSlice ([vint 4, vint 0, (.slice (some ⟨b60, 0, none⟩) 2 2)] ++ [vint 4, vint 0, (.slice (some ⟨b63, 0, none⟩) 1 1)]) elem24 rfl (by decide) (fill2 (out := [vint 4, vint 0, (.slice (some ⟨b60, 0, none⟩) 2 2)]) (out' := [vint 4, vint 0, (.slice (some ⟨b63, 0, none⟩) 1 1)]) rfl rfl rfl rfl) rfl fun b65 => ?_
  refine RL.q (Y.assign rfl) rfl ?_
  refine RL.nil ?_
  refine hK13 _ _ _ ?_
  refine CW.kp [0, 1, 14, 15, 16] rfl ?_
  refine CW.sealOwn (b := b60) (k := 2) (sz := 3) (ds := [v, w].flatMap Val.enc) PK (kids2 hvV hwW) (by simp [*]) (by unfold lim; omega) fun Mb60 hsb60 hrb60 => ?_
  have hNc := hNc.mono hsb60
  have hT := hT.trans hsb60
  refine CW.sealOwn (b := b63) (k := 1) (sz := 3) (ds := [w].flatMap Val.enc) PK (kids1 (hwW.mono hsb60)) (by simp [*]) (by unfold lim; omega) fun Mb63 hsb63 hrb63 => ?_
  have hNc := hNc.mono hsb63
  have hT := hT.trans hsb63
  refine CW.sealOwn (b := b65) (k := 2) (sz := 3) (ds := [(Val.mk 4 0 [v, w]), (Val.mk 4 0 [w])].flatMap Val.enc) PK (kids2 (node_rd 4 0 [v, w] (hrb60.mono hsb63)) (node_rd 4 0 [w] hrb63)) (by simp [*]) (by unfold lim; omega) fun Mb65 hsb65 hrb65 => ?_
  have hNc := hNc.mono hsb65
  have hT := hT.trans hsb65
  have hLL := hrb65
  have hL1 : Rd Mb65 (.sl 1 3 ([(Val.mk 4 0 [v, w])].flatMap Val.enc)) (.slice (some ⟨b65, 0, none⟩) 1 2) := Rd.takeN (l := [(Val.mk 4 0 [v, w]), (Val.mk 4 0 [w])]) Val.enc_len hrb65 1 (by simp)
  have hvV := hvV.mono (hsb60.trans (hsb63.trans hsb65))
  have hwW := hwW.mono (hsb60.trans (hsb63.trans hsb65))
  have hQ := Sub.refl Mb65
  refine CW.seq fun K14 hK14 => ?_
  refine CW.region ?_
  refine RL.q (Y.move rfl) rfl ?_
  refine RL.callv rfl func16 rfl rfl (by exact around_ok _ _ _ _ _ AO AO) ?_
  refine RL.q (Y.build [vint 1, vint (around a 2), .slice none 0 0] rfl zero26 places26 (by rfl)) rfl ?_
  refine RL.alloc _ zero26 rfl rfl fun b17 => ?_
  refine RL.storeAgg [vint 1, vint (around a 2), .slice none 0 0] rfl rfl RP (by rfl) (by first | (simp; done) | simp [IdT.vals]) (by first | (simp [Value.oneCell']; done) | simp [Value.oneCell', IdT.vals]) size26 ?_
  refine RL.nil ?_
  refine hK14 _ _ _ ?_
  refine CW.kp [1, 14, 15, 16, 17] rfl ?_
  refine CW.seq fun K15 hK15 => ?_
  refine CW.region ?_
  refine RL.q (Y.move rfl) rfl ?_
  refine RL.callv rfl func16 rfl rfl (by exact around_ok _ _ _ _ _ AO AO) ?_
  refine RL.q (Y.build [vint 1, vint (around b 2), .slice none 0 0] rfl zero26 places26 (by rfl)) rfl ?_
  refine RL.alloc _ zero26 rfl rfl fun b18 => ?_
  refine RL.storeAgg [vint 1, vint (around b 2), .slice none 0 0] rfl rfl RP (by rfl) (by first | (simp; done) | simp [IdT.vals]) (by first | (simp [Value.oneCell']; done) | simp [Value.oneCell', IdT.vals]) size26 ?_
  refine RL.nil ?_
  refine hK15 _ _ _ ?_
  refine CW.kp [14, 15, 16, 17, 18] rfl ?_
  refine CW.seq fun K16 hK16 => ?_
  refine CW.cut (fun L' M' Γ' => Keep L' [(17, ptrB b17), (18, ptrB b18), (97, .bool false)] ∧ Sub M M' ∧ NumsM M' ∧ ∀ w, St w0 M' Γ' w → St w0 M' (.own b18 26 [vint 1, vint (around b 2), .slice none 0 0] :: .own b17 26 [vint 1, vint (around a 2), .slice none 0 0] :: Γ) w) ?_ ?_
  ·refine CW.regionH mix _ _ (fun _ hw => hw) ?_
   first | refine HL.take 0 rfl KR KR KR rfl (Y.loadAllR rfl MM MM EL agg26) rfl ?_ | refine HL.take 0 rfl KR KR KR rfl (Y.loadAll rfl MM (by rfl) agg26) rfl ?_ | refine HL.loadPart 0 rfl KR KR KR rfl rfl MM MM (by rfl) (by rfl) agg26 rfl fun us72 hul72 hur72 => ?_
   first | refine HL.take 1 rfl KR KR KR rfl (Y.loadAllR rfl MM MM EL agg26) rfl ?_ | refine HL.take 1 rfl KR KR KR rfl (Y.loadAll rfl MM (by rfl) agg26) rfl ?_ | refine HL.loadPart 1 rfl KR KR KR rfl rfl MM MM (by rfl) (by rfl) agg26 rfl fun us73 hul73 hur73 => ?_
   first | refine HL.take 4 rfl KR KR KR rfl (Y.loadAllR rfl MM MM EL agg26) rfl ?_ | refine HL.take 4 rfl KR KR KR rfl (Y.loadAll rfl MM (by rfl) agg26) rfl ?_ | refine HL.loadPart 4 rfl KR KR KR rfl rfl MM MM (by rfl) (by rfl) agg26 rfl fun us76 hul76 hur76 => ?_
   first | refine HL.take 5 rfl KR KR KR rfl (Y.loadAllR rfl MM MM EL agg26) rfl ?_ | refine HL.take 5 rfl KR KR KR rfl (Y.loadAll rfl MM (by rfl) agg26) rfl ?_ | refine HL.loadPart 5 rfl KR KR KR rfl rfl MM MM (by rfl) (by rfl) agg26 rfl fun us77 hul77 hur77 => ?_
   refine HL.step2 2 6 rfl rfl KR ?_ ?_
   ·refine RL.buildSlice (us53 ++ us57) elem24 rfl (by decide) (fill2 (out := us53) (out' := us57) rfl hul53 rfl hul57) rfl fun b74 => ?_
    refine RL.nil ⟨keep_same SB, ?_⟩
    refine HL.step2 3 6 rfl rfl KR ?_ ?_
    ·refine RL.sealOwn (b := b74) (k := 2) (sz := 3) (ds := [v, w].flatMap Val.enc) PK (kids2 (hvV.mono hQ) (hwW.mono hQ)) (by simp [*]) (by unfold lim; omega) fun Mb74 hsb74 hrb74 => ?_
     have hNc := hNc.mono hsb74
     have hT := hT.trans hsb74
     have hQ := hQ.trans hsb74
     refine RL.call rfl func12 rfl rfl (by exact op_ok _ _ _ 6 [v, w] _ _ (Kn.of hrb74) hNc (by intro z hz; simp only [List.mem_cons, List.not_mem_nil, or_false] at hz; rcases hz with rfl | rfl <;> first | exact Nat.le_of_ble_eq_true rfl | omega) (op_same v w)) ?_
     rintro v75 M75 _ ⟨hx75, rfl, us75, rfl, hr75⟩
     have hs75 := hsb74.trans hx75
     have hNc := hNc.mono hx75
     have hT := hT.trans hx75
     have hQ := hQ.trans hx75
     refine RL.addRds hr75 ?_
     have hul75 : us75.length = 3 := hr75.1.trans (Val.enc_len _)
     refine RL.nil ⟨keep_more (hs75) SB, ?_⟩
     refine HL.step 6 rfl KR ?_
     refine RL.buildSlice (us53 ++ us57) elem24 rfl (by decide) (fill2 (out := us53) (out' := us57) rfl hul53 rfl hul57) rfl fun b78 => ?_
     refine RL.nil ⟨keep_more (hs75) SB, ?_⟩
     refine HL.step 7 rfl KR ?_
     refine RL.sealOwn (b := b78) (k := 2) (sz := 3) (ds := [v, w].flatMap Val.enc) PK (kids2 (hvV.mono hQ) (hwW.mono hQ)) (by simp [*]) (by unfold lim; omega) fun Mb78 hsb78 hrb78 => ?_
     have hNc := hNc.mono hsb78
     have hT := hT.trans hsb78
     have hQ := hQ.trans hsb78
     refine RL.call rfl func13 rfl rfl (by exact rop2_ok _ _ _ 6 [v, w] _ _ (Kn.of hrb78) rfl OM (by show v.size ≤ _; omega) (by show w.size ≤ _; omega) (op_same v w) (by intro h; omega)) ?_
     rintro v79 M79 _ ⟨hx79, rfl, us79, rfl, hr79⟩
     have hs79 := hsb78.trans hx79
     have hNc := hNc.mono hx79
     have hT := hT.trans hx79
     have hQ := hQ.trans hx79
     refine RL.addRds hr79 ?_
     have hul79 : us79.length = 3 := hr79.1.trans (Val.enc_len _)
     refine RL.nil ⟨keep_more (hs75.trans (hs79)) SB, ?_⟩
     refine HL.step 8 rfl KR ?_
     refine RL.callv rfl func11 rfl rfl (by exact CallOk.val (same_ok _ _ _ (truthV (cmpV v w = 0)) us75 (truthV (cmpV v w = 0)) us79 (by exact Kn.rds MM) (Kn.of hr79)) (v' := .bool true) (congrArg Value.bool (decide_eq_true (cmpV_self _)))) ?_
     refine RL.nil ⟨keep_more (hs75.trans (hs79)) SB, ?_⟩
     refine HL.take 9 rfl KR KR KR rfl (Y.not rfl) rfl ?_
     refine HL.take 10 rfl KR KR KR rfl (Y.move rfl) rfl ?_
     refine HL.take 11 rfl KR KR KR WG (Y.move rfl) rfl ?_
     refine HL.take 13 rfl KR KR KR WG (Y.move rfl) rfl ?_
     refine HL.step 12 rfl KR ?_
     refine RL.call WG func12 rfl rfl (by exact op_ok _ _ _ 10 [(Val.mk 4 0 [v, w]), (Val.mk 4 0 [w])] _ _ (Kn.of (hLL.mono hQ)) hNc (by intro z hz; simp only [List.mem_cons, List.not_mem_nil, or_false] at hz; rcases hz with rfl | rfl <;> first | exact Nat.le_of_ble_eq_true rfl | omega) (op_join _ _)) ?_
     rintro v84 M84 _ ⟨hx84, rfl, us84, rfl, hr84⟩
     have hs84 := hx84
     have hNc := hNc.mono hx84
     have hT := hT.trans hx84
     have hQ := hQ.trans hx84
     refine RL.addRds hr84 ?_
     have hul84 : us84.length = 3 := hr84.1.trans (Val.enc_len _)
     refine RL.nil ⟨keep_more (hs75.trans (hs79.trans (hs84))) SB, ?_⟩
     refine HL.step 14 rfl KR ?_
     refine RL.call WG func13 rfl rfl (by exact rop2_ok _ _ _ 10 [(Val.mk 4 0 [v, w]), (Val.mk 4 0 [w])] _ _ (Kn.of (hLL.mono hQ)) rfl OM (by show Val.size (Val.mk 4 0 [v, w]) ≤ _; omega) (by show Val.size (Val.mk 4 0 [w]) ≤ _; omega) (op_join _ _) (by intro h; omega)) ?_
     rintro v86 M86 _ ⟨hx86, rfl, us86, rfl, hr86⟩
     have hs86 := hx86
     have hNc := hNc.mono hx86
     have hT := hT.trans hx86
     have hQ := hQ.trans hx86
     refine RL.addRds hr86 ?_
     have hul86 : us86.length = 3 := hr86.1.trans (Val.enc_len _)
     refine RL.nil ⟨keep_more (hs75.trans (hs79.trans (hs84.trans (hs86)))) SB, ?_⟩
     refine HL.step 15 rfl KR ?_
     refine RL.callv WG func11 rfl rfl (by exact CallOk.val (same_ok _ _ _ (Val.mk 4 0 ((Val.mk 4 0 [v, w]).kids ++ (Val.mk 4 0 [w]).kids)) us84 (Val.mk 4 0 ((Val.mk 4 0 [v, w]).kids ++ (Val.mk 4 0 [w]).kids)) us86 (by exact Kn.rds MM) (by exact Kn.rds MM)) (v' := .bool true) (congrArg Value.bool (decide_eq_true (cmpV_self _)))) ?_
     refine RL.nil ⟨keep_more (hs75.trans (hs79.trans (hs84.trans (hs86)))) SB, ?_⟩
     refine HL.take 16 rfl KR KR KR WG (Y.not rfl) rfl ?_
     refine HL.take 17 rfl KR KR KR rfl (Y.pickF rfl rfl) rfl ?_
     refine HL.take 18 rfl KR KR KR rfl (Y.move rfl) rfl ?_
     refine HL.take 19 rfl KR KR KR WG (Y.move rfl) rfl ?_
     refine HL.take 20 rfl KR KR KR WG (Y.slice0 1 2 rfl ⟨1, rfl, rfl⟩ rfl (.inl rfl) OM OM slice24) rfl ?_
     refine HL.take 22 rfl KR KR KR WG (Y.build [vint 0, vint 2, .slice none 0 0] rfl zero26 places26 (by rfl)) rfl ?_
     refine HL.step 21 rfl KR ?_
     refine RL.call WG func12 rfl rfl (by exact op_ok _ _ _ 11 [(Val.mk 4 0 [v, w])] _ (vnum 2) (Kn.of (hL1.mono hQ)) hNc (by intro z hz; simp only [List.mem_cons, List.not_mem_nil, or_false] at hz; rcases hz with rfl; first | exact Nat.le_of_ble_eq_true rfl | omega) rfl) ?_
     rintro v93 M93 _ ⟨hx93, rfl, us93, rfl, hr93⟩
     have hs93 := hx93
     have hNc := hNc.mono hx93
     have hT := hT.trans hx93
     have hQ := hQ.trans hx93
     refine RL.addRds hr93 ?_
     have hul93 : us93.length = 3 := hr93.1.trans (Val.enc_len _)
     refine RL.nil ⟨keep_more (hs75.trans (hs79.trans (hs84.trans (hs86.trans (hs93))))) SB, ?_⟩
     refine HL.step 23 rfl KR ?_
     refine RL.callv WG func11 rfl rfl (by exact CallOk.val (same_ok _ _ _ (vnum 2) _ (vnum 2) _ (Kn.of hr93) (Kn.of (leaf_rd 0 2))) (v' := .bool true) (congrArg Value.bool (decide_eq_true (cmpV_self _)))) ?_
     refine RL.nil ⟨keep_more (hs75.trans (hs79.trans (hs84.trans (hs86.trans (hs93))))) SB, ?_⟩
     refine HL.take 24 rfl KR KR KR WG (Y.not rfl) rfl ?_
     refine HL.take 25 rfl KR KR KR rfl (Y.pickF rfl rfl) rfl ?_
     refine HL.done KR ?_
     dsimp only [thenX]
     exact ⟨(by repeat (first | exact Keep.nil _ | refine Keep.cons _ rfl ?_)), hT, hNc, fun _ hw => hw.sub SB⟩
    refine RL.buildSlice (us53 ++ us57) elem24 rfl (by decide) (fill2 (out := us53) (out' := us57) rfl hul53 rfl hul57) rfl fun b78 => ?_
    refine RL.nil ⟨keep_same SB, ?_⟩
    refine HL.step 3 rfl KR ?_
    refine RL.sealOwn (b := b74) (k := 2) (sz := 3) (ds := [v, w].flatMap Val.enc) PK (kids2 (hvV.mono hQ) (hwW.mono hQ)) (by simp [*]) (by unfold lim; omega) fun Mb74 hsb74 hrb74 => ?_
    have hNc := hNc.mono hsb74
    have hT := hT.trans hsb74
    have hQ := hQ.trans hsb74
    refine RL.call rfl func12 rfl rfl (by exact op_ok _ _ _ 6 [v, w] _ _ (Kn.of hrb74) hNc (by intro z hz; simp only [List.mem_cons, List.not_mem_nil, or_false] at hz; rcases hz with rfl | rfl <;> first | exact Nat.le_of_ble_eq_true rfl | omega) (op_same v w)) ?_
    rintro v75 M75 _ ⟨hx75, rfl, us75, rfl, hr75⟩
    have hs75 := hsb74.trans hx75
    have hNc := hNc.mono hx75
    have hT := hT.trans hx75
    have hQ := hQ.trans hx75
    refine RL.addRds hr75 ?_
    have hul75 : us75.length = 3 := hr75.1.trans (Val.enc_len _)
    refine RL.nil ⟨keep_more (hs75) SB, ?_⟩
    refine HL.step 7 rfl KR ?_
    refine RL.sealOwn (b := b78) (k := 2) (sz := 3) (ds := [v, w].flatMap Val.enc) PK (kids2 (hvV.mono hQ) (hwW.mono hQ)) (by simp [*]) (by unfold lim; omega) fun Mb78 hsb78 hrb78 => ?_
    have hNc := hNc.mono hsb78
    have hT := hT.trans hsb78
    have hQ := hQ.trans hsb78
    refine RL.call rfl func13 rfl rfl (by exact rop2_ok _ _ _ 6 [v, w] _ _ (Kn.of hrb78) rfl OM (by show v.size ≤ _; omega) (by show w.size ≤ _; omega) (op_same v w) (by intro h; omega)) ?_
    rintro v79 M79 _ ⟨hx79, rfl, us79, rfl, hr79⟩
    have hs79 := hsb78.trans hx79
    have hNc := hNc.mono hx79
    have hT := hT.trans hx79
    have hQ := hQ.trans hx79
    refine RL.addRds hr79 ?_
    have hul79 : us79.length = 3 := hr79.1.trans (Val.enc_len _)
    refine RL.nil ⟨keep_more (hs75.trans (hs79)) SB, ?_⟩
    refine HL.step 8 rfl KR ?_
    refine RL.callv rfl func11 rfl rfl (by exact CallOk.val (same_ok _ _ _ (truthV (cmpV v w = 0)) us75 (truthV (cmpV v w = 0)) us79 (by exact Kn.rds MM) (Kn.of hr79)) (v' := .bool true) (congrArg Value.bool (decide_eq_true (cmpV_self _)))) ?_
    refine RL.nil ⟨keep_more (hs75.trans (hs79)) SB, ?_⟩
    refine HL.take 9 rfl KR KR KR rfl (Y.not rfl) rfl ?_
    refine HL.take 10 rfl KR KR KR rfl (Y.move rfl) rfl ?_
    refine HL.take 11 rfl KR KR KR WG (Y.move rfl) rfl ?_
    refine HL.take 13 rfl KR KR KR WG (Y.move rfl) rfl ?_
    refine HL.step 12 rfl KR ?_
    refine RL.call WG func12 rfl rfl (by exact op_ok _ _ _ 10 [(Val.mk 4 0 [v, w]), (Val.mk 4 0 [w])] _ _ (Kn.of (hLL.mono hQ)) hNc (by intro z hz; simp only [List.mem_cons, List.not_mem_nil, or_false] at hz; rcases hz with rfl | rfl <;> first | exact Nat.le_of_ble_eq_true rfl | omega) (op_join _ _)) ?_
    rintro v84 M84 _ ⟨hx84, rfl, us84, rfl, hr84⟩
    have hs84 := hx84
    have hNc := hNc.mono hx84
    have hT := hT.trans hx84
    have hQ := hQ.trans hx84
    refine RL.addRds hr84 ?_
    have hul84 : us84.length = 3 := hr84.1.trans (Val.enc_len _)
    refine RL.nil ⟨keep_more (hs75.trans (hs79.trans (hs84))) SB, ?_⟩
    refine HL.step 14 rfl KR ?_
    refine RL.call WG func13 rfl rfl (by exact rop2_ok _ _ _ 10 [(Val.mk 4 0 [v, w]), (Val.mk 4 0 [w])] _ _ (Kn.of (hLL.mono hQ)) rfl OM (by show Val.size (Val.mk 4 0 [v, w]) ≤ _; omega) (by show Val.size (Val.mk 4 0 [w]) ≤ _; omega) (op_join _ _) (by intro h; omega)) ?_
    rintro v86 M86 _ ⟨hx86, rfl, us86, rfl, hr86⟩
    have hs86 := hx86
    have hNc := hNc.mono hx86
    have hT := hT.trans hx86
    have hQ := hQ.trans hx86
    refine RL.addRds hr86 ?_
    have hul86 : us86.length = 3 := hr86.1.trans (Val.enc_len _)
    refine RL.nil ⟨keep_more (hs75.trans (hs79.trans (hs84.trans (hs86)))) SB, ?_⟩
    refine HL.step 15 rfl KR ?_
    refine RL.callv WG func11 rfl rfl (by exact CallOk.val (same_ok _ _ _ (Val.mk 4 0 ((Val.mk 4 0 [v, w]).kids ++ (Val.mk 4 0 [w]).kids)) us84 (Val.mk 4 0 ((Val.mk 4 0 [v, w]).kids ++ (Val.mk 4 0 [w]).kids)) us86 (by exact Kn.rds MM) (by exact Kn.rds MM)) (v' := .bool true) (congrArg Value.bool (decide_eq_true (cmpV_self _)))) ?_
    refine RL.nil ⟨keep_more (hs75.trans (hs79.trans (hs84.trans (hs86)))) SB, ?_⟩
    refine HL.take 16 rfl KR KR KR WG (Y.not rfl) rfl ?_
    refine HL.take 17 rfl KR KR KR rfl (Y.pickF rfl rfl) rfl ?_
    refine HL.take 18 rfl KR KR KR rfl (Y.move rfl) rfl ?_
    refine HL.take 19 rfl KR KR KR WG (Y.move rfl) rfl ?_
    refine HL.take 20 rfl KR KR KR WG (Y.slice0 1 2 rfl ⟨1, rfl, rfl⟩ rfl (.inl rfl) OM OM slice24) rfl ?_
    refine HL.take 22 rfl KR KR KR WG (Y.build [vint 0, vint 2, .slice none 0 0] rfl zero26 places26 (by rfl)) rfl ?_
    refine HL.step 21 rfl KR ?_
    refine RL.call WG func12 rfl rfl (by exact op_ok _ _ _ 11 [(Val.mk 4 0 [v, w])] _ (vnum 2) (Kn.of (hL1.mono hQ)) hNc (by intro z hz; simp only [List.mem_cons, List.not_mem_nil, or_false] at hz; rcases hz with rfl; first | exact Nat.le_of_ble_eq_true rfl | omega) rfl) ?_
    rintro v93 M93 _ ⟨hx93, rfl, us93, rfl, hr93⟩
    have hs93 := hx93
    have hNc := hNc.mono hx93
    have hT := hT.trans hx93
    have hQ := hQ.trans hx93
    refine RL.addRds hr93 ?_
    have hul93 : us93.length = 3 := hr93.1.trans (Val.enc_len _)
    refine RL.nil ⟨keep_more (hs75.trans (hs79.trans (hs84.trans (hs86.trans (hs93))))) SB, ?_⟩
    refine HL.step 23 rfl KR ?_
    refine RL.callv WG func11 rfl rfl (by exact CallOk.val (same_ok _ _ _ (vnum 2) _ (vnum 2) _ (Kn.of hr93) (Kn.of (leaf_rd 0 2))) (v' := .bool true) (congrArg Value.bool (decide_eq_true (cmpV_self _)))) ?_
    refine RL.nil ⟨keep_more (hs75.trans (hs79.trans (hs84.trans (hs86.trans (hs93))))) SB, ?_⟩
    refine HL.take 24 rfl KR KR KR WG (Y.not rfl) rfl ?_
    refine HL.take 25 rfl KR KR KR rfl (Y.pickF rfl rfl) rfl ?_
    refine HL.done KR ?_
    dsimp only [thenX]
    exact ⟨(by repeat (first | exact Keep.nil _ | refine Keep.cons _ rfl ?_)), hT, hNc, fun _ hw => hw.sub SB⟩
   refine RL.buildSlice (us53 ++ us57) elem24 rfl (by decide) (fill2 (out := us53) (out' := us57) rfl hul53 rfl hul57) rfl fun b78 => ?_
   refine RL.nil ⟨keep_same SB, ?_⟩
   refine HL.step 2 rfl KR ?_
   refine RL.buildSlice (us53 ++ us57) elem24 rfl (by decide) (fill2 (out := us53) (out' := us57) rfl hul53 rfl hul57) rfl fun b74 => ?_
   refine RL.nil ⟨keep_same SB, ?_⟩
   refine HL.step 3 rfl KR ?_
   refine RL.sealOwn (b := b74) (k := 2) (sz := 3) (ds := [v, w].flatMap Val.enc) PK (kids2 (hvV.mono hQ) (hwW.mono hQ)) (by simp [*]) (by unfold lim; omega) fun Mb74 hsb74 hrb74 => ?_
   have hNc := hNc.mono hsb74
   have hT := hT.trans hsb74
   have hQ := hQ.trans hsb74
   refine RL.call rfl func12 rfl rfl (by exact op_ok _ _ _ 6 [v, w] _ _ (Kn.of hrb74) hNc (by intro z hz; simp only [List.mem_cons, List.not_mem_nil, or_false] at hz; rcases hz with rfl | rfl <;> first | exact Nat.le_of_ble_eq_true rfl | omega) (op_same v w)) ?_
   rintro v75 M75 _ ⟨hx75, rfl, us75, rfl, hr75⟩
   have hs75 := hsb74.trans hx75
   have hNc := hNc.mono hx75
   have hT := hT.trans hx75
   have hQ := hQ.trans hx75
   refine RL.addRds hr75 ?_
   have hul75 : us75.length = 3 := hr75.1.trans (Val.enc_len _)
   refine RL.nil ⟨keep_more (hs75) SB, ?_⟩
   refine HL.step 7 rfl KR ?_
   refine RL.sealOwn (b := b78) (k := 2) (sz := 3) (ds := [v, w].flatMap Val.enc) PK (kids2 (hvV.mono hQ) (hwW.mono hQ)) (by simp [*]) (by unfold lim; omega) fun Mb78 hsb78 hrb78 => ?_
   have hNc := hNc.mono hsb78
   have hT := hT.trans hsb78
   have hQ := hQ.trans hsb78
   refine RL.call rfl func13 rfl rfl (by exact rop2_ok _ _ _ 6 [v, w] _ _ (Kn.of hrb78) rfl OM (by show v.size ≤ _; omega) (by show w.size ≤ _; omega) (op_same v w) (by intro h; omega)) ?_
   rintro v79 M79 _ ⟨hx79, rfl, us79, rfl, hr79⟩
   have hs79 := hsb78.trans hx79
   have hNc := hNc.mono hx79
   have hT := hT.trans hx79
   have hQ := hQ.trans hx79
   refine RL.addRds hr79 ?_
   have hul79 : us79.length = 3 := hr79.1.trans (Val.enc_len _)
   refine RL.nil ⟨keep_more (hs75.trans (hs79)) SB, ?_⟩
   refine HL.step 8 rfl KR ?_
   refine RL.callv rfl func11 rfl rfl (by exact CallOk.val (same_ok _ _ _ (truthV (cmpV v w = 0)) us75 (truthV (cmpV v w = 0)) us79 (by exact Kn.rds MM) (Kn.of hr79)) (v' := .bool true) (congrArg Value.bool (decide_eq_true (cmpV_self _)))) ?_
   refine RL.nil ⟨keep_more (hs75.trans (hs79)) SB, ?_⟩
   refine HL.take 9 rfl KR KR KR rfl (Y.not rfl) rfl ?_
   refine HL.take 10 rfl KR KR KR rfl (Y.move rfl) rfl ?_
   refine HL.take 11 rfl KR KR KR WG (Y.move rfl) rfl ?_
   refine HL.take 13 rfl KR KR KR WG (Y.move rfl) rfl ?_
   refine HL.step 12 rfl KR ?_
   refine RL.call WG func12 rfl rfl (by exact op_ok _ _ _ 10 [(Val.mk 4 0 [v, w]), (Val.mk 4 0 [w])] _ _ (Kn.of (hLL.mono hQ)) hNc (by intro z hz; simp only [List.mem_cons, List.not_mem_nil, or_false] at hz; rcases hz with rfl | rfl <;> first | exact Nat.le_of_ble_eq_true rfl | omega) (op_join _ _)) ?_
   rintro v84 M84 _ ⟨hx84, rfl, us84, rfl, hr84⟩
   have hs84 := hx84
   have hNc := hNc.mono hx84
   have hT := hT.trans hx84
   have hQ := hQ.trans hx84
   refine RL.addRds hr84 ?_
   have hul84 : us84.length = 3 := hr84.1.trans (Val.enc_len _)
   refine RL.nil ⟨keep_more (hs75.trans (hs79.trans (hs84))) SB, ?_⟩
   refine HL.step 14 rfl KR ?_
   refine RL.call WG func13 rfl rfl (by exact rop2_ok _ _ _ 10 [(Val.mk 4 0 [v, w]), (Val.mk 4 0 [w])] _ _ (Kn.of (hLL.mono hQ)) rfl OM (by show Val.size (Val.mk 4 0 [v, w]) ≤ _; omega) (by show Val.size (Val.mk 4 0 [w]) ≤ _; omega) (op_join _ _) (by intro h; omega)) ?_
   rintro v86 M86 _ ⟨hx86, rfl, us86, rfl, hr86⟩
   have hs86 := hx86
   have hNc := hNc.mono hx86
   have hT := hT.trans hx86
   have hQ := hQ.trans hx86
   refine RL.addRds hr86 ?_
   have hul86 : us86.length = 3 := hr86.1.trans (Val.enc_len _)
   refine RL.nil ⟨keep_more (hs75.trans (hs79.trans (hs84.trans (hs86)))) SB, ?_⟩
   refine HL.step 15 rfl KR ?_
   refine RL.callv WG func11 rfl rfl (by exact CallOk.val (same_ok _ _ _ (Val.mk 4 0 ((Val.mk 4 0 [v, w]).kids ++ (Val.mk 4 0 [w]).kids)) us84 (Val.mk 4 0 ((Val.mk 4 0 [v, w]).kids ++ (Val.mk 4 0 [w]).kids)) us86 (by exact Kn.rds MM) (by exact Kn.rds MM)) (v' := .bool true) (congrArg Value.bool (decide_eq_true (cmpV_self _)))) ?_
   refine RL.nil ⟨keep_more (hs75.trans (hs79.trans (hs84.trans (hs86)))) SB, ?_⟩
   refine HL.take 16 rfl KR KR KR WG (Y.not rfl) rfl ?_
   refine HL.take 17 rfl KR KR KR rfl (Y.pickF rfl rfl) rfl ?_
   refine HL.take 18 rfl KR KR KR rfl (Y.move rfl) rfl ?_
   refine HL.take 19 rfl KR KR KR WG (Y.move rfl) rfl ?_
   refine HL.take 20 rfl KR KR KR WG (Y.slice0 1 2 rfl ⟨1, rfl, rfl⟩ rfl (.inl rfl) OM OM slice24) rfl ?_
   refine HL.take 22 rfl KR KR KR WG (Y.build [vint 0, vint 2, .slice none 0 0] rfl zero26 places26 (by rfl)) rfl ?_
   refine HL.step 21 rfl KR ?_
   refine RL.call WG func12 rfl rfl (by exact op_ok _ _ _ 11 [(Val.mk 4 0 [v, w])] _ (vnum 2) (Kn.of (hL1.mono hQ)) hNc (by intro z hz; simp only [List.mem_cons, List.not_mem_nil, or_false] at hz; rcases hz with rfl; first | exact Nat.le_of_ble_eq_true rfl | omega) rfl) ?_
   rintro v93 M93 _ ⟨hx93, rfl, us93, rfl, hr93⟩
   have hs93 := hx93
   have hNc := hNc.mono hx93
   have hT := hT.trans hx93
   have hQ := hQ.trans hx93
   refine RL.addRds hr93 ?_
   have hul93 : us93.length = 3 := hr93.1.trans (Val.enc_len _)
   refine RL.nil ⟨keep_more (hs75.trans (hs79.trans (hs84.trans (hs86.trans (hs93))))) SB, ?_⟩
   refine HL.step 23 rfl KR ?_
   refine RL.callv WG func11 rfl rfl (by exact CallOk.val (same_ok _ _ _ (vnum 2) _ (vnum 2) _ (Kn.of hr93) (Kn.of (leaf_rd 0 2))) (v' := .bool true) (congrArg Value.bool (decide_eq_true (cmpV_self _)))) ?_
   refine RL.nil ⟨keep_more (hs75.trans (hs79.trans (hs84.trans (hs86.trans (hs93))))) SB, ?_⟩
   refine HL.take 24 rfl KR KR KR WG (Y.not rfl) rfl ?_
   refine HL.take 25 rfl KR KR KR rfl (Y.pickF rfl rfl) rfl ?_
   refine HL.done KR ?_
   dsimp only [thenX]
   exact ⟨(by repeat (first | exact Keep.nil _ | refine Keep.cons _ rfl ?_)), hT, hNc, fun _ hw => hw.sub SB⟩
  rintro _ M15 Γ15 ⟨hk15, hT, hNc, hG15⟩
  refine CW.pre ?_ hk15 hG15
  refine CW.no rfl ?_
  refine CW.skip ?_
  refine hK16 _ _ _ ?_
  refine CW.seq fun K17 hK17 => ?_
  refine CW.seq fun K18 hK18 => ?_
  refine CW.region ?_
  refine RL.q (Y.assign rfl) rfl ?_
  refine RL.nil ?_
  refine hK18 _ _ _ ?_
  refine CW.kp [17, 18, 19] rfl ?_
  refine CW.block ?_
  -- LOOP 2: live [17, 18, 19] changed [19]
  refine CW.kp [19, 17, 18] rfl ?_
  refine CW.loopF (fun mm Lc M1 Γc => ∃ n : Int, mm = (9 - n).toNat ∧ 7 ≤ n ∧ n ≤ 9 ∧ Lc = [(19, vint n)] ∧ Γc = [] ∧ NumsM M1 ∧ Sub M M1) 2 [(19, _)] [] rfl rfl ⟨7, rfl, by omega, by omega, rfl, rfl, hNc, hT⟩ ?_
  rintro mm Lc M2 Γc hsq ⟨n, rfl, hn0, hn1, rfl, rfl, hNc, hT⟩
  refine CW.seq fun K19 hK19 => ?_
  refine CW.seq fun K20 hK20 => ?_
  refine CW.region ?_
  refine RL.q (Y.move rfl) rfl ?_
  refine RL.q (Y.leq rfl rfl) rfl ?_
  refine RL.nil ?_
  refine hK20 _ _ _ ?_
  refine CW.kp [17, 18, 19, 99] rfl ?_
  refine CW.ite rfl (fun h4 => ?_) (fun h4 => ?_)
  ·obtain ⟨r, hr⟩ := op_andor (n := n) OM (Val.mk 1 (around a 2) []) (Val.mk 1 (around b 2) [])
   refine CW.skip ?_
   refine hK19 _ _ _ ?_
   refine CW.seq fun K21 hK21 => ?_
   refine CW.block ?_
   refine CW.seq fun K22 hK22 => ?_
   refine CW.regionH mix _ _ (fun _ hw => hw) ?_
   refine HL.take 0 rfl KR KR KR rfl (Y.move rfl) rfl ?_
   first | refine HL.take 1 rfl KR KR KR rfl (Y.loadAllR rfl MM MM EL agg26) rfl ?_ | refine HL.take 1 rfl KR KR KR rfl (Y.loadAll rfl MM (by rfl) agg26) rfl ?_ | refine HL.loadPart 1 rfl KR KR KR rfl rfl MM MM (by rfl) (by rfl) agg26 rfl fun us103 hul103 hur103 => ?_
   first | refine HL.take 2 rfl KR KR KR rfl (Y.loadAllR rfl MM MM EL agg26) rfl ?_ | refine HL.take 2 rfl KR KR KR rfl (Y.loadAll rfl MM (by rfl) agg26) rfl ?_ | refine HL.loadPart 2 rfl KR KR KR rfl rfl MM MM (by rfl) (by rfl) agg26 rfl fun us104 hul104 hur104 => ?_
   refine HL.take 5 rfl KR KR KR rfl (Y.move rfl) rfl ?_
   first | refine HL.take 6 rfl KR KR KR rfl (Y.loadAllR rfl MM MM EL agg26) rfl ?_ | refine HL.take 6 rfl KR KR KR rfl (Y.loadAll rfl MM (by rfl) agg26) rfl ?_ | refine HL.loadPart 6 rfl KR KR KR rfl rfl MM MM (by rfl) (by rfl) agg26 rfl fun us108 hul108 hur108 => ?_
   first | refine HL.take 7 rfl KR KR KR rfl (Y.loadAllR rfl MM MM EL agg26) rfl ?_ | refine HL.take 7 rfl KR KR KR rfl (Y.loadAll rfl MM (by rfl) agg26) rfl ?_ | refine HL.loadPart 7 rfl KR KR KR rfl rfl MM MM (by rfl) (by rfl) agg26 rfl fun us109 hul109 hur109 => ?_
   refine HL.step2 3 8 rfl rfl KR ?_ ?_
   ·refine RL.buildSlice ([vint 1, vint (around a 2), .slice none 0 0] ++ [vint 1, vint (around b 2), .slice none 0 0]) elem24 rfl (by decide) (fill2 (out := [vint 1, vint (around a 2), .slice none 0 0]) (out' := [vint 1, vint (around b 2), .slice none 0 0]) rfl rfl rfl rfl) rfl fun b105 => ?_
    refine RL.nil ⟨keep_same SB, ?_⟩
    refine HL.step2 4 8 rfl rfl KR ?_ ?_
    ·refine RL.sealOwn (b := b105) (k := 2) (sz := 3) (ds := [(Val.mk 1 (around a 2) []), (Val.mk 1 (around b 2) [])].flatMap Val.enc) PK (kids2 (leaf_rd _ _) (leaf_rd _ _)) (by simp [*]) (by unfold lim; omega) fun Mb105 hsb105 hrb105 => ?_
     have hNc := hNc.mono hsb105
     have hT := hT.trans hsb105
     refine RL.call rfl func12 rfl rfl (by exact op_ok _ _ _ n [(Val.mk 1 (around a 2) []), (Val.mk 1 (around b 2) [])] _ r (Kn.of hrb105) hNc (by intro z hz; simp only [List.mem_cons, List.not_mem_nil, or_false] at hz; rcases hz with rfl | rfl <;> first | exact Nat.le_of_ble_eq_true rfl | omega) hr) ?_
     rintro v106 M106 _ ⟨hx106, rfl, us106, rfl, hr106⟩
     have hs106 := hsb105.trans hx106
     have hNc := hNc.mono hx106
     have hT := hT.trans hx106
     refine RL.addRds hr106 ?_
     have hul106 : us106.length = 3 := hr106.1.trans (Val.enc_len _)
     refine RL.nil ⟨keep_more (hs106) SB, ?_⟩
     refine HL.step 8 rfl KR ?_
     refine RL.buildSlice ([vint 1, vint (around a 2), .slice none 0 0] ++ [vint 1, vint (around b 2), .slice none 0 0]) elem24 rfl (by decide) (fill2 (out := [vint 1, vint (around a 2), .slice none 0 0]) (out' := [vint 1, vint (around b 2), .slice none 0 0]) rfl rfl rfl rfl) rfl fun b110 => ?_
     refine RL.nil ⟨keep_more (hs106) SB, ?_⟩
     refine HL.step 9 rfl KR ?_
     refine RL.sealOwn (b := b110) (k := 2) (sz := 3) (ds := [(Val.mk 1 (around a 2) []), (Val.mk 1 (around b 2) [])].flatMap Val.enc) PK (kids2 (leaf_rd _ _) (leaf_rd _ _)) (by simp [*]) (by unfold lim; omega) fun Mb110 hsb110 hrb110 => ?_
     have hNc := hNc.mono hsb110
     have hT := hT.trans hsb110
     refine RL.call rfl func13 rfl rfl (by exact rop2_ok _ _ _ n [(Val.mk 1 (around a 2) []), (Val.mk 1 (around b 2) [])] _ r (Kn.of hrb110) rfl OM (by first | exact Nat.le_of_ble_eq_true rfl | (show _ ≤ _; omega) | assumption) (by first | exact Nat.le_of_ble_eq_true rfl | (show _ ≤ _; omega) | assumption) hr (fun _ => ⟨around2 a, around2 b⟩)) ?_
     rintro v111 M111 _ ⟨hx111, rfl, us111, rfl, hr111⟩
     have hs111 := hsb110.trans hx111
     have hNc := hNc.mono hx111
     have hT := hT.trans hx111
     refine RL.addRds hr111 ?_
     have hul111 : us111.length = 3 := hr111.1.trans (Val.enc_len _)
     refine RL.nil ⟨keep_more (hs106.trans (hs111)) SB, ?_⟩
     refine HL.step 10 rfl KR ?_
     refine RL.callv rfl func11 rfl rfl (by exact CallOk.val (same_ok _ _ _ r _ r _ (by exact Kn.rds MM) (by exact Kn.rds MM)) (v' := .bool true) (congrArg Value.bool (decide_eq_true (cmpV_self _)))) ?_
     refine RL.nil ⟨keep_more (hs106.trans (hs111)) SB, ?_⟩
     refine HL.take 11 rfl KR KR KR rfl (Y.not rfl) rfl ?_
     refine HL.done KR ?_
     refine hK22 _ _ _ ?_
     refine CW.kp [17, 18, 19, 113] rfl ?_
     refine CW.no rfl ?_
     refine CW.skip ?_
     refine hK21 _ _ _ ?_
     refine CW.region ?_
     refine RL.q (Y.move rfl) rfl ?_
     refine RL.q (Y.add rfl rfl OM) rfl ?_
     refine RL.q (Y.assign rfl) rfl ?_
     refine RL.nil ?_
     refine ⟨(9 - (n + 1)).toNat, [(19, _)], ?_, (KP [19, 17, 18]), ?_⟩
     · omega
     · exact Turn.drop ⟨[], rfl, by first | exact hsq.trans (hs106.trans hs111), n + 1, rfl, by omega, by omega, rfl, rfl, hNc, hT⟩ SB
    refine RL.buildSlice ([vint 1, vint (around a 2), .slice none 0 0] ++ [vint 1, vint (around b 2), .slice none 0 0]) elem24 rfl (by decide) (fill2 (out := [vint 1, vint (around a 2), .slice none 0 0]) (out' := [vint 1, vint (around b 2), .slice none 0 0]) rfl rfl rfl rfl) rfl fun b110 => ?_
    refine RL.nil ⟨keep_same SB, ?_⟩
    refine HL.step 4 rfl KR ?_
    refine RL.sealOwn (b := b105) (k := 2) (sz := 3) (ds := [(Val.mk 1 (around a 2) []), (Val.mk 1 (around b 2) [])].flatMap Val.enc) PK (kids2 (leaf_rd _ _) (leaf_rd _ _)) (by simp [*]) (by unfold lim; omega) fun Mb105 hsb105 hrb105 => ?_
    have hNc := hNc.mono hsb105
    have hT := hT.trans hsb105
    refine RL.call rfl func12 rfl rfl (by exact op_ok _ _ _ n [(Val.mk 1 (around a 2) []), (Val.mk 1 (around b 2) [])] _ r (Kn.of hrb105) hNc (by intro z hz; simp only [List.mem_cons, List.not_mem_nil, or_false] at hz; rcases hz with rfl | rfl <;> first | exact Nat.le_of_ble_eq_true rfl | omega) hr) ?_
    rintro v106 M106 _ ⟨hx106, rfl, us106, rfl, hr106⟩
    have hs106 := hsb105.trans hx106
    have hNc := hNc.mono hx106
    have hT := hT.trans hx106
    refine RL.addRds hr106 ?_
    have hul106 : us106.length = 3 := hr106.1.trans (Val.enc_len _)
    refine RL.nil ⟨keep_more (hs106) SB, ?_⟩
    refine HL.step 9 rfl KR ?_
    refine RL.sealOwn (b := b110) (k := 2) (sz := 3) (ds := [(Val.mk 1 (around a 2) []), (Val.mk 1 (around b 2) [])].flatMap Val.enc) PK (kids2 (leaf_rd _ _) (leaf_rd _ _)) (by simp [*]) (by unfold lim; omega) fun Mb110 hsb110 hrb110 => ?_
    have hNc := hNc.mono hsb110
    have hT := hT.trans hsb110
    refine RL.call rfl func13 rfl rfl (by exact rop2_ok _ _ _ n [(Val.mk 1 (around a 2) []), (Val.mk 1 (around b 2) [])] _ r (Kn.of hrb110) rfl OM (by first | exact Nat.le_of_ble_eq_true rfl | (show _ ≤ _; omega) | assumption) (by first | exact Nat.le_of_ble_eq_true rfl | (show _ ≤ _; omega) | assumption) hr (fun _ => ⟨around2 a, around2 b⟩)) ?_
    rintro v111 M111 _ ⟨hx111, rfl, us111, rfl, hr111⟩
    have hs111 := hsb110.trans hx111
    have hNc := hNc.mono hx111
    have hT := hT.trans hx111
    refine RL.addRds hr111 ?_
    have hul111 : us111.length = 3 := hr111.1.trans (Val.enc_len _)
    refine RL.nil ⟨keep_more (hs106.trans (hs111)) SB, ?_⟩
    refine HL.step 10 rfl KR ?_
    refine RL.callv rfl func11 rfl rfl (by exact CallOk.val (same_ok _ _ _ r _ r _ (by exact Kn.rds MM) (by exact Kn.rds MM)) (v' := .bool true) (congrArg Value.bool (decide_eq_true (cmpV_self _)))) ?_
    refine RL.nil ⟨keep_more (hs106.trans (hs111)) SB, ?_⟩
    refine HL.take 11 rfl KR KR KR rfl (Y.not rfl) rfl ?_
    refine HL.done KR ?_
    refine hK22 _ _ _ ?_
    refine CW.kp [17, 18, 19, 113] rfl ?_
    refine CW.no rfl ?_
    refine CW.skip ?_
    refine hK21 _ _ _ ?_
    refine CW.region ?_
    refine RL.q (Y.move rfl) rfl ?_
    refine RL.q (Y.add rfl rfl OM) rfl ?_
    refine RL.q (Y.assign rfl) rfl ?_
    refine RL.nil ?_
    refine ⟨(9 - (n + 1)).toNat, [(19, _)], ?_, (KP [19, 17, 18]), ?_⟩
    · omega
    · exact Turn.drop ⟨[], rfl, by first | exact hsq.trans (hs106.trans hs111), n + 1, rfl, by omega, by omega, rfl, rfl, hNc, hT⟩ SB
   refine RL.buildSlice ([vint 1, vint (around a 2), .slice none 0 0] ++ [vint 1, vint (around b 2), .slice none 0 0]) elem24 rfl (by decide) (fill2 (out := [vint 1, vint (around a 2), .slice none 0 0]) (out' := [vint 1, vint (around b 2), .slice none 0 0]) rfl rfl rfl rfl) rfl fun b110 => ?_
   refine RL.nil ⟨keep_same SB, ?_⟩
   refine HL.step 3 rfl KR ?_
   refine RL.buildSlice ([vint 1, vint (around a 2), .slice none 0 0] ++ [vint 1, vint (around b 2), .slice none 0 0]) elem24 rfl (by decide) (fill2 (out := [vint 1, vint (around a 2), .slice none 0 0]) (out' := [vint 1, vint (around b 2), .slice none 0 0]) rfl rfl rfl rfl) rfl fun b105 => ?_
   refine RL.nil ⟨keep_same SB, ?_⟩
   refine HL.step 4 rfl KR ?_
   refine RL.sealOwn (b := b105) (k := 2) (sz := 3) (ds := [(Val.mk 1 (around a 2) []), (Val.mk 1 (around b 2) [])].flatMap Val.enc) PK (kids2 (leaf_rd _ _) (leaf_rd _ _)) (by simp [*]) (by unfold lim; omega) fun Mb105 hsb105 hrb105 => ?_
   have hNc := hNc.mono hsb105
   have hT := hT.trans hsb105
   refine RL.call rfl func12 rfl rfl (by exact op_ok _ _ _ n [(Val.mk 1 (around a 2) []), (Val.mk 1 (around b 2) [])] _ r (Kn.of hrb105) hNc (by intro z hz; simp only [List.mem_cons, List.not_mem_nil, or_false] at hz; rcases hz with rfl | rfl <;> first | exact Nat.le_of_ble_eq_true rfl | omega) hr) ?_
   rintro v106 M106 _ ⟨hx106, rfl, us106, rfl, hr106⟩
   have hs106 := hsb105.trans hx106
   have hNc := hNc.mono hx106
   have hT := hT.trans hx106
   refine RL.addRds hr106 ?_
   have hul106 : us106.length = 3 := hr106.1.trans (Val.enc_len _)
   refine RL.nil ⟨keep_more (hs106) SB, ?_⟩
   refine HL.step 9 rfl KR ?_
   refine RL.sealOwn (b := b110) (k := 2) (sz := 3) (ds := [(Val.mk 1 (around a 2) []), (Val.mk 1 (around b 2) [])].flatMap Val.enc) PK (kids2 (leaf_rd _ _) (leaf_rd _ _)) (by simp [*]) (by unfold lim; omega) fun Mb110 hsb110 hrb110 => ?_
   have hNc := hNc.mono hsb110
   have hT := hT.trans hsb110
   refine RL.call rfl func13 rfl rfl (by exact rop2_ok _ _ _ n [(Val.mk 1 (around a 2) []), (Val.mk 1 (around b 2) [])] _ r (Kn.of hrb110) rfl OM (by first | exact Nat.le_of_ble_eq_true rfl | (show _ ≤ _; omega) | assumption) (by first | exact Nat.le_of_ble_eq_true rfl | (show _ ≤ _; omega) | assumption) hr (fun _ => ⟨around2 a, around2 b⟩)) ?_
   rintro v111 M111 _ ⟨hx111, rfl, us111, rfl, hr111⟩
   have hs111 := hsb110.trans hx111
   have hNc := hNc.mono hx111
   have hT := hT.trans hx111
   refine RL.addRds hr111 ?_
   have hul111 : us111.length = 3 := hr111.1.trans (Val.enc_len _)
   refine RL.nil ⟨keep_more (hs106.trans (hs111)) SB, ?_⟩
   refine HL.step 10 rfl KR ?_
   refine RL.callv rfl func11 rfl rfl (by exact CallOk.val (same_ok _ _ _ r _ r _ (by exact Kn.rds MM) (by exact Kn.rds MM)) (v' := .bool true) (congrArg Value.bool (decide_eq_true (cmpV_self _)))) ?_
   refine RL.nil ⟨keep_more (hs106.trans (hs111)) SB, ?_⟩
   refine HL.take 11 rfl KR KR KR rfl (Y.not rfl) rfl ?_
   refine HL.done KR ?_
   refine hK22 _ _ _ ?_
   refine CW.kp [17, 18, 19, 113] rfl ?_
   refine CW.no rfl ?_
   refine CW.skip ?_
   refine hK21 _ _ _ ?_
   refine CW.region ?_
   refine RL.q (Y.move rfl) rfl ?_
   refine RL.q (Y.add rfl rfl OM) rfl ?_
   refine RL.q (Y.assign rfl) rfl ?_
   refine RL.nil ?_
   refine ⟨(9 - (n + 1)).toNat, [(19, _)], ?_, (KP [19, 17, 18]), ?_⟩
   · omega
   · exact Turn.drop ⟨[], rfl, by first | exact hsq.trans (hs106.trans hs111), n + 1, rfl, by omega, by omega, rfl, rfl, hNc, hT⟩ SB
  refine CW.exit ?_
  refine hK17 _ _ _ ?_
  refine CW.seq fun K23 hK23 => ?_
  refine CW.regionH mix _ _ (fun _ hw => hw) ?_
  first | refine HL.take 0 rfl KR KR KR rfl (Y.loadAllR rfl MM MM EL agg26) rfl ?_ | refine HL.take 0 rfl KR KR KR rfl (Y.loadAll rfl MM (by rfl) agg26) rfl ?_ | refine HL.loadPart 0 rfl KR KR KR rfl rfl MM MM (by rfl) (by rfl) agg26 rfl fun us114 hul114 hur114 => ?_
  refine HL.take 3 rfl KR KR KR rfl (Y.field rfl field26_1) rfl ?_
  first | refine HL.take 4 rfl KR KR KR rfl (Y.loadOwnV rfl MM MM (by rfl) flat3) rfl ?_ | refine HL.take 4 rfl KR KR KR rfl (Y.loadOwn rfl MM (by rfl) flat3) rfl ?_ | refine HL.loadOwnSl 4 rfl KR KR KR rfl rfl MM MM (by rfl) flat3 rfl fun a118 c118 hu118 hc118 hl118 => ?_
  refine HL.take 5 rfl KR KR KR rfl (Y.sub rfl rfl OM) rfl ?_
  refine HL.take 6 rfl KR KR KR rfl (Y.build [vint 1, vint (1 - around a 2), .slice none 0 0] rfl zero26 places26 (by rfl)) rfl ?_
  refine HL.step 1 rfl KR ?_
  refine RL.buildSlice [vint 1, vint (around a 2), .slice none 0 0] elem24 rfl (by decide) (fill1 rfl rfl) rfl fun b115 => ?_
  refine RL.nil ⟨keep_same SB, ?_⟩
  refine HL.step 2 rfl KR ?_
  refine RL.sealOwn (b := b115) (k := 1) (sz := 3) (ds := [(Val.mk 1 (around a 2) [])].flatMap Val.enc) PK (kids1 (leaf_rd _ _)) rfl (by unfold lim; omega) fun Mb115 hsb115 hrb115 => ?_
  have hNc := hNc.mono hsb115
  have hT := hT.trans hsb115
  refine RL.call rfl func12 rfl rfl (by exact op_ok _ _ _ 9 [(Val.mk 1 (around a 2) [])] _ (.mk 1 (1 - around a 2) []) (Kn.of hrb115) hNc (by intro z hz; simp only [List.mem_cons, List.not_mem_nil, or_false] at hz; rcases hz with rfl; first | exact Nat.le_of_ble_eq_true rfl | omega) (congrArg some (not_bool (around2 a)))) ?_
  rintro v116 M116 _ ⟨hx116, rfl, us116, rfl, hr116⟩
  have hs116 := hsb115.trans hx116
  have hNc := hNc.mono hx116
  have hT := hT.trans hx116
  refine RL.addRds hr116 ?_
  have hul116 : us116.length = 3 := hr116.1.trans (Val.enc_len _)
  refine RL.nil ⟨keep_more (hs116) SB, ?_⟩
  refine HL.step 7 rfl KR ?_
  refine RL.callv rfl func11 rfl rfl (by exact CallOk.val (same_ok _ _ _ (.mk 1 (1 - around a 2) []) _ (.mk 1 (1 - around a 2) []) _ (Kn.of hr116) (Kn.of (leaf_rd _ _))) (v' := .bool true) (congrArg Value.bool (decide_eq_true (cmpV_self _)))) ?_
  refine RL.nil ⟨keep_more (hs116) SB, ?_⟩
  refine HL.take 8 rfl KR KR KR rfl (Y.move rfl) rfl ?_
  refine HL.step 9 rfl KR ?_
  refine RL.callv WG func18 rfl rfl (by exact lives_ok _ _ _ AO) ?_
  refine RL.nil ⟨keep_more (hs116) SB, ?_⟩
  refine HL.take 10 rfl KR KR KR rfl (Y.pickT rfl rfl) rfl ?_
  refine HL.take 11 rfl KR KR KR rfl (Y.assign rfl) rfl ?_
  refine HL.done KR ?_
  refine hK23 _ _ _ ?_
  refine CW.kp [8] rfl ?_
  refine CW.ret ?_
  exact ⟨_, rfl, Turn.back hw1 hT ⟨rfl, rfl, rfl⟩ SB⟩
end Go.Proofs.YtanbipbiblikbaaDoor

/-
  THE ENGINE, PART Ld: laws over variables of a package that are laid. No program in sight.
-/
namespace Xe
open Go Go.ChangeShapes Go.WideShapes Go.RowKit
/-- A law over any such arguments and what is laid, out of its walk. -/
theorem law_liftedT {H : Type} {enc : TypeId × Value → H} {C : Checked} {os : Os} {f : FuncId} {fn : Func} {s : ChangeSpec} {tb : TypeId} {fresh handsOn again : Bool} {laid : List (String × DataW Unit)} {F : Stop.Interp} (ts0 : List TypeId) (own : ownKnob C.prog.godebug = none) (started : os.Started) (noInit : C.prog.inits.idxOf? f = none) (hfn : C.prog.funcs[f]? = some fn)
    (hcl : closedB C.prog ts0 = true) (hl : laidOutB C.prog = true) (htb : C.prog.underlying tb = some .bool)
    (hts : (fn.params.toList.all fun t => ts0.contains t && C.prog.readableRec t && Nat.blt t C.prog.types.size) = true) (hres : fn.resultTypes = #[tb]) (hvars : s.vars = []) (hspec : ∀ ds : List (DataW H), ds.length = fn.params.toList.length → s.fn H ds = { results := [.lit (.bool true)], args := ds, vars := [] })
    (witness : ∃ (w : World) (tape : Tape) (i : Input), w.os = os ∧ (w.forCall tape i).Shaped C.prog ∧ i.vars = [] ∧ Input.okWide C.prog (w.forCall tape i) .any w.heap.size f i ∧
      (OpenSpec.ofChange s).preRow enc C.prog fn [] false laid (w.forCall tape i).memory i.args ∧ Assume.holds {} C.prog (lone (Frame.enter C.prog f i.args .normal) [] (w.forCall tape i)))
    (contract : ∀ (W : World) (vs : List Value), laidMetH C.prog laid W → ArgsW C.prog (memOf W) fn.params.toList vs → CallOk C.prog W (memOf W) [] f vs.toArray (Is (memOf W) [] (.bool true))) :
    ReturnsInHanded {} C os f .any ((OpenSpec.ofChange s).preRow enc C.prog fn [] false laid) (((OpenSpec.ofChange s).at F).post enc C.prog fn false fresh handsOn again) := by
  refine returnsInHanded_of_row (C := C) (s := OpenSpec.ofChange s) own started noInit hfn witness ?_
  intro W base args ds gs before hval hW _ _ hsz hL _ _
  exact law_core bulk_sizeOf (ds.map SizeOf.sizeOf).sum ts0 hcl hl htb hts hres hvars hspec hval hW hsz (fun d hd => le_sum SizeOf.sizeOf hd) fun vs h => contract W vs hL h.toW
end Xe

/- WHAT THE LAWS' ARGUMENTS READ AS. -/
namespace Go.Proofs.YtanbipbiblikbaaDoor
open Xe
set_option maxRecDepth 20000
theorem w3 : Y.intB Tryd.prog 3 .i64 = true := by kernel_rfl
theorem w22 : slcB Tryd.prog 22 3 1 = true := by kernel_rfl
section
variable {n : Nat} {ds : List D}
theorem ints_of (h : WT Tryd.prog n 22 ds) : ∃ l : List Int, ds = [dints l] ∧ ∀ x ∈ l, InI x := by
  obtain ⟨m, rfl, els, rfl, _, he⟩ := h.elems w22
  obtain ⟨l, e1, e2, e3⟩ := elems_of (enc := fun z => [dint z]) (Q := InI) fun x hx => (he x hx).int w3
  exact ⟨l, by rw [e1, e2, dints, List.map_eq_flatMap], e3⟩
end
/-! ### One argument after the other -/
section
variable {M : Mem} {ts : List TypeId} {vs : List Value}
theorem arg_ints (h : ArgsW Tryd.prog M (22 :: ts) vs) : ∃ (l : List Int) (v : Value) (vs' : List Value), vs = v :: vs' ∧ Rd M (dints l) v ∧ (∀ x ∈ l, InI x) ∧ ArgsW Tryd.prog M ts vs' := by
  obtain ⟨n, ds, us, v, vs', rfl, h1, h2, h3, h4⟩ := h.inv
  obtain ⟨l, rfl, hl⟩ := ints_of h2
  simp only [SlotOf, Tryd.underlying22] at h3
  subst h3
  exact ⟨l, v, vs', rfl, h1.2 0 _ _ rfl rfl, hl, h4⟩
theorem arg_int (h : ArgsW Tryd.prog M (3 :: ts) vs) : ∃ (z : Int) (vs' : List Value), vs = vint z :: vs' ∧ InI z ∧ ArgsW Tryd.prog M ts vs' := by
  obtain ⟨n, ds, us, v, vs', rfl, h1, h2, h3, h4⟩ := h.inv
  obtain ⟨z, rfl, hz⟩ := h2.int w3
  simp only [SlotOf, Tryd.underlying3] at h3
  subst h3
  have h5 := h1.2 0 _ _ rfl rfl
  obtain rfl := Rd.int_eq h5
  exact ⟨z, vs', rfl, hz, h4⟩
end
end Go.Proofs.YtanbipbiblikbaaDoor

/- WHAT THE LAID VARIABLE HOLDS; the world of the witness. -/
namespace Go.Proofs.YtanbipbiblikbaaDoor
open Xe Go.ChangeShapes Go.WideShapes Go.ChangeAt Go.RowKit
set_option maxRecDepth 100000
abbrev laidN : List (String × DataW Unit) := [( "splicery/eval.numbers", Rows.laid_splicery_eval_numbers)]
theorem ownKn : ownKnob Tryd.prog.godebug = none := by kernel_rfl
theorem gNums : Tryd.prog.globalNamed "splicery/eval.numbers" = some 0 := by kernel_rfl
theorem tNums : (Tryd.prog.globals[0]?).map (·.type) = some 70 := by kernel_rfl
theorem u70 : Tryd.prog.underlying 70 = some (.array 5 40) := by kernel_rfl
theorem u40 : Tryd.prog.underlying 40 = some (.func #[3, 3] #[3] false) := by kernel_rfl
theorem c40 : Tryd.prog.cellsOf 40 = 1 := by kernel_rfl
theorem nums_of {W : World} (h : laidMetH Tryd.prog laidN W) : NumsM (memOf W) := by
  obtain ⟨g, t, cs, fuel, p, hg, ht, hv, hd⟩ := h.funcs (List.mem_singleton.2 rfl)
  obtain rfl := Option.some.inj (gNums.symm.trans hg)
  obtain rfl := Option.some.inj (tNums.symm.trans ht)
  have hd1 : DataW.trod (funcToken Tryd.prog) Tryd.prog W 0 (fun _ => true) true fuel 70 cs.toList = some (.agg [.held [115, 112, 108, 105, 99, 101, 114, 121, 47, 101, 118, 97, 108, 46, 110, 117, 109, 98, 101, 114, 115, 36, 49], .held [115, 112, 108, 105, 99, 101, 114, 121, 47, 101, 118, 97, 108, 46, 110, 117, 109, 98, 101, 114, 115, 36, 50], .held [115, 112, 108, 105, 99, 101, 114, 121, 47, 101, 118, 97, 108, 46, 116, 105, 109, 101, 115], .held [115, 112, 108, 105, 99, 101, 114, 121, 47, 101, 118, 97, 108, 46, 100, 105, 118, 105, 100, 101], .held [115, 112, 108, 105, 99, 101, 114, 121, 47, 101, 118, 97, 108, 46, 114, 101, 115, 116]], p) := hd
  obtain ⟨xs, m, rfl, hx, hl, hxl, hf⟩ := DataW.trod_array u70 hd1
  simp only [Prod.mk.injEq, DataW.agg.injEq] at hx
  have key : ∀ (k : Nat) (b : UInt8) (r : List UInt8) (f0 : FuncId), k < 5 → ((List.range Tryd.prog.funcs.size).filter fun f => (Tryd.prog.funcs[f]?).any (·.name.toUTF8.data.toList == b :: r)) = [f0] → (xs.map (·.1))[k]? = some (.held (b :: r)) → cellM (memOf W) (adr (some ⟨0, 0, none⟩) k) = some (.func (.func f0) #[] #[]) := by
    intro k b r f0 hk hone hxk
    have h1 := hf k hk
    rw [c40, Nat.mul_one] at h1
    rw [List.getElem?_map] at hxk
    cases hy : xs[k]? with
    | none => rw [hy] at hxk; cases hxk
    | some y =>
      rw [hy] at hxk h1
      have e1 : y.1 = .held (b :: r) := Option.some.inj hxk
      have hlc : cs.toList.length = 5 := by rw [hl]; kernel_rfl
      have hkl : k < cs.toList.length := by omega
      have e2 : (cs.toList.drop k).take 1 = [cs.toList[k]] := by rw [List.drop_eq_getElem_cons hkl]; simp
      rw [e2] at h1
      have h2 := func_of_trod (q := y.2) u40 hone (by rw [h1, ← e1])
      rw [cellM_memOf, adr_some, Nat.zero_add, World.var?_cell hg hv k, ← h2]
      simp
  intro k hk
  have hx1 := hx.1.symm
  rcases k with _ | _ | _ | _ | _ | k
  · exact key 0 _ _ 132 (by omega) (by kernel_rfl) (by rw [hx1]; rfl)
  · exact key 1 _ _ 133 (by omega) (by kernel_rfl) (by rw [hx1]; rfl)
  · exact key 2 _ _ 134 (by omega) (by kernel_rfl) (by rw [hx1]; rfl)
  · exact key 3 _ _ 135 (by omega) (by kernel_rfl) (by rw [hx1]; rfl)
  · exact key 4 _ _ 136 (by omega) (by kernel_rfl) (by rw [hx1]; rfl)
  · omega
theorem door_met (os : Os) (args : Array Value) : laidMetH Tryd.prog laidN ((World.doorLaid Tryd.prog 600 os).forCall (fun _ _ => 0) ⟨#[], args, []⟩).memory :=
  laidMetH_of_parts3 (fuel := 8) (laidMet_of_run' 8 (by kernel_rfl) (by kernel_rfl)) (by kernel_rfl) (by kernel_rfl)
end Go.Proofs.YtanbipbiblikbaaDoor
