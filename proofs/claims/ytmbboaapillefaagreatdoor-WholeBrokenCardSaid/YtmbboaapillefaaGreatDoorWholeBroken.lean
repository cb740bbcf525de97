/-
  For all lists of integers and integers, WholeBroken returns true and its arguments read afterwards as they did. Condition: five package variables hold what mY card ties to mY text.
-/
import Derived.Test.YtmbboaapillefaaGreatDoorRows
import Derived.Test.YtmbboaapillefaaGreatDoorCards
import Derived.Test.YtmbboaapillefaaGreatDoorTie
import Derived.Test.YtmbboaapillefaaGreatDoorPb6
namespace Go.Proofs.YtmbboaapillefaaGreatDoor
open Xe Pm
set_option maxRecDepth 100000

theorem WholeBroken_ok (w0 : World) (M : Mem) (l : List Int) (p : Int) (n0 : Int) (ul : Value) (hM : zu M) (hl : Rd M (bY l) ul) (hli : ∀ x ∈ l, lX x) (hpi : lX p) (hn0i : lX n0) : jr Tryz.prog w0 M [] 7 [ul, (mj p), (mj n0)].toArray (fun u M' Γ' => u = .bool true ∧ M' = M ∧ Γ' = []) := by
  refine EE hM (Ii hli hpi hn0i) rfl (fun t => ?_) (fun _ => rfl) rfl rfl
  match t with
  | 0 => exact .inr ⟨_, rfl, hl⟩
  | 1 => exact .inr ⟨_, rfl, ⟨rfl, rfl⟩⟩
  | 2 => exact .inr ⟨_, rfl, ⟨rfl, rfl⟩⟩
  | t + 3 => exact .inl rfl
theorem spec7 {H : Type} (ds : List (DataW H)) (h : ds.length = Tryz.f7.params.toList.length) : Rows.wholeBrokenSpec.fn H ds = { results := [.lit (.bool true)], args := ds, vars := [] } := by
  rw [Tryz.params7] at h
  match ds, h with
  | [d1, d2, d3], _ => rfl
theorem args7 {W : World} {vs : List Value} (hL : laidMetH Tryz.prog oU W) (h : lB Tryz.prog (eu W) Tryz.f7.params.toList vs) : jr Tryz.prog W (eu W) [] 7 vs.toArray (Is (eu W) [] (.bool true)) := by
  rw [Tryz.params7] at h
  obtain ⟨l, ul, vs, rfl, hl, hli, k1⟩ := Rl h
  obtain ⟨p, vs, rfl, hpi, k2⟩ := KJ k1
  obtain ⟨n0, vs, rfl, hn0i, k3⟩ := KJ k2
  obtain rfl := k3.nil_inv
  exact WholeBroken_ok W (eu W) l p n0 ul (gr_of hL) hl hli hpi hn0i
theorem reads7 (os : Os) {H : Type} (enc : TypeId × Value → H) : ∃ places, DataW.whole enc Tryz.prog ((World.doorLaid Tryz.prog 3000 os).forCall (fun _ _ => 0) ⟨#[], #[.slice none 0 0, .int .i64 0, .int .i64 0], []⟩).memory Tryz.f7.params.toList Rows.wholeBrokenSpec.vars false #[.slice none 0 0, .int .i64 0, .int .i64 0].toList 8 = some ([.nil, .lit (.int .i64 0), .lit (.int .i64 0)], [], places) :=
  ⟨[], by kernel_rfl⟩
theorem lifted7 (os : Os) (started : os.Started) (H : Type) (enc : TypeId × Value → H) (F : Stop.Interp) :
    ReturnsInHanded {} Tryz.checked os 7 .any ((OpenSpec.ofChange Rows.wholeBrokenSpec).preRow enc Tryz.prog Tryz.f7 Rows.wholeBrokenRow.domain false Rows.wholeBrokenRow.laid) (((OpenSpec.ofChange Rows.wholeBrokenSpec).at F).post enc Tryz.prog Tryz.f7 false true false false) := by
  obtain ⟨places, hx⟩ := reads7 os enc
  exact E5 (C := Tryz.checked) (s := Rows.wholeBrokenSpec) (tb := 4) (laid := oU) [3, 22] ownKn started (by kernel_rfl) Tryz.func7 (by kernel_rfl) (by kernel_rfl) Tryz.underlying4 (by kernel_rfl) (by kernel_rfl) rfl (fun ds h => spec7 ds h)
    (witness_row_at (enc := enc) (C := Tryz.checked) false (World.doorLaid Tryz.prog 3000 os) #[.slice none 0 0, .int .i64 0, .int .i64 0] rfl (by kernel_rfl) (by kernel_rfl) (by kernel_rfl)
      (OpenSpec.preRow_of_cond 8 hx (by kernel_rfl) (fun k hk => by cases hk) (by kernel_rfl) (QJ os _))) (fun _ _ hL h => args7 hL h)
theorem wholeBroken_said : Rows.WholeBrokenSaid :=
  OpenClaim.holds_of_cond 7 Tryz.f7 rfl rfl rfl rfl rfl rfl rfl ⟨rfl, rfl, rfl, rfl, rfl⟩ rfl rfl rfl rfl rfl (by kernel_rfl) Tryz.func7 (by kernel_rfl)
    (of_decide_eq_true (by kernel_rfl)) (by unfold Func.isWrapper; first | (rw [if_pos (by decide +kernel)]; kernel_rfl) | (rw [if_neg (by decide +kernel)]; exact ⟨rfl, rfl⟩))
    (fun os started H enc _ F => by rw [OpenClaim.pre_eq_preRow]; exact lifted7 os started H enc F)
theorem plain7 (f : FuncId) (fn : Func) (hf : Tryz.pinned.checked.prog.funcNamed "splicery/splicerylaw22.WholeBroken" = some f) (hfn : Tryz.pinned.checked.prog.funcs[f]? = some fn) :
    false = Tryz.pinned.checked.prog.looks [] ∧ ∀ (j : Nat) t, fn.params[j]? = some t → Tryz.pinned.checked.prog.wantsStandIn t = false := by
  obtain rfl : f = 7 := Option.some.inj ((show Tryz.prog.funcNamed "splicery/splicerylaw22.WholeBroken" = some 7 by kernel_rfl).symm.trans hf) |>.symm
  obtain rfl : fn = Tryz.f7 := (Option.some.inj (Tryz.func7.symm.trans hfn)).symm
  refine ⟨by kernel_rfl, fun j t ht => ?_⟩
  have hall : (Tryz.f7.params.toList.all fun t => !Tryz.prog.wantsStandIn t) = true := by kernel_rfl
  have := List.all_eq_true.1 hall t (Array.mem_toList_iff.2 (Array.mem_of_getElem? ht))
  exact (show Tryz.prog.wantsStandIn t = false by simpa using this)
theorem wholeBroken_card : Rows.WholeBrokenCardSaid :=
  Claim7.holds_tied_plain_at .later [] _ _ _ _ wholeBroken_said (fun _ h => by cases h) (by kernel_rfl) (fun _ h => by cases h) wholeBroken_row_tie rfl ⟨rfl, rfl⟩ (by kernel_rfl) rfl plain7 (by kernel_rfl)
#print axioms wholeBroken_card
end Go.Proofs.YtmbboaapillefaaGreatDoor
